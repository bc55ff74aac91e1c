/- Part 9 of what the law FnPapers stands on: an evaluator of the model's code, proved sound; the functions as plain texts; their contracts. -/
import Derived.Test.YtgddpcjbjkbpcaaChecked
import Derived.Test.YtgddpcjbjkbpcaaProg
import Derived.Test.YtgddpcjbjkbpcaaRows
import Derived.Below
import Derived.Calls
import Derived.Carry
import Derived.ChangeArms
import Derived.ChangeKeysEq
import Derived.ChangeOld
import Derived.Deep.Quiet
import Derived.KernelRfl
import Derived.Laws.Append
import Derived.Laws.BytesString
import Derived.Laws.MakeOwn
import Derived.Laws.Strings
import Derived.Laws.StructEq
import Derived.OpenShut
import Derived.OrdersHeld
import Derived.ProofKit
import Derived.ShutString
import Derived.SizedLaws
import Derived.Tactics
import Derived.WalkKit
import Derived.WideShapes
import Derived.Test.YtgddpcjbjkbpcaaEvPapers8
namespace Go.Pl
open Go.Ev
set_option linter.unusedVariables false
set_option linter.unusedSimpArgs false
def lnT (l : ByteArray × Int) : List UInt8 := digs l.2.toNat ++ 120 :: bl l.1
def hdT (p : ByteArray × Int × List (ByteArray × Int)) : List UInt8 := bl p.1 ++ 32 :: digs p.2.1.toNat
def lnF (st : ByteArray) (l : ByteArray × Int) : ByteArray := st ++ ob (59 :: lnT l)
def txT (p : ByteArray × Int × List (ByteArray × Int)) : ByteArray := p.2.2.foldl lnF (ob (hdT p))
theorem joinL_flat (b : UInt8) : ∀ (xs : List (List UInt8)) (x : List UInt8), joinL [b] (x :: xs) = x ++ xs.flatMap (fun r => b :: r) := by
  intro xs
  induction xs with
  | nil => intro x; simp [joinL]
  | cons y ys ih => intro x; rw [joinL_cons [b] x (by simp), ih]; simp
theorem txT_bl (p : ByteArray × Int × List (ByteArray × Int)) : bl (txT p) = joinL [59] (hdT p :: p.2.2.map lnT) := by
  have key : ∀ (ls : List (ByteArray × Int)) (st : ByteArray), bl (ls.foldl lnF st) = bl st ++ (ls.map lnT).flatMap (fun r => 59 :: r) := by
    intro ls
    induction ls with
    | nil => intro st; simp
    | cons l ls ih => intro st; rw [List.foldl_cons, ih]; unfold lnF; rw [bl_append, bl_ob]; simp
  unfold txT
  rw [key, bl_ob, joinL_flat]
/-- a paper of which the text is small -/
def TxOk (p : ByteArray × Int × List (ByteArray × Int)) : Prop := p.1.size ≤ 1000 ∧ (0 ≤ p.2.1 ∧ p.2.1 ≤ 1000000) ∧ p.2.2.length ≤ 100 ∧ ∀ l ∈ p.2.2, l.1.size ≤ 1000 ∧ 0 ≤ l.2 ∧ l.2 ≤ 1000000
theorem digs_sz {n : Int} (h0 : 0 ≤ n) (h1 : n ≤ 1000000) : (decB n).size ≤ 20 := decB_size (by omega) (by omega)
theorem dec_nn {n : Int} (h0 : 0 ≤ n) : decB n = ob (digs n.toNat) := by unfold decB; rw [if_neg (by omega)]
theorem impl_dec' {n : Int} (h0 : 0 ≤ n) (h : n ≤ 1000000) : impl_decimal.f n = some (decB n) := impl_decimal_f (by omega) (by omega)
theorem spec_dec' {n : Int} (h0 : 0 ≤ n) (h : n ≤ 1000000) : spec_l01Dec.f n = some (decB n) := spec_l01Dec_f (by omega) (by omega)
noncomputable def impl_text_call (k : Nat) (p : ByteArray × Int × List (ByteArray × Int)) (i : Int) (st : ByteArray) := impl_paperText.l3 NN k st p.2.2 p.2.2.length i
noncomputable def spec_text_call (k : Nat) (p : ByteArray × Int × List (ByteArray × Int)) (i : Int) (st : ByteArray) := spec_l29Text.l3 NN k st i p
theorem impl_paperText_f (p : ByteArray × Int × List (ByteArray × Int)) (h : TxOk p) : impl_paperText.f p = some (txT p) ∧ (txT p).size ≤ 1000000 := by
  obtain ⟨v, d, ls⟩ := p
  obtain ⟨h1, h2, h3, h4⟩ := h
  simp only at h1 h2 h3 h4
  have z1 : (⟨#[32]⟩ : ByteArray).size = 1 := rfl
  have z2 : (⟨#[59]⟩ : ByteArray).size = 1 := rfl
  have z3 : (⟨#[120]⟩ : ByteArray).size = 1 := rfl
  have hd := digs_sz h2.1 h2.2
  have hst : (v ++ (⟨#[32]⟩ : ByteArray)) ++ decB d = ob (hdT (v, d, ls)) := by
    rw [dec_nn h2.1]
    apply bl_inj
    unfold hdT
    simp [bl_append, bl_lit, bl_ob]
  have hsz : (ob (hdT (v, d, ls))).size ≤ 1100 := by rw [← hst, ByteArray.size_append, ByteArray.size_append, z1]; omega
  have := fold_fix (E := fun l : ByteArray × Int => l.1.size ≤ 1000 ∧ 0 ≤ l.2 ∧ l.2 ≤ 1000000) (fun p st => st.size ≤ 2000 * (p.length + 1)) (fun _ => lnF) some (fun k i st => impl_text_call k (v, d, ls) i st) ls ?_ ?_ (ob (hdT (v, d, ls))) h4 (by simp only [List.length_nil]; omega) (by omega) NN (NN_lt (by omega))
  · rw [foldi_foldl] at this
    refine ⟨?_, ?_⟩
    · unfold impl_paperText.f impl_paperText.fn impl_paperText.top
      simp only [impl_dec' h2.1 h2.2, Option.bind_some]
      rw [if_pos (by omega), if_pos (by rw [ByteArray.size_append]; omega), hst]
      exact this.2
    · have h5 := this.1
      show (ls.foldl lnF (ob (hdT (v, d, ls)))).size ≤ 1000000
      omega
  · intro k st _
    simp [impl_text_call, impl_paperText.l3, impl_paperText.g3]
  · intro k q l r st hls hle hI c0 c1 c2 cw g
    have hld := digs_sz hle.2.1 hle.2.2
    have hq : q.length ≤ 100 := by omega
    have e : lnF st l = st ++ (((⟨#[59]⟩ : ByteArray) ++ decB l.2) ++ (⟨#[120]⟩ : ByteArray) ++ l.1) := by
      rw [dec_nn hle.2.1]
      apply bl_inj
      unfold lnF lnT
      simp [bl_append, bl_lit, bl_ob]
    have e2 : lnF st l = ((st ++ (⟨#[59]⟩ : ByteArray)) ++ decB l.2) ++ (⟨#[120]⟩ : ByteArray) ++ l.1 := by
      rw [e]
      apply bl_inj
      simp [bl_append]
    refine ⟨?_, ?_⟩
    · rw [e]
      simp only [ByteArray.size_append, z2, z3, List.length_append, List.length_singleton]
      omega
    · simp only [impl_text_call, impl_paperText.l3, impl_paperText.g3, c0, c1, cw, g, and_self, and_true, true_and, decide_true, decide_false, if_true, if_false, mid_get, mid_set, mid_getn, mid_setn, bt_mid, Option.bind_some, Bool.not_true, Bool.not_false, Bool.false_eq_true, Bool.true_eq_false, beq_self_eq_true, bne_self_eq_false, Int.toNat_natCast, impl_dec' hle.2.1 hle.2.2]
      have q1 : (⟨#[59]⟩ : ByteArray).size + (decB l.2).size ≤ 9223372036854775807 := by omega
      have q2 : ((⟨#[59]⟩ : ByteArray) ++ decB l.2).size + (⟨#[120]⟩ : ByteArray).size ≤ 9223372036854775807 := by rw [ByteArray.size_append]; omega
      have q3 : (((⟨#[59]⟩ : ByteArray) ++ decB l.2) ++ (⟨#[120]⟩ : ByteArray)).size + l.1.size ≤ 9223372036854775807 := by simp only [ByteArray.size_append]; omega
      have q4 : st.size + ((((⟨#[59]⟩ : ByteArray) ++ decB l.2) ++ (⟨#[120]⟩ : ByteArray)) ++ l.1).size ≤ 9223372036854775807 := by simp only [ByteArray.size_append]; omega
      have p1 : st.size + (⟨#[59]⟩ : ByteArray).size ≤ 9223372036854775807 := by omega
      have p2 : (st ++ (⟨#[59]⟩ : ByteArray)).size + (decB l.2).size ≤ 9223372036854775807 := by rw [ByteArray.size_append]; omega
      have p3 : ((st ++ (⟨#[59]⟩ : ByteArray)) ++ decB l.2).size + (⟨#[120]⟩ : ByteArray).size ≤ 9223372036854775807 := by simp only [ByteArray.size_append]; omega
      have p4 : (((st ++ (⟨#[59]⟩ : ByteArray)) ++ decB l.2) ++ (⟨#[120]⟩ : ByteArray)).size + l.1.size ≤ 9223372036854775807 := by simp only [ByteArray.size_append]; omega
      first
        | (rw [e]; simp only [q1, q2, q3, q4, if_true])
        | (rw [e2]; simp only [p1, p2, p3, p4, if_true])
theorem spec_l29Text_f (p : ByteArray × Int × List (ByteArray × Int)) (h : TxOk p) : spec_l29Text.f p = some (txT p) ∧ (txT p).size ≤ 1000000 := by
  obtain ⟨v, d, ls⟩ := p
  obtain ⟨h1, h2, h3, h4⟩ := h
  simp only at h1 h2 h3 h4
  have z1 : (⟨#[32]⟩ : ByteArray).size = 1 := rfl
  have z2 : (⟨#[59]⟩ : ByteArray).size = 1 := rfl
  have z3 : (⟨#[120]⟩ : ByteArray).size = 1 := rfl
  have hd := digs_sz h2.1 h2.2
  have hst : (v ++ (⟨#[32]⟩ : ByteArray)) ++ decB d = ob (hdT (v, d, ls)) := by
    rw [dec_nn h2.1]
    apply bl_inj
    unfold hdT
    simp [bl_append, bl_lit, bl_ob]
  have hsz : (ob (hdT (v, d, ls))).size ≤ 1100 := by rw [← hst, ByteArray.size_append, ByteArray.size_append, z1]; omega
  have := fold_fix (E := fun l : ByteArray × Int => l.1.size ≤ 1000 ∧ 0 ≤ l.2 ∧ l.2 ≤ 1000000) (fun p st => st.size ≤ 2000 * (p.length + 1)) (fun _ => lnF) some (fun k i st => spec_text_call k (v, d, ls) i st) ls ?_ ?_ (ob (hdT (v, d, ls))) h4 (by simp only [List.length_nil]; omega) (by omega) NN (NN_lt (by omega))
  · rw [foldi_foldl] at this
    refine ⟨?_, ?_⟩
    · unfold spec_l29Text.f spec_l29Text.fn spec_l29Text.top
      simp only [spec_dec' h2.1 h2.2, Option.bind_some]
      rw [if_pos (by omega), if_pos (by rw [ByteArray.size_append]; omega), hst]
      exact this.2
    · have h5 := this.1
      show (ls.foldl lnF (ob (hdT (v, d, ls)))).size ≤ 1000000
      omega
  · intro k st _
    simp [spec_text_call, spec_l29Text.l3, spec_l29Text.g3]
  · intro k q l r st hls hle hI c0 c1 c2 cw g
    have hld := digs_sz hle.2.1 hle.2.2
    have hq : q.length ≤ 100 := by omega
    have e : lnF st l = st ++ (((⟨#[59]⟩ : ByteArray) ++ decB l.2) ++ (⟨#[120]⟩ : ByteArray) ++ l.1) := by
      rw [dec_nn hle.2.1]
      apply bl_inj
      unfold lnF lnT
      simp [bl_append, bl_lit, bl_ob]
    have e2 : lnF st l = ((st ++ (⟨#[59]⟩ : ByteArray)) ++ decB l.2) ++ (⟨#[120]⟩ : ByteArray) ++ l.1 := by
      rw [e]
      apply bl_inj
      simp [bl_append]
    refine ⟨?_, ?_⟩
    · rw [e]
      simp only [ByteArray.size_append, z2, z3, List.length_append, List.length_singleton]
      omega
    · simp only [spec_text_call, spec_l29Text.l3, spec_l29Text.g3, c0, c1, cw, g, and_self, and_true, true_and, decide_true, decide_false, if_true, if_false, mid_get, mid_set, mid_getn, mid_setn, bt_mid, Option.bind_some, Bool.not_true, Bool.not_false, Bool.false_eq_true, Bool.true_eq_false, beq_self_eq_true, bne_self_eq_false, Int.toNat_natCast, spec_dec' hle.2.1 hle.2.2]
      have q1 : (⟨#[59]⟩ : ByteArray).size + (decB l.2).size ≤ 9223372036854775807 := by omega
      have q2 : ((⟨#[59]⟩ : ByteArray) ++ decB l.2).size + (⟨#[120]⟩ : ByteArray).size ≤ 9223372036854775807 := by rw [ByteArray.size_append]; omega
      have q3 : (((⟨#[59]⟩ : ByteArray) ++ decB l.2) ++ (⟨#[120]⟩ : ByteArray)).size + l.1.size ≤ 9223372036854775807 := by simp only [ByteArray.size_append]; omega
      have q4 : st.size + ((((⟨#[59]⟩ : ByteArray) ++ decB l.2) ++ (⟨#[120]⟩ : ByteArray)) ++ l.1).size ≤ 9223372036854775807 := by simp only [ByteArray.size_append]; omega
      have p1 : st.size + (⟨#[59]⟩ : ByteArray).size ≤ 9223372036854775807 := by omega
      have p2 : (st ++ (⟨#[59]⟩ : ByteArray)).size + (decB l.2).size ≤ 9223372036854775807 := by rw [ByteArray.size_append]; omega
      have p3 : ((st ++ (⟨#[59]⟩ : ByteArray)) ++ decB l.2).size + (⟨#[120]⟩ : ByteArray).size ≤ 9223372036854775807 := by simp only [ByteArray.size_append]; omega
      have p4 : (((st ++ (⟨#[59]⟩ : ByteArray)) ++ decB l.2) ++ (⟨#[120]⟩ : ByteArray)).size + l.1.size ≤ 9223372036854775807 := by simp only [ByteArray.size_append]; omega
      first
        | (rw [e]; simp only [q1, q2, q3, q4, if_true])
        | (rw [e2]; simp only [p1, p2, p3, p4, if_true])
theorem paper_tx {p : ByteArray × Int × List (ByteArray × Int)} (h : paperB p = true) : TxOk p := by
  obtain ⟨h1, h2, h3⟩ := paperB_iff h
  obtain ⟨h4, h5⟩ := linesB_ok h3
  have := wordB_size h1
  refine ⟨by omega, by omega, by omega, fun l hl => ?_⟩
  have h6 := lineOk_iff.1 (h5 l hl)
  have := wordB_size h6.1
  omega
def textR (p : ByteArray × Int × List (ByteArray × Int)) : ByteArray × Int := if paperB p = true then (txT p, 0) else (⟨#[]⟩, 1)
theorem PaperText_both (p : ByteArray × Int × List (ByteArray × Int)) (hp : OkPaper p) : impl_PaperText.f p = some (textR p) ∧ spec_PaperText.f p = some (textR p) := by
  unfold impl_PaperText.f impl_PaperText.fn impl_PaperText.top spec_PaperText.f spec_PaperText.fn spec_PaperText.top textR
  rw [impl_IsPaper_f p hp, spec_IsPaper_f p hp]
  cases hb : paperB p
  · exact ⟨rfl, rfl⟩
  · simp only [Option.bind_some, Bool.not_true, Bool.false_eq_true, if_false, if_true, (impl_paperText_f p (paper_tx hb)).1, (spec_l29Text_f p (paper_tx hb)).1, and_self]
theorem word_in {s : ByteArray} (h : wordB s = true) : ∀ c ∈ bl s, 97 ≤ c.toNat ∧ c.toNat ≤ 122 := by
  unfold wordB at h
  simp only [Bool.and_eq_true, decide_eq_true_eq] at h
  intro c hc
  have := List.all_eq_true.1 h.2 c hc
  unfold letB at this
  simp at this
  omega
theorem nin {n : Nat} (hn : n < 256) {l : List UInt8} (h : ∀ c ∈ l, c.toNat ≠ n) : UInt8.ofNat n ∉ l := fun hm => h _ hm (Nat.mod_eq_of_lt hn)
theorem digs_in (n : Nat) : ∀ c ∈ digs n, 48 ≤ c.toNat ∧ c.toNat ≤ 57 := fun c hc => isDig_iff.1 (digs_digits n c hc)
theorem rdV_digs {n : Int} (h0 : 0 ≤ n) (h1 : n ≤ 1000000) : rdV (ob (digs n.toNat)) = (n, true) := by
  have hl := digs_len 6 n.toNat (by omega)
  unfold rdV
  rw [bl_ob, ob_size, digs_val, if_pos ⟨hl.2, by omega, List.all_eq_true.2 (digs_digits _)⟩, Int.toNat_of_nonneg h0, decide_eq_true rfl]
theorem cutX_none : ∀ (p : List UInt8), (120 : UInt8) ∉ p → ∀ r, cutX (p ++ 120 :: r) = some (p, r) := by
  intro p h r
  rw [cutX_app p h]
  simp [cutX]
theorem lineR_lnT {l : ByteArray × Int} (h : lineOk l = true) : lineR rdV (ob (lnT l)) = (l, true) := by
  have hl := lineOk_iff.1 h
  unfold lineR lnT
  rw [bl_ob, cutX_none _ (nin (n := 120) (by omega) (fun c hc => by have := digs_in _ c hc; omega))]
  simp only [rdV_digs (show 0 ≤ l.2 by omega) (by omega), ob_bl]
theorem linesR_map : ∀ (ls : List (ByteArray × Int)), (∀ l ∈ ls, lineOk l = true) → linesR rdV ((ls.map lnT).map ob) = some ls := by
  intro ls
  induction ls with
  | nil => intro _; rfl
  | cons l ls ih =>
    intro h
    simp only [List.map_cons, linesR, lineR_lnT (h l (by simp)), if_true, ih (fun x hx => h x (by simp [hx])), Option.map_some]
theorem lnT_59 {l : ByteArray × Int} (h : lineOk l = true) : (59 : UInt8) ∉ lnT l := by
  have hl := lineOk_iff.1 h
  refine nin (n := 59) (by omega) (fun c hc => ?_)
  unfold lnT at hc
  rcases List.mem_append.1 hc with hc | hc
  · have := digs_in _ c hc; omega
  · rcases List.mem_cons.1 hc with rfl | hc
    · decide
    · have := word_in hl.1 c hc; omega
theorem read_text {p : ByteArray × Int × List (ByteArray × Int)} (h : paperB p = true) : readP rdV (txT p) = (p, 0) := by
  obtain ⟨h1, h2, h3⟩ := paperB_iff h
  obtain ⟨h4, h5⟩ := linesB_ok h3
  have e1 : splitL 59 (bl (txT p)) = hdT p :: p.2.2.map lnT := by
    rw [txT_bl]
    refine splitL_joinL 59 _ (by simp) (fun x hx => ?_)
    rcases List.mem_cons.1 hx with rfl | hx
    · refine nin (n := 59) (by omega) (fun c hc => ?_)
      unfold hdT at hc
      rcases List.mem_append.1 hc with hc | hc
      · have := word_in h1 c hc; omega
      · rcases List.mem_cons.1 hc with rfl | hc
        · decide
        · have := digs_in _ c hc; omega
    · obtain ⟨l, hl, rfl⟩ := List.mem_map.1 hx
      exact lnT_59 (h5 l hl)
  have e2 : splitL 32 (hdT p) = [bl p.1, digs p.2.1.toNat] := by
    have : hdT p = joinL [32] [bl p.1, digs p.2.1.toNat] := by simp [hdT, joinL]
    rw [this]
    refine splitL_joinL 32 _ (by simp) (fun x hx => ?_)
    simp only [List.mem_cons, List.not_mem_nil, or_false] at hx
    rcases hx with rfl | rfl
    · exact nin (n := 32) (by omega) (fun c hc => by have := word_in h1 c hc; omega)
    · exact nin (n := 32) (by omega) (fun c hc => by have := digs_in _ c hc; omega)
  have e3 : rdV (ob (digs p.2.1.toNat)) = (p.2.1, true) := rdV_digs h2.1 (by omega)
  unfold readP
  rw [e1]
  simp only [e2, e3, if_true, linesR_map _ h5, Option.elim_some, ob_bl]
  rw [if_pos h]
theorem rdV_true {s : ByteArray} (h : (rdV s).2 = true) : 0 ≤ (rdV s).1 ∧ digs (rdV s).1.toNat = bl s := by
  unfold rdV at h ⊢
  split at h
  · rename_i hc
    rw [if_pos hc]
    simp only [decide_eq_true_eq] at h
    exact ⟨by simp only; omega, by simp only [Int.toNat_natCast]; exact h⟩
  · cases h
theorem cutX_some : ∀ (s a b : List UInt8), cutX s = some (a, b) → s = a ++ 120 :: b := by
  intro s
  induction s with
  | nil => intro a b h; cases h
  | cons c r ih =>
    intro a b h
    simp only [cutX] at h
    split at h
    · rename_i hc
      simp only [Option.some.injEq, Prod.mk.injEq] at h
      obtain ⟨rfl, rfl⟩ := h
      rw [hc]; rfl
    · cases hr : cutX r with
      | none => rw [hr] at h; cases h
      | some x =>
        rw [hr] at h
        simp only [Option.map_some, Option.some.injEq, Prod.mk.injEq] at h
        obtain ⟨rfl, rfl⟩ := h
        rw [ih x.1 x.2 hr]; rfl
theorem lineR_true {s : ByteArray} (h : (lineR rdV s).2 = true) : lnT (lineR rdV s).1 = bl s := by
  unfold lineR at h ⊢
  cases hc : cutX (bl s) with
  | none => rw [hc] at h; cases h
  | some x =>
    rw [hc] at h
    obtain ⟨a, b⟩ := x
    simp only at h ⊢
    have h2 := (rdV_true h).2
    rw [bl_ob] at h2
    unfold lnT
    simp only
    rw [h2, bl_ob, cutX_some _ _ _ hc]
theorem linesR_some : ∀ (xs : List (List UInt8)) (ls : List (ByteArray × Int)), linesR rdV (xs.map ob) = some ls → ls.map lnT = xs := by
  intro xs
  induction xs with
  | nil =>
    intro ls h
    simp only [List.map_nil, linesR, Option.some.injEq] at h
    rw [← h]; rfl
  | cons x xs ih =>
    intro ls h
    simp only [List.map_cons, linesR] at h
    split at h
    · rename_i hl
      cases hr : linesR rdV (xs.map ob) with
      | none => rw [hr] at h; cases h
      | some ms =>
        rw [hr] at h
        simp only [Option.map_some, Option.some.injEq] at h
        rw [← h, List.map_cons, ih ms hr, lineR_true hl, bl_ob]
    · cases h
theorem text_read {s : ByteArray} (h : (readP rdV s).2 = 0) : paperB (readP rdV s).1 = true ∧ txT (readP rdV s).1 = s := by
  unfold readP at h ⊢
  cases h1 : splitL 59 (bl s) with
  | nil => rw [h1] at h; simp [badP] at h
  | cons x xs =>
    rw [h1] at h
    simp only at h ⊢
    split at h
    · rename_i a b h2
      by_cases h3 : (rdV (ob b)).2 = true
      · rw [if_pos h3] at h ⊢
        cases h4 : linesR rdV (xs.map ob) with
        | none => rw [h4] at h; simp [badP] at h
        | some ls =>
          rw [h4] at h
          simp only [Option.elim_some] at h ⊢
          by_cases h5 : paperB (ob a, (rdV (ob b)).1, ls) = true
          · rw [if_pos h5]
            refine ⟨h5, ?_⟩
            apply bl_inj
            have e1 := (rdV_true h3).2
            rw [bl_ob] at e1
            have e2 : hdT (ob a, (rdV (ob b)).1, ls) = x := by
              unfold hdT
              simp only [bl_ob, e1]
              have := joinL_splitL 32 x
              rw [h2] at this
              rw [← this]; simp [joinL]
            rw [txT_bl, e2, linesR_some xs ls h4, ← h1, joinL_splitL]
          · rw [if_neg h5] at h; simp [badP] at h
      · rw [if_neg h3] at h; simp [badP] at h
    · simp [badP] at h
end Go.Pl

namespace Go.Pl
open Go.Ev
set_option linter.unusedVariables false
noncomputable section
def impl_totalsOf.g3 (L3 : ByteArray → (List (Int × ByteArray × Int)) → Int → Int → List Int → Option (List Int)) (article1 : ByteArray) (v9 : List (Int × ByteArray × Int)) (v10 : Int) (v11 : Int) (out5 : List Int) : Option (List Int) :=
  if (decide ((v11 : Int) < v10)) = true then
    if (0 : Int) ≤ v11 ∧ (v11 : Int) < v9.length then
      if ((((v9.getD (v11 : Int).toNat (0, (ByteArray.empty, 0))).2).1).toList == article1.toList) = true then
        if (0 : Int) ≤ ((v9.getD (v11 : Int).toNat (0, (ByteArray.empty, 0))).1) ∧ (((v9.getD (v11 : Int).toNat (0, (ByteArray.empty, 0))).1) : Int) < out5.length then
          if (0 : Int) ≤ ((v9.getD (v11 : Int).toNat (0, (ByteArray.empty, 0))).1) ∧ (((v9.getD (v11 : Int).toNat (0, (ByteArray.empty, 0))).1) : Int) < out5.length then
            L3 article1 v9 v10 (IntKind.i64.wrap (v11 + 1)) (out5.set (((v9.getD (v11 : Int).toNat (0, (ByteArray.empty, 0))).1) : Int).toNat (IntKind.i64.wrap ((out5.getD (((v9.getD (v11 : Int).toNat (0, (ByteArray.empty, 0))).1) : Int).toNat 0) + (((v9.getD (v11 : Int).toNat (0, (ByteArray.empty, 0))).2).2))))
          else
            none
        else
          none
      else
        L3 article1 v9 v10 (IntKind.i64.wrap (v11 + 1)) out5
    else
      none
  else
    some out5
def impl_totalsOf.l3 (n : Nat) : Nat → ByteArray → (List (Int × ByteArray × Int)) → Int → Int → List Int → Option (List Int)
  | 0 => fun _ _ _ _ _ => none
  | k + 1 => impl_totalsOf.g3 (impl_totalsOf.l3 n k)
def impl_totalsOf.top (I3 : ByteArray → (List (Int × ByteArray × Int)) → Int → Int → List Int → Option (List Int)) (list0 : List (Int × ByteArray × Int)) (article1 : ByteArray) : Option (List Int) :=
  @ite _ ((0 : Int) ≤ 4 ∧ (4 : Int) < room 8 ∧ (4 : Int) = 4) (Classical.propDecidable _) (
    I3 article1 list0 (list0.length : Int) 0 (List.replicate (4 : Int).toNat 0)
  ) (
    none
  )
def impl_totalsOf.fn (n : Nat) (list0 : List (Int × ByteArray × Int)) (article1 : ByteArray) : Option (List Int) := impl_totalsOf.top (impl_totalsOf.l3 n n) list0 article1
def impl_totalsOf.f (list0 : List (Int × ByteArray × Int)) (article1 : ByteArray) : Option (List Int) := impl_totalsOf.fn NN list0 article1
end
end Go.Pl

namespace Go.Pl
open Go.Ev
set_option linter.unusedVariables false
noncomputable section
def impl_piecesLeft.top (list0 : List (Int × ByteArray × Int)) (article1 : ByteArray) : Option Int :=
  (impl_totalsOf.f list0 article1).bind fun r1 =>
  if (0 : Int) ≤ 0 ∧ (0 : Int) < r1.length then
    if (0 : Int) ≤ 1 ∧ (1 : Int) < r1.length then
      if (0 : Int) ≤ 2 ∧ (2 : Int) < r1.length then
        if (0 : Int) ≤ 3 ∧ (3 : Int) < r1.length then
          some (IntKind.i64.wrap ((IntKind.i64.wrap ((IntKind.i64.wrap ((r1.getD (0 : Int).toNat 0) - (r1.getD (1 : Int).toNat 0))) - (r1.getD (2 : Int).toNat 0))) - (r1.getD (3 : Int).toNat 0)))
        else
          none
      else
        none
    else
      none
  else
    none
def impl_piecesLeft.fn (n : Nat) (list0 : List (Int × ByteArray × Int)) (article1 : ByteArray) : Option Int := impl_piecesLeft.top list0 article1
def impl_piecesLeft.f (list0 : List (Int × ByteArray × Int)) (article1 : ByteArray) : Option Int := impl_piecesLeft.fn NN list0 article1
end
end Go.Pl

namespace Go.Pl
open Go.Ev
set_option linter.unusedVariables false
noncomputable section
def spec_l32Left.g3 (L3 : (List (Int × ByteArray × Int)) → ByteArray → Int → Int → Int → Option Int) (list0 : List (Int × ByteArray × Int)) (article1 : ByteArray) (n2 : Int) (left7 : Int) (i8 : Int) : Option Int :=
  if (decide ((i8 : Int) < n2)) = true then
    if (0 : Int) ≤ i8 ∧ (i8 : Int) < list0.length then
      if (!((((list0.getD (i8 : Int).toNat (0, (ByteArray.empty, 0))).2).1).toList == article1.toList)) = true then
        L3 list0 article1 n2 left7 (IntKind.i64.wrap (i8 + 1))
      else if (0 : Int) ≤ i8 ∧ (i8 : Int) < list0.length then
        if ((((list0.getD (i8 : Int).toNat (0, (ByteArray.empty, 0))).1) : Int) == 0) = true then
          if (0 : Int) ≤ i8 ∧ (i8 : Int) < list0.length then
            L3 list0 article1 n2 (IntKind.i64.wrap (left7 + (((list0.getD (i8 : Int).toNat (0, (ByteArray.empty, 0))).2).2))) (IntKind.i64.wrap (i8 + 1))
          else
            none
        else if (0 : Int) ≤ i8 ∧ (i8 : Int) < list0.length then
          L3 list0 article1 n2 (IntKind.i64.wrap (left7 - (((list0.getD (i8 : Int).toNat (0, (ByteArray.empty, 0))).2).2))) (IntKind.i64.wrap (i8 + 1))
        else
          none
      else
        none
    else
      none
  else
    some left7
def spec_l32Left.l3 (n : Nat) : Nat → (List (Int × ByteArray × Int)) → ByteArray → Int → Int → Int → Option Int
  | 0 => fun _ _ _ _ _ => none
  | k + 1 => spec_l32Left.g3 (spec_l32Left.l3 n k)
def spec_l32Left.top (I3 : (List (Int × ByteArray × Int)) → ByteArray → Int → Int → Int → Option Int) (list0 : List (Int × ByteArray × Int)) (article1 : ByteArray) (n2 : Int) : Option Int :=
  I3 list0 article1 n2 0 0
def spec_l32Left.fn (n : Nat) (list0 : List (Int × ByteArray × Int)) (article1 : ByteArray) (n2 : Int) : Option Int := spec_l32Left.top (spec_l32Left.l3 n n) list0 article1 n2
def spec_l32Left.f (list0 : List (Int × ByteArray × Int)) (article1 : ByteArray) (n2 : Int) : Option Int := spec_l32Left.fn NN list0 article1 n2
end
end Go.Pl

namespace Go.Pl
open Go.Ev
set_option linter.unusedVariables false
noncomputable section
def impl_AreBookings.g4 (L4 : (List (Int × ByteArray × Int)) → (List (Int × ByteArray × Int)) → Int → Int → Option Bool) (list0 : List (Int × ByteArray × Int)) (v8 : List (Int × ByteArray × Int)) (v9 : Int) (v10 : Int) : Option Bool :=
  if (decide ((v10 : Int) < v9)) = true then
    if (0 : Int) ≤ v10 ∧ (v10 : Int) < v8.length then
      (impl_within.f ((v8.getD (v10 : Int).toNat (0, (ByteArray.empty, 0))).1) 0 3).bind fun r1 =>
      if (!r1) = false then
        (impl_IsWord.f (((v8.getD (v10 : Int).toNat (0, (ByteArray.empty, 0))).2).1)).bind fun r2 =>
        if (!r2) = false then
          (impl_within.f (((v8.getD (v10 : Int).toNat (0, (ByteArray.empty, 0))).2).2) 1 1000).bind fun r3 =>
          if (!r3) = false then
            if (0 : Int) ≤ (IntKind.i64.wrap (v10 + 1)) ∧ ((IntKind.i64.wrap (v10 + 1)) : Int) ≤ list0.length then
              (impl_piecesLeft.f (list0.take ((IntKind.i64.wrap (v10 + 1)) : Int).toNat) (((v8.getD (v10 : Int).toNat (0, (ByteArray.empty, 0))).2).1)).bind fun r4 =>
              if (decide ((r4 : Int) < 0)) = true then
                some false
              else
                L4 list0 v8 v9 (IntKind.i64.wrap (v10 + 1))
            else
              none
          else
            some false
        else
          some false
      else
        some false
    else
      none
  else
    some true
def impl_AreBookings.l4 (n : Nat) : Nat → (List (Int × ByteArray × Int)) → (List (Int × ByteArray × Int)) → Int → Int → Option Bool
  | 0 => fun _ _ _ _ => none
  | k + 1 => impl_AreBookings.g4 (impl_AreBookings.l4 n k)
def impl_AreBookings.top (I4 : (List (Int × ByteArray × Int)) → (List (Int × ByteArray × Int)) → Int → Int → Option Bool) (list0 : List (Int × ByteArray × Int)) : Option Bool :=
  if (decide ((60 : Int) < (list0.length : Int))) = true then
    some false
  else
    I4 list0 list0 (list0.length : Int) 0
def impl_AreBookings.fn (n : Nat) (list0 : List (Int × ByteArray × Int)) : Option Bool := impl_AreBookings.top (impl_AreBookings.l4 n n) list0
def impl_AreBookings.f (list0 : List (Int × ByteArray × Int)) : Option Bool := impl_AreBookings.fn NN list0
end
end Go.Pl

namespace Go.Pl
open Go.Ev
set_option linter.unusedVariables false
noncomputable section
def spec_AreBookings.g2 (L2 : (List (Int × ByteArray × Int)) → Int → Option Bool) (list0 : List (Int × ByteArray × Int)) (i3 : Int) : Option Bool :=
  if (decide ((i3 : Int) < (list0.length : Int))) = true then
    if (0 : Int) ≤ i3 ∧ (i3 : Int) < list0.length then
      (spec_l01In.f ((list0.getD (i3 : Int).toNat (0, (ByteArray.empty, 0))).1) 0 3).bind fun r1 =>
      if (!r1) = false then
        (spec_IsWord.f (((list0.getD (i3 : Int).toNat (0, (ByteArray.empty, 0))).2).1)).bind fun r2 =>
        if (!r2) = false then
          (spec_l01In.f (((list0.getD (i3 : Int).toNat (0, (ByteArray.empty, 0))).2).2) 1 1000).bind fun r3 =>
          if (!r3) = false then
            (spec_l32Left.f list0 (((list0.getD (i3 : Int).toNat (0, (ByteArray.empty, 0))).2).1) (IntKind.i64.wrap (i3 + 1))).bind fun r4 =>
            if (decide ((r4 : Int) < 0)) = true then
              some false
            else
              L2 list0 (IntKind.i64.wrap (i3 + 1))
          else
            some false
        else
          some false
      else
        some false
    else
      none
  else
    some (decide (((list0.length : Int) : Int) ≤ 60))
def spec_AreBookings.l2 (n : Nat) : Nat → (List (Int × ByteArray × Int)) → Int → Option Bool
  | 0 => fun _ _ => none
  | k + 1 => spec_AreBookings.g2 (spec_AreBookings.l2 n k)
def spec_AreBookings.top (I2 : (List (Int × ByteArray × Int)) → Int → Option Bool) (list0 : List (Int × ByteArray × Int)) : Option Bool :=
  I2 list0 0
def spec_AreBookings.fn (n : Nat) (list0 : List (Int × ByteArray × Int)) : Option Bool := spec_AreBookings.top (spec_AreBookings.l2 n n) list0
def spec_AreBookings.f (list0 : List (Int × ByteArray × Int)) : Option Bool := spec_AreBookings.fn NN list0
end
end Go.Pl

namespace Go.Pl
open Go.Ev
set_option linter.unusedVariables false
set_option linter.unusedSimpArgs false
/-- a booking that stands -/
def valB (b : Int × ByteArray × Int) : Bool := inB b.1 0 3 && wordB b.2.1 && inB b.2.2 1 1000
def addL (a : ByteArray) (s : Int) (b : Int × ByteArray × Int) : Int := if b.2.1 = a then (if b.1 = 0 then s + b.2.2 else s - b.2.2) else s
def leftOf (xs : List (Int × ByteArray × Int)) (a : ByteArray) : Int := xs.foldl (addL a) 0
theorem leftOf_snoc (p : List (Int × ByteArray × Int)) (b : Int × ByteArray × Int) (a : ByteArray) : leftOf (p ++ [b]) a = addL a (leftOf p a) b := by
  unfold leftOf; rw [List.foldl_append]; rfl
theorem valB_count {b : Int × ByteArray × Int} (h : valB b = true) : 1 ≤ b.2.2 ∧ b.2.2 ≤ 1000 ∧ 0 ≤ b.1 ∧ b.1 ≤ 3 := by
  unfold valB at h
  simp only [Bool.and_eq_true, inB_iff] at h
  omega
theorem leftOf_le (a : ByteArray) (xs : List (Int × ByteArray × Int)) (h : ∀ b ∈ xs, valB b = true) : -(1000 * (xs.length : Int)) ≤ leftOf xs a ∧ leftOf xs a ≤ 1000 * (xs.length : Int) := by
  have key : ∀ (ys : List (Int × ByteArray × Int)) (s : Int), (∀ b ∈ ys, valB b = true) → s - 1000 * (ys.length : Int) ≤ ys.foldl (addL a) s ∧ ys.foldl (addL a) s ≤ s + 1000 * (ys.length : Int) := by
    intro ys
    induction ys with
    | nil => intro s _; simp
    | cons b r ih =>
      intro s hb
      have h1 := ih (addL a s b) (fun x hx => hb x (by simp [hx]))
      have h2 := valB_count (hb b (by simp))
      simp only [List.foldl_cons, List.length_cons]
      have : s - 1000 ≤ addL a s b ∧ addL a s b ≤ s + 1000 := by
        unfold addL; split <;> (try split) <;> omega
      omega
  have := key xs 0 h
  unfold leftOf; omega
theorem spec_l32Left_f (xs rest : List (Int × ByteArray × Int)) (a : ByteArray) (h : ∀ b ∈ xs, valB b = true) (hl : xs.length ≤ 1000000) : spec_l32Left.f (xs ++ rest) a xs.length = some (leftOf xs a) := by
  have := (fold_fix (E := fun b => valB b = true) (fun p s => (∀ b ∈ p, valB b = true) ∧ s = leftOf p a) (fun _ => addL a) some (fun k i s => spec_l32Left.l3 NN k (xs ++ rest) a xs.length s i) xs ?_ ?_ 0 h ⟨by simp, rfl⟩ (by omega) NN (NN_lt (by omega))).2
  · rw [foldi_foldl] at this
    exact this
  · intro k st _
    simp [spec_l32Left.l3, spec_l32Left.g3]
  · intro k p b r st hx hb hI c0 c1 c2 cw g
    obtain ⟨h1, rfl⟩ := hI
    have h2 : ∀ x ∈ p ++ [b], valB x = true := fun x hx => by
      rcases List.mem_append.1 hx with h | h
      · exact h1 x h
      · rw [List.mem_singleton.1 h]; exact hb
    refine ⟨⟨h2, (leftOf_snoc p b a).symm⟩, ?_⟩
    have c3 : (p.length : Int) < ((xs ++ rest).length : Int) := by rw [List.length_append]; omega
    have g' : ∀ z, (xs ++ rest).getD p.length z = b := fun z => by rw [hx]; simp
    have bd := leftOf_le a (p ++ [b]) h2
    rw [leftOf_snoc] at bd
    have hpl : p.length ≤ 1000000 := by omega
    simp only [List.length_append, List.length_cons, List.length_nil] at bd
    simp only [spec_l32Left.l3, spec_l32Left.g3, c0, c1, c3, cw, and_self, and_true, true_and, decide_true, decide_false, if_true, if_false, mid_get, mid_set, mid_getn, mid_setn, bt_mid, Option.bind_some, Bool.not_true, Bool.not_false, Bool.false_eq_true, Bool.true_eq_false, beq_self_eq_true, bne_self_eq_false, Int.toNat_natCast, g', ba_beq]
    unfold addL at bd ⊢
    by_cases ha : b.2.1 = a
    · by_cases hz : b.1 = 0
      · have e := w64 (n := leftOf p a + b.2.2) (by simp only [ha, hz, if_true] at bd; omega) (by simp only [ha, hz, if_true] at bd; omega)
        simp [ha, hz, e]
      · have e := w64 (n := leftOf p a - b.2.2) (by simp only [ha, hz, if_true, if_false] at bd; omega) (by simp only [ha, hz, if_true, if_false] at bd; omega)
        simp [ha, hz, e]
    · simp [ha]
/-- how many of each kind -/
def addT (a : ByteArray) (s : List Int) (b : Int × ByteArray × Int) : List Int := if b.2.1 = a then s.set b.1.toNat (s.getD b.1.toNat 0 + b.2.2) else s
def totL (xs : List (Int × ByteArray × Int)) (a : ByteArray) : List Int := xs.foldl (addT a) [0, 0, 0, 0]
theorem totL_snoc (p : List (Int × ByteArray × Int)) (b : Int × ByteArray × Int) (a : ByteArray) : totL (p ++ [b]) a = addT a (totL p a) b := by
  unfold totL; rw [List.foldl_append]; rfl
theorem totL_shape (a : ByteArray) (xs : List (Int × ByteArray × Int)) (h : ∀ b ∈ xs, valB b = true) : ∃ t0 t1 t2 t3, totL xs a = [t0, t1, t2, t3] ∧ t0 - t1 - t2 - t3 = leftOf xs a ∧ 0 ≤ t0 ∧ 0 ≤ t1 ∧ 0 ≤ t2 ∧ 0 ≤ t3 ∧ t0 + t1 + t2 + t3 ≤ 1000 * (xs.length : Int) := by
  have key : ∀ (n : Nat) (xs : List (Int × ByteArray × Int)), xs.length = n → (∀ b ∈ xs, valB b = true) → ∃ t0 t1 t2 t3, totL xs a = [t0, t1, t2, t3] ∧ t0 - t1 - t2 - t3 = leftOf xs a ∧ 0 ≤ t0 ∧ 0 ≤ t1 ∧ 0 ≤ t2 ∧ 0 ≤ t3 ∧ t0 + t1 + t2 + t3 ≤ 1000 * (xs.length : Int) := by
    intro n
    induction n with
    | zero => intro xs hn _; obtain rfl := List.length_eq_zero_iff.1 hn; exact ⟨0, 0, 0, 0, rfl, rfl, by omega, by omega, by omega, by omega, by simp⟩
    | succ n ih =>
      intro xs hn hb
      rcases List.eq_nil_or_concat xs with rfl | ⟨p, b, rfl⟩
      · simp at hn
      simp only [List.concat_eq_append] at hn hb ⊢
      obtain ⟨t0, t1, t2, t3, e1, e2, e3, e4, e5, e6, e7⟩ := ih p (by simpa using hn) (fun x hx => hb x (by simp [hx]))
      have hv := valB_count (hb b (by simp))
      rw [totL_snoc, leftOf_snoc, e1]
      simp only [List.length_append, List.length_cons, List.length_nil]
      unfold addT addL
      by_cases ha : b.2.1 = a
      · simp only [ha, if_true]
        obtain h | h | h | h : b.1 = 0 ∨ b.1 = 1 ∨ b.1 = 2 ∨ b.1 = 3 := by omega
        · exact ⟨t0 + b.2.2, t1, t2, t3, by simp [h], by simp [h]; omega, by omega, by omega, by omega, by omega, by omega⟩
        · exact ⟨t0, t1 + b.2.2, t2, t3, by simp [h], by simp [h]; omega, by omega, by omega, by omega, by omega, by omega⟩
        · exact ⟨t0, t1, t2 + b.2.2, t3, by simp [h], by simp [h]; omega, by omega, by omega, by omega, by omega, by omega⟩
        · exact ⟨t0, t1, t2, t3 + b.2.2, by simp [h], by simp [h]; omega, by omega, by omega, by omega, by omega, by omega⟩
      · simp only [ha, if_false]
        exact ⟨t0, t1, t2, t3, rfl, by omega, by omega, by omega, by omega, by omega, by omega⟩
  exact key _ xs rfl h
theorem impl_totalsOf_f (xs : List (Int × ByteArray × Int)) (a : ByteArray) (h : ∀ b ∈ xs, valB b = true) (hl : xs.length ≤ 1000000) : impl_totalsOf.f xs a = some (totL xs a) := by
  have := (fold_fix (E := fun b => valB b = true) (fun p s => (∀ b ∈ p, valB b = true) ∧ s = totL p a) (fun _ => addT a) some (fun k i s => impl_totalsOf.l3 NN k a xs xs.length i s) xs ?_ ?_ [0, 0, 0, 0] h ⟨by simp, rfl⟩ (by omega) NN (NN_lt (by omega))).2
  · rw [foldi_foldl] at this
    unfold impl_totalsOf.f impl_totalsOf.fn impl_totalsOf.top
    rw [if_pos (by rw [room8]; omega)]
    exact this
  · intro k st _
    simp [impl_totalsOf.l3, impl_totalsOf.g3]
  · intro k p b r st hx hb hI c0 c1 c2 cw g
    obtain ⟨h1, rfl⟩ := hI
    have h2 : ∀ x ∈ p ++ [b], valB x = true := fun x hx => by
      rcases List.mem_append.1 hx with h | h
      · exact h1 x h
      · rw [List.mem_singleton.1 h]; exact hb
    refine ⟨⟨h2, (totL_snoc p b a).symm⟩, ?_⟩
    obtain ⟨t0, t1, t2, t3, e1, e2, e3, e4, e5, e6, e7⟩ := totL_shape a p h1
    have hpl : p.length ≤ 1000000 := by omega
    have hv := valB_count hb
    simp only [impl_totalsOf.l3, impl_totalsOf.g3, c0, c1, cw, and_self, and_true, true_and, decide_true, decide_false, if_true, if_false, mid_get, mid_set, mid_getn, mid_setn, bt_mid, Option.bind_some, Bool.not_true, Bool.not_false, Bool.false_eq_true, Bool.true_eq_false, beq_self_eq_true, bne_self_eq_false, Int.toNat_natCast, g, ba_beq]
    unfold addT
    by_cases ha : b.2.1 = a
    · have k1 : b.1 < ((totL p a).length : Int) := by rw [e1]; simp; omega
      have k2 : 0 ≤ (totL p a).getD b.1.toNat 0 ∧ (totL p a).getD b.1.toNat 0 ≤ 1000000000 := by
        rw [e1]
        obtain h | h | h | h : b.1 = 0 ∨ b.1 = 1 ∨ b.1 = 2 ∨ b.1 = 3 := by omega
        all_goals (rw [h]; simp; omega)
      have e := w64 (n := (totL p a).getD b.1.toNat 0 + b.2.2) (by omega) (by omega)
      simp only [ha, decide_true, if_true, hv.2.2.1, k1, and_self, e]
    · simp [ha]
theorem impl_piecesLeft_f (xs : List (Int × ByteArray × Int)) (a : ByteArray) (h : ∀ b ∈ xs, valB b = true) (hl : xs.length ≤ 1000000) : impl_piecesLeft.f xs a = some (leftOf xs a) := by
  unfold impl_piecesLeft.f impl_piecesLeft.fn impl_piecesLeft.top
  rw [impl_totalsOf_f xs a h hl]
  obtain ⟨t0, t1, t2, t3, e1, e2, e3, e4, e5, e6, e7⟩ := totL_shape a xs h
  have w1 := w64 (n := t0 - t1) (by omega) (by omega)
  have w2 := w64 (n := t0 - t1 - t2) (by omega) (by omega)
  have w3 := w64 (n := t0 - t1 - t2 - t3) (by omega) (by omega)
  have w4 : IntKind.i64.wrap (leftOf xs a) = leftOf xs a := by rw [← e2]; exact w3
  rw [e1]
  simp [w1, w2, w3, e2, w4]
/-- no article short at any time -/
def okFrom (p : List (Int × ByteArray × Int)) : List (Int × ByteArray × Int) → Bool
  | [] => true
  | b :: r => valB b && decide (0 ≤ leftOf (p ++ [b]) b.2.1) && okFrom (p ++ [b]) r
def booksB (xs : List (Int × ByteArray × Int)) : Bool := decide (xs.length ≤ 60) && okFrom [] xs
theorem okFrom_val : ∀ (r p : List (Int × ByteArray × Int)), okFrom p r = true → ∀ b ∈ r, valB b = true := by
  intro r
  induction r with
  | nil => intro p _ b hb; cases hb
  | cons x r ih =>
    intro p h b hb
    simp only [okFrom, Bool.and_eq_true] at h
    rcases List.mem_cons.1 hb with rfl | hb
    · exact h.1.1
    · exact ih _ h.2 b hb
theorem booksB_val {xs : List (Int × ByteArray × Int)} (h : booksB xs = true) : (∀ b ∈ xs, valB b = true) ∧ xs.length ≤ 60 := by
  unfold booksB at h
  simp only [Bool.and_eq_true, decide_eq_true_eq] at h
  exact ⟨okFrom_val _ _ h.2, h.1⟩
theorem val_snoc {p : List (Int × ByteArray × Int)} {b : Int × ByteArray × Int} (h1 : ∀ x ∈ p, valB x = true) (hb : valB b = true) : ∀ x ∈ p ++ [b], valB x = true := fun x hx => by
  rcases List.mem_append.1 hx with h | h
  · exact h1 x h
  · rw [List.mem_singleton.1 h]; exact hb
theorem spec_AreBookings_loop : ∀ (r p : List (Int × ByteArray × Int)) (k : Nat), (∀ b ∈ p, valB b = true) → (∀ b ∈ r, Sz b.2.1) → p.length + r.length ≤ 1000000 → r.length < k →
    spec_AreBookings.l2 NN k (p ++ r) p.length = some (okFrom p r && decide ((p ++ r).length ≤ 60)) := by
  intro r
  induction r with
  | nil =>
    intro p k _ _ _ hk
    obtain ⟨k, rfl⟩ : ∃ j, k = j + 1 := ⟨k - 1, by omega⟩
    simp [spec_AreBookings.l2, spec_AreBookings.g2, okFrom]
    omega
  | cons b r ih =>
    intro p k hp hr hb hk
    simp only [List.length_cons] at hk hb
    obtain ⟨k, rfl⟩ : ∃ j, k = j + 1 := ⟨k - 1, by omega⟩
    have hm := mid_len p r b
    have c0 : (0 : Int) ≤ (p.length : Int) := by omega
    have c1 : (p.length : Int) < ((p ++ b :: r).length : Int) := by omega
    have cw := w64 (n := (p.length : Int) + 1) (by omega) (by omega)
    simp only [spec_AreBookings.l2, spec_AreBookings.g2, c0, c1, cw, and_self, and_true, true_and, decide_true, decide_false, if_true, if_false, mid_get, mid_set, mid_getn, mid_setn, bt_mid, Option.bind_some, Bool.not_true, Bool.not_false, Bool.false_eq_true, Bool.true_eq_false, beq_self_eq_true, bne_self_eq_false, Int.toNat_natCast, spec_l01In_f, spec_IsWord_f _ (hr b (by simp))]
    have hv : valB b = (inB b.1 0 3 && wordB b.2.1 && inB b.2.2 1 1000) := rfl
    simp only [okFrom]
    cases h1 : inB b.1 0 3
    · simp [hv, h1]
    cases h2 : wordB b.2.1
    · simp [hv, h2]
    cases h3 : inB b.2.2 1 1000
    · simp [hv, h3]
    have hvt : valB b = true := by rw [hv, h1, h2, h3]; rfl
    have hl := spec_l32Left_f (p ++ [b]) r b.2.1 (val_snoc hp hvt) (by simp; omega)
    rw [mid_snoc, snoc_len] at hl
    have := ih (p ++ [b]) k (val_snoc hp hvt) (fun x hx => hr x (by simp [hx])) (by simp; omega) (by omega)
    rw [mid_snoc, snoc_len] at this
    simp only [hl, this, hvt, and_self, and_true, true_and, decide_true, decide_false, if_true, if_false, mid_get, mid_set, mid_getn, mid_setn, bt_mid, Option.bind_some, Bool.not_true, Bool.not_false, Bool.false_eq_true, Bool.true_eq_false, beq_self_eq_true, bne_self_eq_false, Int.toNat_natCast, decide_eq_true_eq]
    by_cases hn : leftOf (p ++ [b]) b.2.1 < 0
    · have : ¬ 0 ≤ leftOf (p ++ [b]) b.2.1 := by omega
      simp [hn, this]
    · have h4 : 0 ≤ leftOf (p ++ [b]) b.2.1 := by omega
      simp [hn, h4]
theorem spec_AreBookings_f (xs : List (Int × ByteArray × Int)) (h : Lm OkBooking xs) : spec_AreBookings.f xs = some (booksB xs) := by
  have := spec_AreBookings_loop xs [] NN (by simp) (fun b hb => Nat.le_trans (h.2 b hb).2.1 (by omega)) (by simpa using h.1) (NN_lt (by have := h.1; omega))
  unfold spec_AreBookings.f spec_AreBookings.fn spec_AreBookings.top booksB
  rw [Bool.and_comm]
  simpa using this
theorem impl_AreBookings_loop : ∀ (r p : List (Int × ByteArray × Int)) (k : Nat), (∀ b ∈ p, valB b = true) → (∀ b ∈ r, Sz b.2.1) → p.length + r.length ≤ 1000000 → r.length < k →
    impl_AreBookings.l4 NN k (p ++ r) (p ++ r) (p ++ r).length p.length = some (okFrom p r) := by
  intro r
  induction r with
  | nil =>
    intro p k _ _ _ hk
    obtain ⟨k, rfl⟩ : ∃ j, k = j + 1 := ⟨k - 1, by omega⟩
    simp [impl_AreBookings.l4, impl_AreBookings.g4, okFrom]
  | cons b r ih =>
    intro p k hp hr hb hk
    simp only [List.length_cons] at hk hb
    obtain ⟨k, rfl⟩ : ∃ j, k = j + 1 := ⟨k - 1, by omega⟩
    have hm := mid_len p r b
    have c0 : (0 : Int) ≤ (p.length : Int) := by omega
    have c1 : (p.length : Int) < ((p ++ b :: r).length : Int) := by omega
    have cw := w64 (n := (p.length : Int) + 1) (by omega) (by omega)
    have c2 : (0 : Int) ≤ (p.length : Int) + 1 := by omega
    have c3 : (p.length : Int) + 1 ≤ ((p ++ b :: r).length : Int) := by omega
    have ct : (p ++ b :: r).take ((p.length : Int) + 1).toNat = p ++ [b] := by
      rw [show ((p.length : Int) + 1).toNat = (p ++ [b]).length by simp, show p ++ b :: r = (p ++ [b]) ++ r by simp, List.take_left' rfl]
    simp only [impl_AreBookings.l4, impl_AreBookings.g4, c0, c1, c2, c3, cw, ct, and_self, and_true, true_and, decide_true, decide_false, if_true, if_false, mid_get, mid_set, mid_getn, mid_setn, bt_mid, Option.bind_some, Bool.not_true, Bool.not_false, Bool.false_eq_true, Bool.true_eq_false, beq_self_eq_true, bne_self_eq_false, Int.toNat_natCast, impl_within_f, impl_IsWord_f _ (hr b (by simp))]
    have hv : valB b = (inB b.1 0 3 && wordB b.2.1 && inB b.2.2 1 1000) := rfl
    simp only [okFrom]
    cases h1 : inB b.1 0 3
    · simp [hv, h1]
    cases h2 : wordB b.2.1
    · simp [hv, h2]
    cases h3 : inB b.2.2 1 1000
    · simp [hv, h3]
    have hvt : valB b = true := by rw [hv, h1, h2, h3]; rfl
    have hl := impl_piecesLeft_f (p ++ [b]) b.2.1 (val_snoc hp hvt) (by simp; omega)
    have := ih (p ++ [b]) k (val_snoc hp hvt) (fun x hx => hr x (by simp [hx])) (by simp; omega) (by omega)
    rw [mid_snoc, snoc_len] at this
    simp only [hl, this, hvt, and_self, and_true, true_and, decide_true, decide_false, if_true, if_false, mid_get, mid_set, mid_getn, mid_setn, bt_mid, Option.bind_some, Bool.not_true, Bool.not_false, Bool.false_eq_true, Bool.true_eq_false, beq_self_eq_true, bne_self_eq_false, Int.toNat_natCast, decide_eq_true_eq]
    by_cases hn : leftOf (p ++ [b]) b.2.1 < 0
    · have : ¬ 0 ≤ leftOf (p ++ [b]) b.2.1 := by omega
      simp [hn, this]
    · have h4 : 0 ≤ leftOf (p ++ [b]) b.2.1 := by omega
      simp [hn, h4]
theorem impl_AreBookings_f (xs : List (Int × ByteArray × Int)) (h : Lm OkBooking xs) : impl_AreBookings.f xs = some (booksB xs) := by
  have := impl_AreBookings_loop xs [] NN (by simp) (fun b hb => Nat.le_trans (h.2 b hb).2.1 (by omega)) (by simpa using h.1) (NN_lt (by have := h.1; omega))
  unfold impl_AreBookings.f impl_AreBookings.fn impl_AreBookings.top booksB
  simp only [List.nil_append, List.length_nil] at this
  by_cases h1 : (60 : Int) < xs.length
  · have h2 : ¬ xs.length ≤ 60 := by omega
    simp [h1, h2]
  · have h2 : xs.length ≤ 60 := by omega
    simp only [h1, h2, decide_false, Bool.false_eq_true, if_false, decide_true, Bool.true_and]
    exact this
theorem AreBookings_core (xs : List (Int × ByteArray × Int)) (h : Lm OkBooking xs) : ∃ w, spec_AreBookings.f xs = some w ∧ impl_AreBookings.f xs = some w ∧ True :=
  ⟨_, spec_AreBookings_f xs h, impl_AreBookings_f xs h, trivial⟩
end Go.Pl

namespace Go.Pl
open Go.Ev
set_option linter.unusedVariables false
noncomputable section
def impl_PiecesLeft.top (list0 : List (Int × ByteArray × Int)) (article1 : ByteArray) : Option (Int × Int) :=
  (impl_AreBookings.f list0).bind fun r1 =>
  if (!r1) = false then
    (impl_IsWord.f article1).bind fun r2 =>
    if (!r2) = true then
      some (0, 1)
    else
      (impl_piecesLeft.f list0 article1).bind fun r3 =>
      some (r3, 0)
  else
    some (0, 1)
def impl_PiecesLeft.fn (n : Nat) (list0 : List (Int × ByteArray × Int)) (article1 : ByteArray) : Option (Int × Int) := impl_PiecesLeft.top list0 article1
def impl_PiecesLeft.f (list0 : List (Int × ByteArray × Int)) (article1 : ByteArray) : Option (Int × Int) := impl_PiecesLeft.fn NN list0 article1
end
end Go.Pl

namespace Go.Pl
open Go.Ev
set_option linter.unusedVariables false
noncomputable section
def spec_PiecesLeft.top (list0 : List (Int × ByteArray × Int)) (article1 : ByteArray) : Option (Int × Int) :=
  (spec_AreBookings.f list0).bind fun r1 =>
  if (!r1) = false then
    (spec_IsWord.f article1).bind fun r2 =>
    if (!r2) = true then
      some (0, 1)
    else
      (spec_l32Left.f list0 article1 (list0.length : Int)).bind fun r3 =>
      some (r3, 0)
  else
    some (0, 1)
def spec_PiecesLeft.fn (n : Nat) (list0 : List (Int × ByteArray × Int)) (article1 : ByteArray) : Option (Int × Int) := spec_PiecesLeft.top list0 article1
def spec_PiecesLeft.f (list0 : List (Int × ByteArray × Int)) (article1 : ByteArray) : Option (Int × Int) := spec_PiecesLeft.fn NN list0 article1
end
end Go.Pl

namespace Go.Pl
open Go.Ev
set_option linter.unusedVariables false
noncomputable section
def impl_MostIn.g5 (L5 : (List (Int × ByteArray × Int)) → ByteArray → Int → Int → Int → Option (Int × Int)) (list0 : List (Int × ByteArray × Int)) (article1 : ByteArray) (most6 : Int) (v17 : Int) (v18 : Int) : Option (Int × Int) :=
  if (decide ((v18 : Int) < v17)) = true then
    if (0 : Int) ≤ (IntKind.i64.wrap (v18 + 1)) ∧ ((IntKind.i64.wrap (v18 + 1)) : Int) ≤ list0.length then
      (impl_piecesLeft.f (list0.take ((IntKind.i64.wrap (v18 + 1)) : Int).toNat) article1).bind fun r3 =>
      L5 list0 article1 (if r3 > most6 then r3 else most6) v17 (IntKind.i64.wrap (v18 + 1))
    else
      none
  else
    some (most6, 0)
def impl_MostIn.l5 (n : Nat) : Nat → (List (Int × ByteArray × Int)) → ByteArray → Int → Int → Int → Option (Int × Int)
  | 0 => fun _ _ _ _ _ => none
  | k + 1 => impl_MostIn.g5 (impl_MostIn.l5 n k)
def impl_MostIn.top (I5 : (List (Int × ByteArray × Int)) → ByteArray → Int → Int → Int → Option (Int × Int)) (list0 : List (Int × ByteArray × Int)) (article1 : ByteArray) : Option (Int × Int) :=
  (impl_AreBookings.f list0).bind fun r1 =>
  if (!r1) = false then
    (impl_IsWord.f article1).bind fun r2 =>
    if (!r2) = true then
      some (0, 1)
    else
      I5 list0 article1 0 (list0.length : Int) 0
  else
    some (0, 1)
def impl_MostIn.fn (n : Nat) (list0 : List (Int × ByteArray × Int)) (article1 : ByteArray) : Option (Int × Int) := impl_MostIn.top (impl_MostIn.l5 n n) list0 article1
def impl_MostIn.f (list0 : List (Int × ByteArray × Int)) (article1 : ByteArray) : Option (Int × Int) := impl_MostIn.fn NN list0 article1
end
end Go.Pl

namespace Go.Pl
open Go.Ev
set_option linter.unusedVariables false
noncomputable section
def spec_MostIn.g5 (L5 : (List (Int × ByteArray × Int)) → ByteArray → Int → Int → Option (Int × Int)) (list0 : List (Int × ByteArray × Int)) (article1 : ByteArray) (most6 : Int) (n7 : Int) : Option (Int × Int) :=
  if (decide ((n7 : Int) ≤ (list0.length : Int))) = true then
    (spec_l32Left.f list0 article1 n7).bind fun r3 =>
    L5 list0 article1 (if r3 > most6 then r3 else most6) (IntKind.i64.wrap (n7 + 1))
  else
    some (most6, 0)
def spec_MostIn.l5 (n : Nat) : Nat → (List (Int × ByteArray × Int)) → ByteArray → Int → Int → Option (Int × Int)
  | 0 => fun _ _ _ _ => none
  | k + 1 => spec_MostIn.g5 (spec_MostIn.l5 n k)
def spec_MostIn.top (I5 : (List (Int × ByteArray × Int)) → ByteArray → Int → Int → Option (Int × Int)) (list0 : List (Int × ByteArray × Int)) (article1 : ByteArray) : Option (Int × Int) :=
  (spec_AreBookings.f list0).bind fun r1 =>
  if (!r1) = false then
    (spec_IsWord.f article1).bind fun r2 =>
    if (!r2) = true then
      some (0, 1)
    else
      I5 list0 article1 0 0
  else
    some (0, 1)
def spec_MostIn.fn (n : Nat) (list0 : List (Int × ByteArray × Int)) (article1 : ByteArray) : Option (Int × Int) := spec_MostIn.top (spec_MostIn.l5 n n) list0 article1
def spec_MostIn.f (list0 : List (Int × ByteArray × Int)) (article1 : ByteArray) : Option (Int × Int) := spec_MostIn.fn NN list0 article1
end
end Go.Pl

namespace Go.Pl
open Go.Ev
set_option linter.unusedVariables false
set_option linter.unusedSimpArgs false
theorem l32Left_all (xs : List (Int × ByteArray × Int)) (a : ByteArray) (h : ∀ b ∈ xs, valB b = true) (hl : xs.length ≤ 1000000) : spec_l32Left.f xs a xs.length = some (leftOf xs a) := by
  have := spec_l32Left_f xs [] a h hl
  rwa [List.append_nil] at this
theorem l32Left_take (xs : List (Int × ByteArray × Int)) (a : ByteArray) (n : Nat) (hn : n ≤ xs.length) (h : ∀ b ∈ xs, valB b = true) (hl : xs.length ≤ 1000000) : spec_l32Left.f xs a n = some (leftOf (xs.take n) a) := by
  have := spec_l32Left_f (xs.take n) (xs.drop n) a (fun b hb => h b (List.mem_of_mem_take hb)) (by rw [List.length_take]; omega)
  rwa [List.take_append_drop, List.length_take, Nat.min_eq_left hn] at this
def leftR (xs : List (Int × ByteArray × Int)) (a : ByteArray) : Int × Int := if booksB xs = true ∧ wordB a = true then (leftOf xs a, 0) else (0, 1)
theorem PiecesLeft_both (xs : List (Int × ByteArray × Int)) (a : ByteArray) (h : Lm OkBooking xs) (ha : Sm a) : spec_PiecesLeft.f xs a = some (leftR xs a) ∧ impl_PiecesLeft.f xs a = some (leftR xs a) := by
  unfold leftR
  refine ⟨?_, ?_⟩
  · unfold spec_PiecesLeft.f spec_PiecesLeft.fn spec_PiecesLeft.top
    rw [spec_AreBookings_f xs h, spec_IsWord_f a (Nat.le_trans ha (by omega))]
    cases hb : booksB xs
    · rfl
    cases hw : wordB a
    · rfl
    have hv := booksB_val hb
    simp only [and_self, and_true, true_and, decide_true, decide_false, if_true, if_false, mid_get, mid_set, mid_getn, mid_setn, bt_mid, Option.bind_some, Bool.not_true, Bool.not_false, Bool.false_eq_true, Bool.true_eq_false, beq_self_eq_true, bne_self_eq_false, Int.toNat_natCast]
    rw [l32Left_all xs a hv.1 (by omega)]; rfl
  · unfold impl_PiecesLeft.f impl_PiecesLeft.fn impl_PiecesLeft.top
    rw [impl_AreBookings_f xs h, impl_IsWord_f a (Nat.le_trans ha (by omega))]
    cases hb : booksB xs
    · rfl
    cases hw : wordB a
    · rfl
    have hv := booksB_val hb
    simp only [and_self, and_true, true_and, decide_true, decide_false, if_true, if_false, mid_get, mid_set, mid_getn, mid_setn, bt_mid, Option.bind_some, Bool.not_true, Bool.not_false, Bool.false_eq_true, Bool.true_eq_false, beq_self_eq_true, bne_self_eq_false, Int.toNat_natCast]
    rw [impl_piecesLeft_f xs a hv.1 (by omega)]; rfl
theorem PiecesLeft_core (xs : List (Int × ByteArray × Int)) (a : ByteArray) (h : Lm OkBooking xs) (ha : Sm a) : ∃ w, spec_PiecesLeft.f xs a = some w ∧ impl_PiecesLeft.f xs a = some w ∧ True :=
  ⟨_, (PiecesLeft_both xs a h ha).1, (PiecesLeft_both xs a h ha).2, trivial⟩
def mostF (xs : List (Int × ByteArray × Int)) (a : ByteArray) (i : Nat) (st : Int) : Int := if leftOf (xs.take (i + 1)) a > st then leftOf (xs.take (i + 1)) a else st
def mostL (xs : List (Int × ByteArray × Int)) (a : ByteArray) : Int := foldi (fun i st (_ : Int × ByteArray × Int) => mostF xs a i st) 0 0 xs
theorem impl_MostIn_l (xs : List (Int × ByteArray × Int)) (a : ByteArray) (h : ∀ b ∈ xs, valB b = true) (hl : xs.length ≤ 60) : impl_MostIn.l5 NN NN xs a 0 xs.length 0 = some (mostL xs a, 0) := by
  have := (fold_fix (E := fun _ => True) (fun _ _ => True) (fun i st (_ : Int × ByteArray × Int) => mostF xs a i st) (fun st => some (st, (0 : Int))) (fun k i st => impl_MostIn.l5 NN k xs a st xs.length i) xs ?_ ?_ 0 (fun _ _ => trivial) trivial (by omega) NN (NN_lt (by omega))).2
  · exact this
  · intro k st _
    simp [impl_MostIn.l5, impl_MostIn.g5]
  · intro k p b r st hx _ _ c0 c1 c2 cw g
    refine ⟨trivial, ?_⟩
    have c3 : (0 : Int) ≤ (p.length : Int) + 1 := by omega
    have c4 : (p.length : Int) + 1 ≤ (xs.length : Int) := by omega
    have e : ((p.length : Int) + 1).toNat = p.length + 1 := by omega
    simp only [impl_MostIn.l5, impl_MostIn.g5, c1, c3, c4, cw, e, and_self, and_true, true_and, decide_true, decide_false, if_true, if_false, mid_get, mid_set, mid_getn, mid_setn, bt_mid, Option.bind_some, Bool.not_true, Bool.not_false, Bool.false_eq_true, Bool.true_eq_false, beq_self_eq_true, bne_self_eq_false, Int.toNat_natCast]
    rw [impl_piecesLeft_f (xs.take (p.length + 1)) a (fun b hb => h b (List.mem_of_mem_take hb)) (by rw [List.length_take]; omega)]
    rfl
theorem spec_MostIn_l (xs : List (Int × ByteArray × Int)) (a : ByteArray) (h : ∀ b ∈ xs, valB b = true) (hl : xs.length ≤ 60) : spec_MostIn.l5 NN NN xs a 0 0 = some (mostL xs a, 0) := by
  obtain ⟨k, hk⟩ : ∃ j, NN = j + 1 := ⟨NN - 1, by have := NNb; omega⟩
  have hkb : 1000 < k := by rw [NN_eq] at hk; omega
  have := (fold_fix (E := fun _ => True) (fun _ _ => True) (fun i st (_ : Int × ByteArray × Int) => mostF xs a i st) (fun st => some (st, (0 : Int))) (fun k i st => spec_MostIn.l5 NN k xs a st (i + 1)) xs ?_ ?_ 0 (fun _ _ => trivial) trivial (by omega) k (by omega)).2
  · rw [show spec_MostIn.l5 NN NN = spec_MostIn.l5 NN (k + 1) by rw [← hk]]
    have c0 : (0 : Int) ≤ (xs.length : Int) := by omega
    have z := l32Left_take xs a 0 (by omega) h (by omega)
    have w := w64 (n := 0 + 1) (by omega) (by omega)
    simp only [spec_MostIn.l5, spec_MostIn.g5, c0, and_self, and_true, true_and, decide_true, decide_false, if_true, if_false, mid_get, mid_set, mid_getn, mid_setn, bt_mid, Option.bind_some, Bool.not_true, Bool.not_false, Bool.false_eq_true, Bool.true_eq_false, beq_self_eq_true, bne_self_eq_false, Int.toNat_natCast, w]
    rw [show ((0 : Nat) : Int) = 0 from rfl] at z
    rw [z]
    exact this
  · intro k st _
    simp [spec_MostIn.l5, spec_MostIn.g5]
    omega
  · intro k p b r st hx _ _ c0 c1 c2 cw g
    refine ⟨trivial, ?_⟩
    have c4 : (p.length : Int) + 1 ≤ (xs.length : Int) := by omega
    have z := l32Left_take xs a (p.length + 1) (by omega) h (by omega)
    rw [show ((p.length + 1 : Nat) : Int) = (p.length : Int) + 1 by omega] at z
    have w := w64 (n := (p.length : Int) + 1 + 1) (by omega) (by omega)
    simp only [spec_MostIn.l5, spec_MostIn.g5, c4, w, z, and_self, and_true, true_and, decide_true, decide_false, if_true, if_false, mid_get, mid_set, mid_getn, mid_setn, bt_mid, Option.bind_some, Bool.not_true, Bool.not_false, Bool.false_eq_true, Bool.true_eq_false, beq_self_eq_true, bne_self_eq_false, Int.toNat_natCast]
    rfl
def mostR (xs : List (Int × ByteArray × Int)) (a : ByteArray) : Int × Int := if booksB xs = true ∧ wordB a = true then (mostL xs a, 0) else (0, 1)
theorem MostIn_both (xs : List (Int × ByteArray × Int)) (a : ByteArray) (h : Lm OkBooking xs) (ha : Sm a) : spec_MostIn.f xs a = some (mostR xs a) ∧ impl_MostIn.f xs a = some (mostR xs a) := by
  unfold mostR
  refine ⟨?_, ?_⟩
  · unfold spec_MostIn.f spec_MostIn.fn spec_MostIn.top
    rw [spec_AreBookings_f xs h, spec_IsWord_f a (Nat.le_trans ha (by omega))]
    cases hb : booksB xs
    · rfl
    cases hw : wordB a
    · rfl
    have hv := booksB_val hb
    exact spec_MostIn_l xs a hv.1 hv.2
  · unfold impl_MostIn.f impl_MostIn.fn impl_MostIn.top
    rw [impl_AreBookings_f xs h, impl_IsWord_f a (Nat.le_trans ha (by omega))]
    cases hb : booksB xs
    · rfl
    cases hw : wordB a
    · rfl
    have hv := booksB_val hb
    exact impl_MostIn_l xs a hv.1 hv.2
theorem MostIn_core (xs : List (Int × ByteArray × Int)) (a : ByteArray) (h : Lm OkBooking xs) (ha : Sm a) : ∃ w, spec_MostIn.f xs a = some w ∧ impl_MostIn.f xs a = some w ∧ True :=
  ⟨_, (MostIn_both xs a h ha).1, (MostIn_both xs a h ha).2, trivial⟩
end Go.Pl

namespace Go.Pl
open Go.Ev
set_option linter.unusedVariables false
noncomputable section
def impl_TotalsOf.top (list0 : List (Int × ByteArray × Int)) (article1 : ByteArray) : Option (List Int × Int) :=
  (impl_AreBookings.f list0).bind fun r1 =>
  if (!r1) = false then
    (impl_IsWord.f article1).bind fun r2 =>
    if (!r2) = true then
      some ([], 1)
    else
      (impl_totalsOf.f list0 article1).bind fun r3 =>
      some (r3, 0)
  else
    some ([], 1)
def impl_TotalsOf.fn (n : Nat) (list0 : List (Int × ByteArray × Int)) (article1 : ByteArray) : Option (List Int × Int) := impl_TotalsOf.top list0 article1
def impl_TotalsOf.f (list0 : List (Int × ByteArray × Int)) (article1 : ByteArray) : Option (List Int × Int) := impl_TotalsOf.fn NN list0 article1
end
end Go.Pl

namespace Go.Pl
open Go.Ev
set_option linter.unusedVariables false
noncomputable section
def spec_TotalsOf.g5 (L5 : (List (Int × ByteArray × Int)) → ByteArray → Int → List Int → Option (List Int × Int)) (list0 : List (Int × ByteArray × Int)) (article1 : ByteArray) (i7 : Int) (out6 : List Int) : Option (List Int × Int) :=
  if (decide ((i7 : Int) < (list0.length : Int))) = true then
    if (0 : Int) ≤ i7 ∧ (i7 : Int) < list0.length then
      if ((((list0.getD (i7 : Int).toNat (0, (ByteArray.empty, 0))).2).1).toList == article1.toList) = true then
        if (0 : Int) ≤ i7 ∧ (i7 : Int) < list0.length then
          if (0 : Int) ≤ i7 ∧ (i7 : Int) < list0.length then
            if (0 : Int) ≤ ((list0.getD (i7 : Int).toNat (0, (ByteArray.empty, 0))).1) ∧ (((list0.getD (i7 : Int).toNat (0, (ByteArray.empty, 0))).1) : Int) < out6.length then
              if (0 : Int) ≤ i7 ∧ (i7 : Int) < list0.length then
                if (0 : Int) ≤ ((list0.getD (i7 : Int).toNat (0, (ByteArray.empty, 0))).1) ∧ (((list0.getD (i7 : Int).toNat (0, (ByteArray.empty, 0))).1) : Int) < out6.length then
                  L5 list0 article1 (IntKind.i64.wrap (i7 + 1)) (out6.set (((list0.getD (i7 : Int).toNat (0, (ByteArray.empty, 0))).1) : Int).toNat (IntKind.i64.wrap ((out6.getD (((list0.getD (i7 : Int).toNat (0, (ByteArray.empty, 0))).1) : Int).toNat 0) + (((list0.getD (i7 : Int).toNat (0, (ByteArray.empty, 0))).2).2))))
                else
                  none
              else
                none
            else
              none
          else
            none
        else
          none
      else
        L5 list0 article1 (IntKind.i64.wrap (i7 + 1)) out6
    else
      none
  else
    some (out6, 0)
def spec_TotalsOf.l5 (n : Nat) : Nat → (List (Int × ByteArray × Int)) → ByteArray → Int → List Int → Option (List Int × Int)
  | 0 => fun _ _ _ _ => none
  | k + 1 => spec_TotalsOf.g5 (spec_TotalsOf.l5 n k)
def spec_TotalsOf.top (I5 : (List (Int × ByteArray × Int)) → ByteArray → Int → List Int → Option (List Int × Int)) (list0 : List (Int × ByteArray × Int)) (article1 : ByteArray) : Option (List Int × Int) :=
  (spec_AreBookings.f list0).bind fun r1 =>
  if (!r1) = false then
    (spec_IsWord.f article1).bind fun r2 =>
    if (!r2) = true then
      some ([], 1)
    else if (0 : Int) ≤ 4 ∧ (4 : Int) < room 8 ∧ (4 : Int) = 4 then
      I5 list0 article1 0 (List.replicate (4 : Int).toNat 0)
    else
      none
  else
    some ([], 1)
def spec_TotalsOf.fn (n : Nat) (list0 : List (Int × ByteArray × Int)) (article1 : ByteArray) : Option (List Int × Int) := spec_TotalsOf.top (spec_TotalsOf.l5 n n) list0 article1
def spec_TotalsOf.f (list0 : List (Int × ByteArray × Int)) (article1 : ByteArray) : Option (List Int × Int) := spec_TotalsOf.fn NN list0 article1
end
end Go.Pl

namespace Go.Pl
open Go.Ev
set_option linter.unusedVariables false
set_option linter.unusedSimpArgs false
theorem spec_TotalsOf_l (xs : List (Int × ByteArray × Int)) (a : ByteArray) (h : ∀ b ∈ xs, valB b = true) (hl : xs.length ≤ 1000000) : spec_TotalsOf.l5 NN NN xs a 0 (List.replicate (4 : Int).toNat 0) = some (totL xs a, 0) := by
  have := (fold_fix (E := fun b => valB b = true) (fun p s => (∀ b ∈ p, valB b = true) ∧ s = totL p a) (fun _ => addT a) (fun st => some (st, (0 : Int))) (fun k i s => spec_TotalsOf.l5 NN k xs a i s) xs ?_ ?_ [0, 0, 0, 0] h ⟨by simp, rfl⟩ (by omega) NN (NN_lt (by omega))).2
  · rw [foldi_foldl] at this
    exact this
  · intro k st _
    simp [spec_TotalsOf.l5, spec_TotalsOf.g5]
  · intro k p b r st hx hb hI c0 c1 c2 cw g
    obtain ⟨h1, rfl⟩ := hI
    have h2 := val_snoc h1 hb
    refine ⟨⟨h2, (totL_snoc p b a).symm⟩, ?_⟩
    obtain ⟨t0, t1, t2, t3, e1, e2, e3, e4, e5, e6, e7⟩ := totL_shape a p h1
    have hpl : p.length ≤ 1000000 := by omega
    have hv := valB_count hb
    simp only [spec_TotalsOf.l5, spec_TotalsOf.g5, c0, c1, cw, and_self, and_true, true_and, decide_true, decide_false, if_true, if_false, mid_get, mid_set, mid_getn, mid_setn, bt_mid, Option.bind_some, Bool.not_true, Bool.not_false, Bool.false_eq_true, Bool.true_eq_false, beq_self_eq_true, bne_self_eq_false, Int.toNat_natCast, g, ba_beq]
    unfold addT
    by_cases ha : b.2.1 = a
    · have k1 : b.1 < ((totL p a).length : Int) := by rw [e1]; simp; omega
      have k2 : 0 ≤ (totL p a).getD b.1.toNat 0 ∧ (totL p a).getD b.1.toNat 0 ≤ 1000000000 := by
        rw [e1]
        obtain h | h | h | h : b.1 = 0 ∨ b.1 = 1 ∨ b.1 = 2 ∨ b.1 = 3 := by omega
        all_goals (rw [h]; simp; omega)
      have e := w64 (n := (totL p a).getD b.1.toNat 0 + b.2.2) (by omega) (by omega)
      simp only [ha, decide_true, if_true, hv.2.2.1, k1, and_self, e]
    · simp [ha]
def totR (xs : List (Int × ByteArray × Int)) (a : ByteArray) : List Int × Int := if booksB xs = true ∧ wordB a = true then (totL xs a, 0) else ([], 1)
theorem TotalsOf_both (xs : List (Int × ByteArray × Int)) (a : ByteArray) (h : Lm OkBooking xs) (ha : Sm a) : spec_TotalsOf.f xs a = some (totR xs a) ∧ impl_TotalsOf.f xs a = some (totR xs a) ∧ Lm (Rg .i64) (totR xs a).1 := by
  unfold totR
  refine ⟨?_, ?_, ?_⟩
  · unfold spec_TotalsOf.f spec_TotalsOf.fn spec_TotalsOf.top
    rw [spec_AreBookings_f xs h, spec_IsWord_f a (Nat.le_trans ha (by omega))]
    cases hb : booksB xs
    · rfl
    cases hw : wordB a
    · rfl
    have hv := booksB_val hb
    simp only [and_self, and_true, true_and, decide_true, decide_false, if_true, if_false, mid_get, mid_set, mid_getn, mid_setn, bt_mid, Option.bind_some, Bool.not_true, Bool.not_false, Bool.false_eq_true, Bool.true_eq_false, beq_self_eq_true, bne_self_eq_false, Int.toNat_natCast]
    rw [if_pos (by rw [room8]; omega)]
    exact spec_TotalsOf_l xs a hv.1 (by omega)
  · unfold impl_TotalsOf.f impl_TotalsOf.fn impl_TotalsOf.top
    rw [impl_AreBookings_f xs h, impl_IsWord_f a (Nat.le_trans ha (by omega))]
    cases hb : booksB xs
    · rfl
    cases hw : wordB a
    · rfl
    have hv := booksB_val hb
    simp only [and_self, and_true, true_and, decide_true, decide_false, if_true, if_false, mid_get, mid_set, mid_getn, mid_setn, bt_mid, Option.bind_some, Bool.not_true, Bool.not_false, Bool.false_eq_true, Bool.true_eq_false, beq_self_eq_true, bne_self_eq_false, Int.toNat_natCast]
    rw [impl_totalsOf_f xs a hv.1 (by omega)]; rfl
  · by_cases hb : booksB xs = true ∧ wordB a = true
    · rw [if_pos hb]
      have hv := booksB_val hb.1
      obtain ⟨t0, t1, t2, t3, e1, e2, e3, e4, e5, e6, e7⟩ := totL_shape a xs hv.1
      simp only [e1]
      refine ⟨by simp, fun c hc => wf64.2 ?_⟩
      simp at hc
      omega
    · rw [if_neg hb]; exact ⟨by simp, by simp⟩
theorem TotalsOf_core (xs : List (Int × ByteArray × Int)) (a : ByteArray) (h : Lm OkBooking xs) (ha : Sm a) : ∃ w, spec_TotalsOf.f xs a = some w ∧ impl_TotalsOf.f xs a = some w ∧ Lm (Rg .i64) w.1 :=
  ⟨_, (TotalsOf_both xs a h ha).1, (TotalsOf_both xs a h ha).2.1, (TotalsOf_both xs a h ha).2.2⟩
end Go.Pl

namespace Go.Pl
open Go.Ev
set_option linter.unusedVariables false
noncomputable section
def impl_BookPieces.top (list0 : List (Int × ByteArray × Int)) (b1 : Int × ByteArray × Int) : Option ((List (Int × ByteArray × Int)) × Int) :=
  (impl_AreBookings.f list0).bind fun r1 =>
  if (!r1) = true then
    some ([], 1)
  else if (((list0.length : Int) : Int) == 60) = true then
    some ([], 3)
  else if ([] : List (Int × ByteArray × Int)).length + list0.length < room 32 then
    if (([] : List (Int × ByteArray × Int)) ++ list0).length + ([b1]).length < room 32 then
      (impl_AreBookings.f ((([] : List (Int × ByteArray × Int)) ++ list0) ++ ([b1]))).bind fun r2 =>
      if (!r2) = true then
        some ([], 5)
      else
        some ((([] : List (Int × ByteArray × Int)) ++ list0) ++ ([b1]), 0)
    else
      none
  else
    none
def impl_BookPieces.fn (n : Nat) (list0 : List (Int × ByteArray × Int)) (b1 : Int × ByteArray × Int) : Option ((List (Int × ByteArray × Int)) × Int) := impl_BookPieces.top list0 b1
def impl_BookPieces.f (list0 : List (Int × ByteArray × Int)) (b1 : Int × ByteArray × Int) : Option ((List (Int × ByteArray × Int)) × Int) := impl_BookPieces.fn NN list0 b1
end
end Go.Pl

namespace Go.Pl
open Go.Ev
set_option linter.unusedVariables false
noncomputable section
def spec_BookPieces.top (list0 : List (Int × ByteArray × Int)) (b1 : Int × ByteArray × Int) : Option ((List (Int × ByteArray × Int)) × Int) :=
  (spec_AreBookings.f list0).bind fun r1 =>
  if (!r1) = true then
    some ([], 1)
  else if (((list0.length : Int) : Int) == 60) = true then
    some ([], 3)
  else if ([] : List (Int × ByteArray × Int)).length + list0.length < room 32 then
    if (([] : List (Int × ByteArray × Int)) ++ list0).length + ([b1]).length < room 32 then
      (spec_AreBookings.f ((([] : List (Int × ByteArray × Int)) ++ list0) ++ ([b1]))).bind fun r2 =>
      if (!r2) = true then
        some ([], 5)
      else
        some ((([] : List (Int × ByteArray × Int)) ++ list0) ++ ([b1]), 0)
    else
      none
  else
    none
def spec_BookPieces.fn (n : Nat) (list0 : List (Int × ByteArray × Int)) (b1 : Int × ByteArray × Int) : Option ((List (Int × ByteArray × Int)) × Int) := spec_BookPieces.top list0 b1
def spec_BookPieces.f (list0 : List (Int × ByteArray × Int)) (b1 : Int × ByteArray × Int) : Option ((List (Int × ByteArray × Int)) × Int) := spec_BookPieces.fn NN list0 b1
end
end Go.Pl

namespace Go.Pl
open Go.Ev
set_option linter.unusedVariables false
set_option linter.unusedSimpArgs false
theorem ok_snoc {α : Type} {Q : α → Prop} {xs : List α} {b : α} (h : Lm Q xs) (hb : Q b) (hl : xs.length < 1000000) : Lm Q (xs ++ [b]) :=
  ⟨by simp; omega, fun x hx => by
    rcases List.mem_append.1 hx with h1 | h1
    · exact h.2 x h1
    · rw [List.mem_singleton.1 h1]; exact hb⟩
def bookR (xs : List (Int × ByteArray × Int)) (b : Int × ByteArray × Int) : List (Int × ByteArray × Int) × Int :=
  if booksB xs = true then (if xs.length = 60 then ([], 3) else if booksB (xs ++ [b]) = true then (xs ++ [b], 0) else ([], 5)) else ([], 1)
theorem impl_BookPieces_f (xs : List (Int × ByteArray × Int)) (b : Int × ByteArray × Int) (h : Lm OkBooking xs) (hb : OkBooking b) : impl_BookPieces.f xs b = some (bookR xs b) := by
  unfold impl_BookPieces.f impl_BookPieces.fn impl_BookPieces.top bookR
  rw [impl_AreBookings_f xs h]
  cases hx : booksB xs
  · rfl
  have hv := booksB_val hx
  simp only [and_self, and_true, true_and, decide_true, decide_false, if_true, if_false, mid_get, mid_set, mid_getn, mid_setn, bt_mid, Option.bind_some, Bool.not_true, Bool.not_false, Bool.false_eq_true, Bool.true_eq_false, beq_self_eq_true, bne_self_eq_false, Int.toNat_natCast]
  by_cases h60 : xs.length = 60
  · simp [h60]
  · have e1 : ((xs.length : Int) == 60) = false := by rw [beq_eq_false_iff_ne]; omega
    have e2 : ([] : List (Int × ByteArray × Int)).length + xs.length < room 32 := by rw [room32]; simp; omega
    have e3 : (([] : List (Int × ByteArray × Int)) ++ xs).length + [b].length < room 32 := by rw [room32]; simp; omega
    simp only [e1, e2, e3, h60, and_self, and_true, true_and, decide_true, decide_false, if_true, if_false, mid_get, mid_set, mid_getn, mid_setn, bt_mid, Option.bind_some, Bool.not_true, Bool.not_false, Bool.false_eq_true, Bool.true_eq_false, beq_self_eq_true, bne_self_eq_false, Int.toNat_natCast]
    rw [List.nil_append, impl_AreBookings_f (xs ++ [b]) (ok_snoc h hb (by omega))]
    cases booksB (xs ++ [b]) <;> rfl
theorem spec_BookPieces_f (xs : List (Int × ByteArray × Int)) (b : Int × ByteArray × Int) (h : Lm OkBooking xs) (hb : OkBooking b) : spec_BookPieces.f xs b = some (bookR xs b) := by
  unfold spec_BookPieces.f spec_BookPieces.fn spec_BookPieces.top bookR
  rw [spec_AreBookings_f xs h]
  cases hx : booksB xs
  · rfl
  have hv := booksB_val hx
  simp only [and_self, and_true, true_and, decide_true, decide_false, if_true, if_false, mid_get, mid_set, mid_getn, mid_setn, bt_mid, Option.bind_some, Bool.not_true, Bool.not_false, Bool.false_eq_true, Bool.true_eq_false, beq_self_eq_true, bne_self_eq_false, Int.toNat_natCast]
  by_cases h60 : xs.length = 60
  · simp [h60]
  · have e1 : ((xs.length : Int) == 60) = false := by rw [beq_eq_false_iff_ne]; omega
    have e2 : ([] : List (Int × ByteArray × Int)).length + xs.length < room 32 := by rw [room32]; simp; omega
    have e3 : (([] : List (Int × ByteArray × Int)) ++ xs).length + [b].length < room 32 := by rw [room32]; simp; omega
    simp only [e1, e2, e3, h60, and_self, and_true, true_and, decide_true, decide_false, if_true, if_false, mid_get, mid_set, mid_getn, mid_setn, bt_mid, Option.bind_some, Bool.not_true, Bool.not_false, Bool.false_eq_true, Bool.true_eq_false, beq_self_eq_true, bne_self_eq_false, Int.toNat_natCast]
    rw [List.nil_append, spec_AreBookings_f (xs ++ [b]) (ok_snoc h hb (by omega))]
    cases booksB (xs ++ [b]) <;> rfl
theorem bookR_ok (xs : List (Int × ByteArray × Int)) (b : Int × ByteArray × Int) (h : Lm OkBooking xs) (hb : OkBooking b) : Lm OkBooking (bookR xs b).1 := by
  unfold bookR
  split
  · rename_i hx
    have hv := booksB_val hx
    split
    · exact ⟨by simp, by simp⟩
    · split
      · exact ok_snoc h hb (by omega)
      · exact ⟨by simp, by simp⟩
  · exact ⟨by simp, by simp⟩
theorem BookPieces_core (xs : List (Int × ByteArray × Int)) (b : Int × ByteArray × Int) (h : Lm OkBooking xs) (hb : OkBooking b) : ∃ w, spec_BookPieces.f xs b = some w ∧ impl_BookPieces.f xs b = some w ∧ Lm OkBooking w.1 :=
  ⟨_, spec_BookPieces_f xs b h hb, impl_BookPieces_f xs b h hb, bookR_ok xs b h hb⟩
end Go.Pl

namespace Go.Pl
open Go.Ev
set_option linter.unusedVariables false
set_option linter.unusedSimpArgs false
/-- a source of numbers -/
def SrcOk (s : List Int × Int × Int) : Prop := s.1.length ≤ 4096 ∧ (∀ c ∈ s.1, 0 ≤ c ∧ c ≤ 255) ∧ (0 ≤ s.2.1 ∧ s.2.1 ≤ (s.1.length : Int)) ∧ 0 ≤ s.2.2 ∧ s.2.2 < 2147483647
theorem tmod_bd {a n : Int} (h : 0 ≤ a) (hn : 0 < n) : 0 ≤ Int.tmod a n ∧ Int.tmod a n < n := by
  rw [Int.tmod_eq_emod_of_nonneg h]
  exact ⟨Int.emod_nonneg _ (by omega), Int.emod_lt_of_pos _ hn⟩
theorem getD_mem {xs : List Int} {i : Nat} (h : i < xs.length) : xs.getD i 0 ∈ xs := by
  rw [List.getD_eq_getElem?_getD, List.getElem?_eq_getElem h]; exact List.getElem_mem h
theorem next_ok {s : List Int × Int × Int} (hs : SrcOk s) (n : Int) (hn : n ≤ 1000000000000000) : ∃ x s', spec_l01Next.f s n = some (x, s') ∧ SrcOk s' ∧ 0 ≤ x ∧ (x < n ∨ x = 0) := by
  obtain ⟨code, at_, seed⟩ := s
  obtain ⟨h1, h2, h3, h4, h5⟩ := hs
  simp only at h1 h2 h3 h4 h5
  unfold spec_l01Next.f spec_l01Next.fn spec_l01Next.top
  by_cases hn1 : n ≤ 1
  · simp only [hn1, decide_true, if_true]
    exact ⟨0, _, rfl, ⟨h1, h2, h3, h4, h5⟩, by omega, .inr rfl⟩
  have w1 := w64 (n := seed * 48271) (by omega) (by omega)
  have w2 := w64 (n := seed * 48271 + 29) (by omega) (by omega)
  have hm := @tmod_bd (seed * 48271 + 29) 2147483647 (by omega) (by omega)
  have hd : Int.tdiv (Int.tmod (seed * 48271 + 29) 2147483647) 31 = Int.tmod (seed * 48271 + 29) 2147483647 / 31 := Int.tdiv_eq_ediv_of_nonneg hm.1
  have w3 := w64 (n := Int.tdiv (Int.tmod (seed * 48271 + 29) 2147483647) 31) (by omega) (by omega)
  have w4 := w64 (n := at_ + 1) (by omega) (by omega)
  have w5 := w64 (n := at_ + 1 - 1) (by omega) (by omega)
  have hnz : ¬ n = 0 := by omega
  simp only [hn1, decide_false, Bool.false_eq_true, if_false, w1, w2, w3, w4, w5, hnz, decide_eq_true_eq]
  by_cases ha : at_ < (code.length : Int)
  · have hc := h2 _ (getD_mem (show at_.toNat < code.length by omega))
    have hc' : (0 : Int) ≤ at_ + 1 - 1 ∧ at_ + 1 - 1 < (code.length : Int) := by omega
    have e1 : (at_ + 1 - 1).toNat = at_.toNat := by omega
    have w6 := w64 (n := code.getD at_.toNat 0) (by omega) (by omega)
    have w7 := w64 (n := Int.tdiv (Int.tmod (seed * 48271 + 29) 2147483647) 31 + code.getD at_.toNat 0) (by omega) (by omega)
    have b1 := @tmod_bd (code.getD at_.toNat 0) n hc.1 (by omega)
    have b2 := @tmod_bd (Int.tdiv (Int.tmod (seed * 48271 + 29) 2147483647) 31 + code.getD at_.toNat 0) n (by omega) (by omega)
    have hs' : SrcOk (code, at_ + 1, Int.tmod (seed * 48271 + 29) 2147483647) := ⟨h1, h2, ⟨by simp only; omega, by simp only; omega⟩, hm.1, hm.2⟩
    simp only [ha, h3.1, and_self, if_true, hc', e1, w6, w7]
    by_cases h256 : n ≤ 256
    · simp only [h256, if_true]
      split
      · exact ⟨_, _, rfl, hs', b1.1, .inl b1.2⟩
      · exact ⟨_, _, rfl, hs', b2.1, .inl b2.2⟩
    · simp only [h256, if_false]
      exact ⟨_, _, rfl, hs', b2.1, .inl b2.2⟩
  · have b3 := @tmod_bd (Int.tdiv (Int.tmod (seed * 48271 + 29) 2147483647) 31) n (by omega) (by omega)
    simp only [ha, if_false]
    exact ⟨_, _, rfl, ⟨h1, h2, h3, hm.1, hm.2⟩, b3.1, .inl b3.2⟩
theorem pick_ok {s : List Int × Int × Int} (hs : SrcOk s) (xs : List Int) (h : 1 ≤ xs.length) (hl : xs.length ≤ 1000) : ∃ x s', spec_l01Pick.f s xs = some (x, s') ∧ SrcOk s' ∧ x ∈ xs := by
  obtain ⟨x, s', e, h1, h2, h3⟩ := next_ok hs (xs.length : Int) (by omega)
  have hx : x < (xs.length : Int) := by omega
  unfold spec_l01Pick.f spec_l01Pick.fn spec_l01Pick.top
  rw [e]
  simp only [Option.bind_some, h2, hx, and_self, if_true]
  exact ⟨_, _, rfl, h1, getD_mem (by omega)⟩
theorem from_l (code : List Int) (hl : code.length ≤ 4096) (hc : ∀ c ∈ code, 0 ≤ c ∧ c ≤ 255) (c : List Int) (b : Int) : ∀ (d i k : Nat) (seed : Int), i + d = code.length → d < k → 0 ≤ seed → seed < 2147483647 → ∃ seed', spec_l01From.l3 NN k code i c b seed = some (c, b, seed') ∧ 0 ≤ seed' ∧ seed' < 2147483647 := by
  intro d
  induction d with
  | zero =>
    intro i k seed hi hk h0 h1
    obtain ⟨k, rfl⟩ : ∃ j, k = j + 1 := ⟨k - 1, by omega⟩
    have n1 : ¬ (i : Int) < (code.length : Int) := by omega
    exact ⟨seed, by simp only [spec_l01From.l3, spec_l01From.g3, n1, decide_false, Bool.false_eq_true, if_false], h0, h1⟩
  | succ d ih =>
    intro i k seed hi hk h0 h1
    obtain ⟨k, rfl⟩ : ∃ j, k = j + 1 := ⟨k - 1, by omega⟩
    have n1 : (i : Int) < (code.length : Int) := by omega
    by_cases h64 : (i : Int) < 64
    · have hcc := hc _ (getD_mem (show i < code.length by omega))
      have w1 := w64 (n := seed * 83) (by omega) (by omega)
      have w2 := w64 (n := code.getD i 0) (by omega) (by omega)
      have w3 := w64 (n := seed * 83 + code.getD i 0) (by omega) (by omega)
      have w4 := w64 (n := (i : Int) + 1) (by omega) (by omega)
      have hm := @tmod_bd (seed * 83 + code.getD i 0) 2147483647 (by omega) (by omega)
      obtain ⟨s', e1, e2⟩ := ih (i + 1) k (Int.tmod (seed * 83 + code.getD i 0) 2147483647) (by omega) (by omega) hm.1 hm.2
      refine ⟨s', ?_, e2⟩
      simp only [spec_l01From.l3, spec_l01From.g3, n1, h64, decide_true, if_true, Int.toNat_natCast, w1, w2, w3, w4, show (0 : Int) ≤ (i : Int) from by omega, and_self]
      exact e1
    · exact ⟨seed, by simp only [spec_l01From.l3, spec_l01From.g3, n1, h64, decide_true, if_true, decide_false, Bool.false_eq_true, if_false], h0, h1⟩
def CodeOk (code : List Int) : Prop := code.length ≤ 4096 ∧ ∀ c ∈ code, 0 ≤ c ∧ c ≤ 255
theorem from_ok {code : List Int} (h : CodeOk code) : ∃ s, spec_l01From.f code = some s ∧ SrcOk s := by
  obtain ⟨s', e, h1, h2⟩ := from_l code h.1 h.2 code 0 code.length 0 NN 61043 (by omega) (by have := h.1; exact NN_lt (by omega)) (by omega) (by omega)
  exact ⟨(code, 0, s'), e, h.1, h.2, ⟨by simp only; omega, by simp only; omega⟩, h1, h2⟩
theorem big_f (code : List Int) : laws_big.f code = some (decide ((4096 : Int) < (code.length : Int))) := rfl
theorem code_of {code : List Int} (h : Ls (Rg .u8) code) (hb : ¬ (4096 : Int) < (code.length : Int)) : CodeOk code := ⟨by omega, fun c hc => wf8.1 (h.2 c hc)⟩
end Go.Pl

namespace Go.Pl
open Go.Ev
set_option linter.unusedVariables false
noncomputable section
def laws_likeInts.g4 (L4 : List Int → List Int → Int → Option Bool) (a0 : List Int) (b1 : List Int) (i5 : Int) : Option Bool :=
  if (decide ((i5 : Int) < (a0.length : Int))) = true then
    if (0 : Int) ≤ i5 ∧ (i5 : Int) < a0.length then
      if (0 : Int) ≤ i5 ∧ (i5 : Int) < b1.length then
        if (((a0.getD (i5 : Int).toNat 0) : Int) != (b1.getD (i5 : Int).toNat 0)) = true then
          some false
        else
          L4 a0 b1 (IntKind.i64.wrap (i5 + 1))
      else
        none
    else
      none
  else
    some true
def laws_likeInts.l4 (n : Nat) : Nat → List Int → List Int → Int → Option Bool
  | 0 => fun _ _ _ => none
  | k + 1 => laws_likeInts.g4 (laws_likeInts.l4 n k)
def laws_likeInts.top (I4 : List Int → List Int → Int → Option Bool) (a0 : List Int) (b1 : List Int) : Option Bool :=
  if (((a0.length : Int) : Int) != (b1.length : Int)) = true then
    some false
  else
    I4 a0 b1 0
def laws_likeInts.fn (n : Nat) (a0 : List Int) (b1 : List Int) : Option Bool := laws_likeInts.top (laws_likeInts.l4 n n) a0 b1
def laws_likeInts.f (a0 : List Int) (b1 : List Int) : Option Bool := laws_likeInts.fn NN a0 b1
end
end Go.Pl

namespace Go.Pl
open Go.Ev
set_option linter.unusedVariables false
noncomputable section
def laws_hasInt.g2 (L2 : List Int → Int → Int → Option Bool) (list0 : List Int) (x1 : Int) (i5 : Int) : Option Bool :=
  if (decide ((i5 : Int) < (list0.length : Int))) = true then
    if (0 : Int) ≤ i5 ∧ (i5 : Int) < list0.length then
      if (((list0.getD (i5 : Int).toNat 0) : Int) == x1) = true then
        some true
      else
        L2 list0 x1 (IntKind.i64.wrap (i5 + 1))
    else
      none
  else
    some false
def laws_hasInt.l2 (n : Nat) : Nat → List Int → Int → Int → Option Bool
  | 0 => fun _ _ _ => none
  | k + 1 => laws_hasInt.g2 (laws_hasInt.l2 n k)
def laws_hasInt.top (I2 : List Int → Int → Int → Option Bool) (list0 : List Int) (x1 : Int) : Option Bool :=
  I2 list0 x1 0
def laws_hasInt.fn (n : Nat) (list0 : List Int) (x1 : Int) : Option Bool := laws_hasInt.top (laws_hasInt.l2 n n) list0 x1
def laws_hasInt.f (list0 : List Int) (x1 : Int) : Option Bool := laws_hasInt.fn NN list0 x1
end
end Go.Pl

namespace Go.Pl
open Go.Ev
set_option linter.unusedVariables false
set_option linter.unusedSimpArgs false
theorem likeInts_self (a : List Int) (hl : a.length ≤ 140737488355328) : laws_likeInts.f a a = some true := by
  unfold laws_likeInts.f laws_likeInts.fn laws_likeInts.top
  simp only [bne_self_eq_false, Bool.false_eq_true, if_false]
  refine eqS_loop (E := fun _ => True) (fun k a b i => laws_likeInts.l4 NN k a b i) a (fun _ _ => trivial) ?_ ?_ NN (NN_lt (by omega))
  · intro k p x r hx ha
    subst ha
    have hm := mid_len p r x
    have c1 : (p.length : Int) < ((p ++ x :: r).length : Int) := by omega
    have c0 : (0 : Int) ≤ (p.length : Int) := by omega
    have cw := w64 (n := (p.length : Int) + 1) (by omega) (by omega)
    simp only [laws_likeInts.l4, laws_likeInts.g4, c0, c1, cw, and_self, and_true, true_and, decide_true, decide_false, if_true, if_false, mid_get, mid_set, mid_getn, mid_setn, bt_mid, Option.bind_some, Bool.not_true, Bool.not_false, Bool.false_eq_true, Bool.true_eq_false, beq_self_eq_true, bne_self_eq_false, Int.toNat_natCast]
  · intro k
    simp [laws_likeInts.l4, laws_likeInts.g4]
theorem hasInt_f (xs : List Int) (x : Int) (hl : xs.length ≤ 140737488355328) : laws_hasInt.f xs x = some (decide (x ∈ xs)) := by
  have := find_loop (E := fun _ => True) (fun c : Int => c == x) (fun _ _ => some true) (fun _ => some false) (fun k xs i => laws_hasInt.l2 NN k xs x i) ?_ ?_ xs (fun _ _ => trivial) (by omega) NN (NN_lt (by omega))
  · refine this.trans ?_
    have key : ∀ (xs : List Int) (i : Nat), (firstOf (fun c : Int => c == x) i xs).elim (some false) (fun _ => some true) = some (decide (x ∈ xs)) := by
      intro xs
      induction xs with
      | nil => intro i; simp [firstOf]
      | cons a r ih =>
        intro i
        by_cases h : a = x
        · subst h; simp [firstOf]
        · have h1 : (a == x) = false := by rw [beq_eq_false_iff_ne]; exact h
          have h2 : ¬ x = a := fun e => h e.symm
          simp only [firstOf, h1, Bool.false_eq_true, if_false, List.mem_cons, h2, false_or]
          exact ih _
    exact key xs 0
  · intro k p
    simp [laws_hasInt.l2, laws_hasInt.g2]
  · intro k p a r _ c0 c1 c2 cw
    simp only [laws_hasInt.l2, laws_hasInt.g2, c0, c1, cw, and_self, and_true, true_and, decide_true, decide_false, if_true, if_false, mid_get, mid_set, mid_getn, mid_setn, bt_mid, Option.bind_some, Bool.not_true, Bool.not_false, Bool.false_eq_true, Bool.true_eq_false, beq_self_eq_true, bne_self_eq_false, Int.toNat_natCast]
end Go.Pl

namespace Go.Pl
open Go.Ev
set_option linter.unusedVariables false
noncomputable section
def spec_l32Good.g4 (L4 : Int → (List Int × Int × Int) → (List (Int × ByteArray × Int)) → List ByteArray → Option ((List (Int × ByteArray × Int)) × List Int × Int × Int)) (n5 : Int) (s0 : List Int × Int × Int) (out3 : List (Int × ByteArray × Int)) (names4 : List ByteArray) : Option ((List (Int × ByteArray × Int)) × List Int × Int × Int) :=
  if (decide ((0 : Int) < n5)) = true then
    (spec_l01Next.f s0 4).bind fun r3 =>
    (spec_l01Next.f r3.2 4).bind fun r4 =>
    if (0 : Int) ≤ r4.1 ∧ (r4.1 : Int) < names4.length then
      (spec_l01Next.f r4.2 12).bind fun r5 =>
      (spec_l32Left.f out3 (names4.getD (r4.1 : Int).toNat ByteArray.empty) (out3.length : Int)).bind fun r6 =>
      if (decide ((0 : Int) < r3.1)) = true then
        if (decide ((0 : Int) < r6)) = true then
          (spec_l01Next.f r5.2 2).bind fun r7 =>
          if ((r7.1 : Int) == 0) = true then
            if ((r6 : Int) == 0) = true then
              (spec_BookPieces.f out3 (0, (names4.getD (r4.1 : Int).toNat ByteArray.empty, (if r6 < 1000 then r6 else 1000)))).bind fun r8 =>
              if ((r8.2 : Int) == 0) = true then
                L4 (IntKind.i64.wrap (n5 - 1)) r7.2 r8.1 names4
              else
                L4 (IntKind.i64.wrap (n5 - 1)) r7.2 out3 names4
            else
              (spec_BookPieces.f out3 (r3.1, (names4.getD (r4.1 : Int).toNat ByteArray.empty, (if r6 < 1000 then r6 else 1000)))).bind fun r9 =>
              if ((r9.2 : Int) == 0) = true then
                L4 (IntKind.i64.wrap (n5 - 1)) r7.2 r9.1 names4
              else
                L4 (IntKind.i64.wrap (n5 - 1)) r7.2 out3 names4
          else if ((r6 : Int) == 0) = true then
            (spec_BookPieces.f out3 (0, (names4.getD (r4.1 : Int).toNat ByteArray.empty, IntKind.i64.wrap (1 + r5.1)))).bind fun r10 =>
            if ((r10.2 : Int) == 0) = true then
              L4 (IntKind.i64.wrap (n5 - 1)) r7.2 r10.1 names4
            else
              L4 (IntKind.i64.wrap (n5 - 1)) r7.2 out3 names4
          else
            (spec_BookPieces.f out3 (r3.1, (names4.getD (r4.1 : Int).toNat ByteArray.empty, IntKind.i64.wrap (1 + r5.1)))).bind fun r11 =>
            if ((r11.2 : Int) == 0) = true then
              L4 (IntKind.i64.wrap (n5 - 1)) r7.2 r11.1 names4
            else
              L4 (IntKind.i64.wrap (n5 - 1)) r7.2 out3 names4
        else if ((r6 : Int) == 0) = true then
          (spec_BookPieces.f out3 (0, (names4.getD (r4.1 : Int).toNat ByteArray.empty, IntKind.i64.wrap (1 + r5.1)))).bind fun r12 =>
          if ((r12.2 : Int) == 0) = true then
            L4 (IntKind.i64.wrap (n5 - 1)) r5.2 r12.1 names4
          else
            L4 (IntKind.i64.wrap (n5 - 1)) r5.2 out3 names4
        else
          (spec_BookPieces.f out3 (r3.1, (names4.getD (r4.1 : Int).toNat ByteArray.empty, IntKind.i64.wrap (1 + r5.1)))).bind fun r13 =>
          if ((r13.2 : Int) == 0) = true then
            L4 (IntKind.i64.wrap (n5 - 1)) r5.2 r13.1 names4
          else
            L4 (IntKind.i64.wrap (n5 - 1)) r5.2 out3 names4
      else if ((r6 : Int) == 0) = true then
        (spec_BookPieces.f out3 (0, (names4.getD (r4.1 : Int).toNat ByteArray.empty, IntKind.i64.wrap (1 + r5.1)))).bind fun r14 =>
        if ((r14.2 : Int) == 0) = true then
          L4 (IntKind.i64.wrap (n5 - 1)) r5.2 r14.1 names4
        else
          L4 (IntKind.i64.wrap (n5 - 1)) r5.2 out3 names4
      else
        (spec_BookPieces.f out3 (r3.1, (names4.getD (r4.1 : Int).toNat ByteArray.empty, IntKind.i64.wrap (1 + r5.1)))).bind fun r15 =>
        if ((r15.2 : Int) == 0) = true then
          L4 (IntKind.i64.wrap (n5 - 1)) r5.2 r15.1 names4
        else
          L4 (IntKind.i64.wrap (n5 - 1)) r5.2 out3 names4
    else
      none
  else
    some (out3, s0)
def spec_l32Good.l4 (n : Nat) : Nat → Int → (List Int × Int × Int) → (List (Int × ByteArray × Int)) → List ByteArray → Option ((List (Int × ByteArray × Int)) × List Int × Int × Int)
  | 0 => fun _ _ _ _ => none
  | k + 1 => spec_l32Good.g4 (spec_l32Good.l4 n k)
def spec_l32Good.top (I4 : Int → (List Int × Int × Int) → (List (Int × ByteArray × Int)) → List ByteArray → Option ((List (Int × ByteArray × Int)) × List Int × Int × Int)) (s0 : List Int × Int × Int) : Option ((List (Int × ByteArray × Int)) × List Int × Int × Int) :=
  (spec_l03Names.f).bind fun r1 =>
  (spec_l01Next.f s0 10).bind fun r2 =>
  I4 r2.1 r2.2 [] r1
def spec_l32Good.fn (n : Nat) (s0 : List Int × Int × Int) : Option ((List (Int × ByteArray × Int)) × List Int × Int × Int) := spec_l32Good.top (spec_l32Good.l4 n n) s0
def spec_l32Good.f (s0 : List Int × Int × Int) : Option ((List (Int × ByteArray × Int)) × List Int × Int × Int) := spec_l32Good.fn NN s0
end
end Go.Pl

namespace Go.Pl
open Go.Ev
set_option linter.unusedVariables false
noncomputable section
def spec_l32Draw.g6 (L6 : (List Int × Int × Int) → (List (Int × ByteArray × Int)) → Option ((List (Int × ByteArray × Int)) × List Int × Int × Int)) (s0 : List Int × Int × Int) (out3 : List (Int × ByteArray × Int)) : Option ((List (Int × ByteArray × Int)) × List Int × Int × Int) :=
  (spec_l01Next.f s0 2).bind fun r6 =>
  if (decide (((out3.length : Int) : Int) < (IntKind.i64.wrap (60 + r6.1)))) = true then
    if out3.length + ([(0, ((⟨#[112, 97, 108, 109]⟩ : ByteArray), 1))]).length < room 32 then
      L6 r6.2 (out3 ++ ([(0, ((⟨#[112, 97, 108, 109]⟩ : ByteArray), 1))]))
    else
      none
  else
    some (out3, r6.2)
def spec_l32Draw.l6 (n : Nat) : Nat → (List Int × Int × Int) → (List (Int × ByteArray × Int)) → Option ((List (Int × ByteArray × Int)) × List Int × Int × Int)
  | 0 => fun _ _ => none
  | k + 1 => spec_l32Draw.g6 (spec_l32Draw.l6 n k)
def spec_l32Draw.top (I6 : (List Int × Int × Int) → (List (Int × ByteArray × Int)) → Option ((List (Int × ByteArray × Int)) × List Int × Int × Int)) (s0 : List Int × Int × Int) : Option ((List (Int × ByteArray × Int)) × List Int × Int × Int) :=
  (spec_l32Good.f s0).bind fun r1 =>
  (spec_l01Next.f r1.2 30).bind fun r2 =>
  if ((r2.1 : Int) == 0) = true then
    (spec_l01Next.f r2.2 6).bind fun r3 =>
    (spec_l01DrawWord.f r3.2).bind fun r4 =>
    (spec_l01Pick.f r4.2 ([0, 1, 1000, 1001])).bind fun r5 =>
    if r1.1.length + ([(IntKind.i64.wrap (r3.1 - 1), (r4.1, r5.1))]).length < room 32 then
      some (r1.1 ++ ([(IntKind.i64.wrap (r3.1 - 1), (r4.1, r5.1))]), r5.2)
    else
      none
  else if ((r2.1 : Int) == 1) = true then
    I6 r2.2 r1.1
  else if ((r2.1 : Int) == 2) = true then
    if r1.1.length + ([(0, ((⟨#[97, 115, 116, 101, 114]⟩ : ByteArray), 1000)), (0, ((⟨#[97, 115, 116, 101, 114]⟩ : ByteArray), 700))]).length < room 32 then
      some (r1.1 ++ ([(0, ((⟨#[97, 115, 116, 101, 114]⟩ : ByteArray), 1000)), (0, ((⟨#[97, 115, 116, 101, 114]⟩ : ByteArray), 700))]), r2.2)
    else
      none
  else
    some (r1.1, r2.2)
def spec_l32Draw.fn (n : Nat) (s0 : List Int × Int × Int) : Option ((List (Int × ByteArray × Int)) × List Int × Int × Int) := spec_l32Draw.top (spec_l32Draw.l6 n n) s0
def spec_l32Draw.f (s0 : List Int × Int × Int) : Option ((List (Int × ByteArray × Int)) × List Int × Int × Int) := spec_l32Draw.fn NN s0
end
end Go.Pl

namespace Go.Pl
open Go.Ev
set_option linter.unusedVariables false
noncomputable section
def spec_DrawBookPieces.top (code0 : List Int) : Option ((List (Int × ByteArray × Int)) × Int × ByteArray × Int) :=
  (spec_l01From.f code0).bind fun r1 =>
  (spec_l32Draw.f r1).bind fun r2 =>
  (spec_l01Next.f r2.2 4).bind fun r3 =>
  (spec_l03Names.f).bind fun r4 =>
  (spec_l01Next.f r3.2 5).bind fun r5 =>
  if (0 : Int) ≤ r5.1 ∧ (r5.1 : Int) < r4.length then
    (spec_l01Next.f r5.2 12).bind fun r6 =>
    (spec_l01Next.f r6.2 4).bind fun r7 =>
    (spec_l01Pick.f r7.2 ([IntKind.i64.wrap (1 + r6.1), 1, 1000, 1001, IntKind.i64.wrap (1 + r7.1)])).bind fun r8 =>
    some (r2.1, (r3.1, (r4.getD (r5.1 : Int).toNat ByteArray.empty, r8.1)))
  else
    none
def spec_DrawBookPieces.fn (n : Nat) (code0 : List Int) : Option ((List (Int × ByteArray × Int)) × Int × ByteArray × Int) := spec_DrawBookPieces.top code0
def spec_DrawBookPieces.f (code0 : List Int) : Option ((List (Int × ByteArray × Int)) × Int × ByteArray × Int) := spec_DrawBookPieces.fn NN code0
end
end Go.Pl

namespace Go.Pl
open Go.Ev
set_option linter.unusedVariables false
noncomputable section
def spec_DrawPiecesLeft.top (code0 : List Int) : Option ((List (Int × ByteArray × Int)) × ByteArray) :=
  (spec_l01From.f code0).bind fun r1 =>
  (spec_l32Draw.f r1).bind fun r2 =>
  (spec_l01Next.f r2.2 16).bind fun r3 =>
  if ((r3.1 : Int) == 0) = true then
    (spec_l01DrawWord.f r3.2).bind fun r4 =>
    some (r2.1, r4.1)
  else
    (spec_l03Names.f).bind fun r5 =>
    (spec_l01Next.f r3.2 5).bind fun r6 =>
    if (0 : Int) ≤ r6.1 ∧ (r6.1 : Int) < r5.length then
      some (r2.1, r5.getD (r6.1 : Int).toNat ByteArray.empty)
    else
      none
def spec_DrawPiecesLeft.fn (n : Nat) (code0 : List Int) : Option ((List (Int × ByteArray × Int)) × ByteArray) := spec_DrawPiecesLeft.top code0
def spec_DrawPiecesLeft.f (code0 : List Int) : Option ((List (Int × ByteArray × Int)) × ByteArray) := spec_DrawPiecesLeft.fn NN code0
end
end Go.Pl

namespace Go.Pl
open Go.Ev
set_option linter.unusedVariables false
noncomputable section
def spec_DrawTotalsOf.top (code0 : List Int) : Option ((List (Int × ByteArray × Int)) × ByteArray) :=
  (spec_DrawPiecesLeft.f code0).bind fun r1 =>
  some (r1.1, r1.2)
def spec_DrawTotalsOf.fn (n : Nat) (code0 : List Int) : Option ((List (Int × ByteArray × Int)) × ByteArray) := spec_DrawTotalsOf.top code0
def spec_DrawTotalsOf.f (code0 : List Int) : Option ((List (Int × ByteArray × Int)) × ByteArray) := spec_DrawTotalsOf.fn NN code0
end
end Go.Pl

namespace Go.Pl
open Go.Ev
set_option linter.unusedVariables false
noncomputable section
def laws_likeBookings.g4 (L4 : (List (Int × ByteArray × Int)) → (List (Int × ByteArray × Int)) → Int → Option Bool) (a0 : List (Int × ByteArray × Int)) (b1 : List (Int × ByteArray × Int)) (i5 : Int) : Option Bool :=
  if (decide ((i5 : Int) < (a0.length : Int))) = true then
    if (0 : Int) ≤ i5 ∧ (i5 : Int) < a0.length then
      if (0 : Int) ≤ i5 ∧ (i5 : Int) < b1.length then
        if (!(((((a0.getD (i5 : Int).toNat (0, (ByteArray.empty, 0))).1) : Int) == ((b1.getD (i5 : Int).toNat (0, (ByteArray.empty, 0))).1)) && (((((a0.getD (i5 : Int).toNat (0, (ByteArray.empty, 0))).2).1).toList == (((b1.getD (i5 : Int).toNat (0, (ByteArray.empty, 0))).2).1).toList) && (((((a0.getD (i5 : Int).toNat (0, (ByteArray.empty, 0))).2).2) : Int) == (((b1.getD (i5 : Int).toNat (0, (ByteArray.empty, 0))).2).2))))) = true then
          some false
        else
          L4 a0 b1 (IntKind.i64.wrap (i5 + 1))
      else
        none
    else
      none
  else
    some true
def laws_likeBookings.l4 (n : Nat) : Nat → (List (Int × ByteArray × Int)) → (List (Int × ByteArray × Int)) → Int → Option Bool
  | 0 => fun _ _ _ => none
  | k + 1 => laws_likeBookings.g4 (laws_likeBookings.l4 n k)
def laws_likeBookings.top (I4 : (List (Int × ByteArray × Int)) → (List (Int × ByteArray × Int)) → Int → Option Bool) (a0 : List (Int × ByteArray × Int)) (b1 : List (Int × ByteArray × Int)) : Option Bool :=
  if (((a0.length : Int) : Int) != (b1.length : Int)) = true then
    some false
  else
    I4 a0 b1 0
def laws_likeBookings.fn (n : Nat) (a0 : List (Int × ByteArray × Int)) (b1 : List (Int × ByteArray × Int)) : Option Bool := laws_likeBookings.top (laws_likeBookings.l4 n n) a0 b1
def laws_likeBookings.f (a0 : List (Int × ByteArray × Int)) (b1 : List (Int × ByteArray × Int)) : Option Bool := laws_likeBookings.fn NN a0 b1
end
end Go.Pl

namespace Go.Pl
open Go.Ev
set_option linter.unusedVariables false
set_option linter.unusedSimpArgs false
theorem getB_mem {xs : List ByteArray} {i : Nat} (h : i < xs.length) : xs.getD i ByteArray.empty ∈ xs := by
  rw [List.getD_eq_getElem?_getD, List.getElem?_eq_getElem h]; exact List.getElem_mem h
def names6 : List ByteArray := [(⟨#[97, 115, 116, 101, 114]⟩ : ByteArray), (⟨#[99, 111, 109, 101, 116]⟩ : ByteArray), (⟨#[100, 97, 104, 108, 105, 97]⟩ : ByteArray), (⟨#[112, 97, 108, 109]⟩ : ByteArray), (⟨#[112, 101, 111, 110, 121]⟩ : ByteArray), (⟨#[119, 105, 108, 108, 111, 119]⟩ : ByteArray)]
theorem names_f : spec_l03Names.f = some names6 := rfl
theorem names6_len : names6.length = 6 := rfl
theorem names6_sm : ∀ c ∈ names6, Sm c := by
  intro c hc
  unfold names6 at hc
  simp only [List.mem_cons, List.not_mem_nil, or_false] at hc
  unfold Sm
  rcases hc with h | h | h | h | h | h <;> (rw [h]; exact Nat.le_of_ble_eq_true rfl)
theorem good01_ok {s : List Int × Int × Int} (hs : SrcOk s) : ∃ u s', spec_l01Good.f s = some (u, s') ∧ SrcOk s' ∧ Sm u := by
  unfold spec_l01Good.f spec_l01Good.fn spec_l01Good.top
  obtain ⟨a, s1, e1, o1, a0, a1⟩ := next_ok hs 12 (by omega)
  rw [e1]
  simp only [Option.bind_some]
  rw [if_pos ⟨a0, by simp only [List.length_cons, List.length_nil]; omega⟩]
  refine ⟨_, _, rfl, o1, ?_⟩
  have hm := getB_mem (xs := [(⟨#[97, 100, 97]⟩ : ByteArray), (⟨#[98, 114, 117, 110, 111]⟩ : ByteArray), (⟨#[99, 108, 97, 114, 97]⟩ : ByteArray), (⟨#[100, 111, 114, 97]⟩ : ByteArray), (⟨#[101, 109, 105, 108]⟩ : ByteArray), (⟨#[102, 114, 105, 100, 97]⟩ : ByteArray), (⟨#[103, 117, 115, 116, 97, 118]⟩ : ByteArray), (⟨#[104, 97, 110, 110, 97]⟩ : ByteArray), (⟨#[105, 118, 97, 110]⟩ : ByteArray), (⟨#[106, 97, 110, 97]⟩ : ByteArray), (⟨#[107, 97, 114, 108]⟩ : ByteArray), (⟨#[108, 101, 110, 97]⟩ : ByteArray)]) (i := a.toNat) (by simp only [List.length_cons, List.length_nil]; omega)
  revert hm
  generalize List.getD _ a.toNat ByteArray.empty = c
  intro hc
  simp only [List.mem_cons, List.not_mem_nil, or_false] at hc
  unfold Sm
  rcases hc with h | h | h | h | h | h | h | h | h | h | h | h <;> (rw [h]; exact Nat.le_of_ble_eq_true rfl)
theorem drawWord_ok {s : List Int × Int × Int} (hs : SrcOk s) : ∃ u s', spec_l01DrawWord.f s = some (u, s') ∧ SrcOk s' ∧ Sm u := by
  unfold spec_l01DrawWord.f spec_l01DrawWord.fn spec_l01DrawWord.top
  obtain ⟨a, s1, e1, o1, a0, a1⟩ := next_ok hs 24 (by omega)
  obtain ⟨b, s2, e2, o2, b0, b1⟩ := next_ok o1 6 (by omega)
  obtain ⟨u, s3, e3, o3, u1⟩ := good01_ok o1
  rw [e1]
  simp only [Option.bind_some, e2, e3]
  split
  · rw [if_pos ⟨b0, by simp only [List.length_cons, List.length_nil]; omega⟩]
    refine ⟨_, _, rfl, o2, ?_⟩
    have hm := getB_mem (xs := [(⟨#[]⟩ : ByteArray), (⟨#[65, 100, 97]⟩ : ByteArray), (⟨#[97, 49]⟩ : ByteArray), (⟨#[97, 98, 99, 100, 101, 102, 103, 104, 105, 106, 107, 108, 109, 110, 111, 112]⟩ : ByteArray), (⟨#[97, 98, 99, 100, 101, 102, 103, 104, 105, 106, 107, 108, 109, 110, 111, 112, 113]⟩ : ByteArray), (⟨#[97, 32, 98]⟩ : ByteArray)]) (i := b.toNat) (by simp only [List.length_cons, List.length_nil]; omega)
    revert hm
    generalize List.getD _ b.toNat ByteArray.empty = c
    intro hc
    simp only [List.mem_cons, List.not_mem_nil, or_false] at hc
    unfold Sm
    rcases hc with h | h | h | h | h | h <;> (rw [h]; exact Nat.le_of_ble_eq_true rfl)
  · exact ⟨_, _, rfl, o3, u1⟩
theorem mkB {a c : Int} {n : ByteArray} (h1 : -9223372036854775808 ≤ a ∧ a ≤ 9223372036854775807) (h2 : Sm n) (h3 : -9223372036854775808 ≤ c ∧ c ≤ 9223372036854775807) : OkBooking (a, n, c) := ⟨wf64.2 h1, h2, wf64.2 h3⟩
theorem bookR_zero {xs : List (Int × ByteArray × Int)} {b : Int × ByteArray × Int} (h : (bookR xs b).2 = 0) : booksB xs = true ∧ (bookR xs b).1 = xs ++ [b] ∧ booksB (xs ++ [b]) = true := by
  unfold bookR at h ⊢
  by_cases h1 : booksB xs = true
  · rw [if_pos h1] at h ⊢
    by_cases h2 : xs.length = 60
    · rw [if_pos h2] at h; simp at h
    · rw [if_neg h2] at h ⊢
      by_cases h3 : booksB (xs ++ [b]) = true
      · rw [if_pos h3]; exact ⟨h1, rfl, h3⟩
      · rw [if_neg h3] at h; simp at h
  · rw [if_neg h1] at h; simp at h
theorem bookR_one (xs : List (Int × ByteArray × Int)) (b : Int × ByteArray × Int) : ((bookR xs b).2 != 1) = booksB xs := by
  unfold bookR
  cases h1 : booksB xs
  · rfl
  · by_cases h2 : xs.length = 60
    · simp [h2]
    · by_cases h3 : booksB (xs ++ [b]) = true
      · simp [h2, h3]
      · simp [h2, h3]
theorem good32_l : ∀ (d k : Nat) (s : List Int × Int × Int) (out : List (Int × ByteArray × Int)), d < k → d ≤ 1000 → SrcOk s → booksB out = true → Lm OkBooking out →
    ∃ o' s', spec_l32Good.l4 NN k d s out names6 = some (o', s') ∧ SrcOk s' ∧ booksB o' = true ∧ Lm OkBooking o' := by
  intro d
  induction d with
  | zero =>
    intro k s out hk _ hs hb hl
    obtain ⟨k, rfl⟩ : ∃ j, k = j + 1 := ⟨k - 1, by omega⟩
    exact ⟨out, s, by simp [spec_l32Good.l4, spec_l32Good.g4], hs, hb, hl⟩
  | succ d ih =>
    intro k s out hk hd hs hb hl
    obtain ⟨k, rfl⟩ : ∃ j, k = j + 1 := ⟨k - 1, by omega⟩
    obtain ⟨a, s1, e1, o1, a0, a1⟩ := next_ok hs 4 (by omega)
    obtain ⟨c, s2, e2, o2, c0, c1⟩ := next_ok o1 4 (by omega)
    obtain ⟨n, s3, e3, o3, n0, n1⟩ := next_ok o2 12 (by omega)
    obtain ⟨f, s4, e4, o4, f0, f1⟩ := next_ok o3 2 (by omega)
    have hv := booksB_val hb
    have hc : c < (names6.length : Int) := by rw [names6_len]; omega
    have hm := names6_sm _ (getB_mem (show c.toNat < names6.length by rw [names6_len]; omega))
    have hleft := leftOf_le (names6.getD c.toNat ByteArray.empty) out hv.1
    have z := l32Left_all out (names6.getD c.toNat ByteArray.empty) hv.1 (by omega)
    have hv2 := hv.2
    have w1 : IntKind.i64.wrap (((d + 1 : Nat) : Int) - 1) = (d : Int) := by rw [w64 (by omega) (by omega)]; omega
    have w2 := w64 (n := 1 + n) (by omega) (by omega)
    have bk : ∀ (b : Int × ByteArray × Int) (s' : List Int × Int × Int), OkBooking b → SrcOk s' → ∃ o' s'', ((spec_BookPieces.f out b).bind fun r => if ((r.2 : Int) == 0) = true then spec_l32Good.l4 NN k d s' r.1 names6 else spec_l32Good.l4 NN k d s' out names6) = some (o', s'') ∧ SrcOk s'' ∧ booksB o' = true ∧ Lm OkBooking o' := by
      intro b s' hb' hs'
      rw [spec_BookPieces_f out b hl hb']
      simp only [Option.bind_some]
      by_cases h0 : (bookR out b).2 = 0
      · rw [if_pos (by rw [h0]; rfl)]
        have := bookR_zero h0
        exact ih k s' _ (by omega) (by omega) hs' (by rw [this.2.1]; exact this.2.2) (bookR_ok out b hl hb')
      · rw [if_neg (by simpa using h0)]
        exact ih k s' out (by omega) (by omega) hs' hb hl
    simp only [spec_l32Good.l4, spec_l32Good.g4, show (0 : Int) < ((d + 1 : Nat) : Int) from by omega, decide_true, if_true, e1, e2, e3, e4, z, hc, c0, and_self, Option.bind_some, w1, w2]
    generalize names6.getD c.toNat ByteArray.empty = nm at hm hleft
    generalize leftOf out nm = lf at hleft
    have hmin : -9223372036854775808 ≤ (if lf < 1000 then lf else 1000) ∧ (if lf < 1000 then lf else 1000) ≤ 9223372036854775807 := by split <;> omega
    generalize (if lf < 1000 then lf else 1000) = mn at hmin
    by_cases h1 : 0 < a
    · by_cases h2 : 0 < lf
      · have f4 : (lf == 0) = false := by rw [beq_eq_false_iff_ne]; omega
        by_cases h3 : f = 0
        · have f3 : (f == 0) = true := by rw [h3]; rfl
          simp only [decide_eq_true h1, decide_eq_true h2, f3, f4, if_true, Bool.false_eq_true, if_false]
          exact bk (a, nm, mn) s4 (mkB (by omega) hm hmin) o4
        · have f3 : (f == 0) = false := by rw [beq_eq_false_iff_ne]; exact h3
          simp only [decide_eq_true h1, decide_eq_true h2, f3, f4, if_true, Bool.false_eq_true, if_false]
          exact bk (a, nm, 1 + n) s4 (mkB (by omega) hm (by omega)) o4
      · by_cases h4 : lf = 0
        · have f4 : (lf == 0) = true := by rw [h4]; rfl
          simp only [decide_eq_true h1, decide_eq_false h2, f4, if_true, Bool.false_eq_true, if_false]
          exact bk (0, nm, 1 + n) s3 (mkB (by omega) hm (by omega)) o3
        · have f4 : (lf == 0) = false := by rw [beq_eq_false_iff_ne]; exact h4
          simp only [decide_eq_true h1, decide_eq_false h2, f4, if_true, Bool.false_eq_true, if_false]
          exact bk (a, nm, 1 + n) s3 (mkB (by omega) hm (by omega)) o3
    · by_cases h4 : lf = 0
      · have f4 : (lf == 0) = true := by rw [h4]; rfl
        simp only [decide_eq_false h1, f4, if_true, Bool.false_eq_true, if_false]
        exact bk (0, nm, 1 + n) s3 (mkB (by omega) hm (by omega)) o3
      · have f4 : (lf == 0) = false := by rw [beq_eq_false_iff_ne]; exact h4
        simp only [decide_eq_false h1, f4, if_true, Bool.false_eq_true, if_false]
        exact bk (a, nm, 1 + n) s3 (mkB (by omega) hm (by omega)) o3
theorem good32_ok {s : List Int × Int × Int} (hs : SrcOk s) : ∃ o s', spec_l32Good.f s = some (o, s') ∧ SrcOk s' ∧ booksB o = true ∧ Lm OkBooking o := by
  unfold spec_l32Good.f spec_l32Good.fn spec_l32Good.top
  obtain ⟨n, s1, e1, o1, n0, n1⟩ := next_ok hs 10 (by omega)
  obtain ⟨N, hN⟩ := Int.eq_ofNat_of_zero_le n0
  subst hN
  simp only [names_f, e1, Option.bind_some]
  exact good32_l N NN s1 [] (NN_lt (by omega)) (by omega) o1 rfl ⟨by simp, by simp⟩
theorem draw32_l : ∀ (d k : Nat) (s : List Int × Int × Int) (out : List (Int × ByteArray × Int)), out.length + d = 62 → d < k → SrcOk s → Lm OkBooking out →
    ∃ o s', spec_l32Draw.l6 NN k s out = some (o, s') ∧ SrcOk s' ∧ Lm OkBooking o := by
  intro d
  induction d with
  | zero =>
    intro k s out hd hk hs hl
    obtain ⟨k, rfl⟩ : ∃ j, k = j + 1 := ⟨k - 1, by omega⟩
    obtain ⟨a, s1, e1, o1, a0, a1⟩ := next_ok hs 2 (by omega)
    have w := w64 (n := 60 + a) (by omega) (by omega)
    have n1 : ¬ (out.length : Int) < 60 + a := by omega
    simp only [spec_l32Draw.l6, spec_l32Draw.g6, e1, Option.bind_some, w, n1, decide_false, Bool.false_eq_true, if_false]
    exact ⟨_, _, rfl, o1, hl⟩
  | succ d ih =>
    intro k s out hd hk hs hl
    obtain ⟨k, rfl⟩ : ∃ j, k = j + 1 := ⟨k - 1, by omega⟩
    obtain ⟨a, s1, e1, o1, a0, a1⟩ := next_ok hs 2 (by omega)
    have w := w64 (n := 60 + a) (by omega) (by omega)
    by_cases n1 : (out.length : Int) < 60 + a
    · simp only [spec_l32Draw.l6, spec_l32Draw.g6, e1, Option.bind_some, w, n1, decide_true, if_true]
      rw [if_pos (by rw [room32]; simp; omega)]
      exact ih k s1 _ (by simp; omega) (by omega) o1 (ok_snoc hl (mkB (by omega) (Nat.le_of_ble_eq_true rfl) (by omega)) (by omega))
    · simp only [spec_l32Draw.l6, spec_l32Draw.g6, e1, Option.bind_some, w, n1, decide_false, Bool.false_eq_true, if_false]
      exact ⟨_, _, rfl, o1, hl⟩
theorem draw32_ok {s : List Int × Int × Int} (hs : SrcOk s) : ∃ o s', spec_l32Draw.f s = some (o, s') ∧ SrcOk s' ∧ Lm OkBooking o := by
  unfold spec_l32Draw.f spec_l32Draw.fn spec_l32Draw.top
  obtain ⟨o, s1, e1, o1, b1, l1⟩ := good32_ok hs
  have hv := (booksB_val b1).2
  obtain ⟨x, s2, e2, o2, x0, x1⟩ := next_ok o1 30 (by omega)
  obtain ⟨y, s3, e3, o3, y0, y1⟩ := next_ok o2 6 (by omega)
  obtain ⟨u, s4, e4, o4, u1⟩ := drawWord_ok o3
  obtain ⟨c, s5, e5, o5, c1⟩ := pick_ok o4 [0, 1, 1000, 1001] (by simp) (by simp)
  have hc : 0 ≤ c ∧ c ≤ 1001 := by simp at c1; omega
  have w := w64 (n := y - 1) (by omega) (by omega)
  simp only [e1, e2, e3, e4, e5, Option.bind_some, w]
  by_cases h0 : x = 0
  · simp only [h0, beq_self_eq_true, if_true]
    rw [if_pos (by rw [room32]; simp; omega)]
    exact ⟨_, _, rfl, o5, ok_snoc l1 (mkB (by omega) u1 (by omega)) (by omega)⟩
  · by_cases h1 : x = 1
    · simp only [h1, beq_iff_eq, show ¬ (1 : Int) = 0 from by omega, if_true, if_false]
      exact draw32_l (62 - o.length) NN s2 o (by omega) (NN_lt (by omega)) o2 l1
    · by_cases h2 : x = 2
      · simp only [h2, beq_iff_eq, show ¬ (2 : Int) = 0 from by omega, show ¬ (2 : Int) = 1 from by omega, if_true, if_false]
        rw [if_pos (by rw [room32]; simp; omega)]
        refine ⟨_, _, rfl, o2, ?_⟩
        have q1 := ok_snoc l1 (mkB (a := 0) (n := (⟨#[97, 115, 116, 101, 114]⟩ : ByteArray)) (c := 1000) (by omega) (Nat.le_of_ble_eq_true rfl) (by omega)) (by omega)
        have q2 := ok_snoc q1 (mkB (a := 0) (n := (⟨#[97, 115, 116, 101, 114]⟩ : ByteArray)) (c := 700) (by omega) (Nat.le_of_ble_eq_true rfl) (by omega)) (by simp; omega)
        rw [List.append_assoc] at q2
        exact q2
      · simp only [h0, h1, h2, beq_iff_eq, if_false]
        exact ⟨_, _, rfl, o2, l1⟩
theorem drawBook_ok {code : List Int} (h : CodeOk code) : ∃ o b, spec_DrawBookPieces.f code = some (o, b) ∧ Lm OkBooking o ∧ OkBooking b := by
  unfold spec_DrawBookPieces.f spec_DrawBookPieces.fn spec_DrawBookPieces.top
  obtain ⟨s, e, ho⟩ := from_ok h
  obtain ⟨o, s1, e1, o1, l1⟩ := draw32_ok ho
  obtain ⟨x, s2, e2, o2, x0, x1⟩ := next_ok o1 4 (by omega)
  obtain ⟨y, s3, e3, o3, y0, y1⟩ := next_ok o2 5 (by omega)
  obtain ⟨m, s4, e4, o4, m0, m1⟩ := next_ok o3 12 (by omega)
  obtain ⟨n, s5, e5, o5, n0, n1⟩ := next_ok o4 4 (by omega)
  have w1 := w64 (n := 1 + m) (by omega) (by omega)
  have w2 := w64 (n := 1 + n) (by omega) (by omega)
  obtain ⟨c, s6, e6, o6, c1⟩ := pick_ok o5 [1 + m, 1, 1000, 1001, 1 + n] (by simp) (by simp)
  have hc : 0 ≤ c ∧ c ≤ 1001 := by simp at c1; omega
  have hy : y < (names6.length : Int) := by rw [names6_len]; omega
  have hm := names6_sm _ (getB_mem (show y.toNat < names6.length by rw [names6_len]; omega))
  simp only [e, e1, e2, e3, e4, e5, w1, w2, e6, names_f, Option.bind_some, y0, hy, and_self, if_true]
  exact ⟨_, _, rfl, l1, mkB (by omega) hm (by omega)⟩
theorem drawPieces_ok {code : List Int} (h : CodeOk code) : ∃ o b, spec_DrawPiecesLeft.f code = some (o, b) ∧ Lm OkBooking o ∧ Sm b := by
  unfold spec_DrawPiecesLeft.f spec_DrawPiecesLeft.fn spec_DrawPiecesLeft.top
  obtain ⟨s, e, ho⟩ := from_ok h
  obtain ⟨o, s1, e1, o1, l1⟩ := draw32_ok ho
  obtain ⟨x, s2, e2, o2, x0, x1⟩ := next_ok o1 16 (by omega)
  obtain ⟨u, s3, e3, o3, u1⟩ := drawWord_ok o2
  obtain ⟨y, s4, e4, o4, y0, y1⟩ := next_ok o2 5 (by omega)
  have hy : y < (names6.length : Int) := by rw [names6_len]; omega
  have hm := names6_sm _ (getB_mem (show y.toNat < names6.length by rw [names6_len]; omega))
  simp only [e, e1, e2, e3, e4, names_f, Option.bind_some, y0, hy, and_self, if_true]
  split
  · exact ⟨_, _, rfl, l1, u1⟩
  · exact ⟨_, _, rfl, l1, hm⟩
theorem likeBookings_self (a : List (Int × ByteArray × Int)) (hl : a.length ≤ 140737488355328) : laws_likeBookings.f a a = some true := by
  unfold laws_likeBookings.f laws_likeBookings.fn laws_likeBookings.top
  simp only [bne_self_eq_false, Bool.false_eq_true, if_false]
  refine eqS_loop (E := fun _ => True) (fun k a b i => laws_likeBookings.l4 NN k a b i) a (fun _ _ => trivial) ?_ ?_ NN (NN_lt (by omega))
  · intro k p x r hx ha
    subst ha
    have hm := mid_len p r x
    have c1 : (p.length : Int) < ((p ++ x :: r).length : Int) := by omega
    have c0 : (0 : Int) ≤ (p.length : Int) := by omega
    have cw := w64 (n := (p.length : Int) + 1) (by omega) (by omega)
    simp only [laws_likeBookings.l4, laws_likeBookings.g4, c0, c1, cw, and_self, and_true, true_and, decide_true, decide_false, if_true, if_false, mid_get, mid_set, mid_getn, mid_setn, bt_mid, Option.bind_some, Bool.not_true, Bool.not_false, Bool.false_eq_true, Bool.true_eq_false, beq_self_eq_true, bne_self_eq_false, Int.toNat_natCast]
    simp
  · intro k
    simp [laws_likeBookings.l4, laws_likeBookings.g4]
theorem leftOf_nonneg : ∀ (r p : List (Int × ByteArray × Int)) (a : ByteArray), okFrom p r = true → 0 ≤ leftOf p a → 0 ≤ leftOf (p ++ r) a := by
  intro r
  induction r with
  | nil => intro p a _ h; rwa [List.append_nil]
  | cons b r ih =>
    intro p a h hp
    simp only [okFrom, Bool.and_eq_true, decide_eq_true_eq] at h
    have := ih (p ++ [b]) a h.2 (by
      by_cases ha : b.2.1 = a
      · rw [← ha]; exact h.1.2
      · rw [leftOf_snoc]; unfold addL; rw [if_neg ha]; exact hp)
    rwa [List.append_assoc] at this
theorem tot0_mono (a : ByteArray) : ∀ (r p : List (Int × ByteArray × Int)), (∀ b ∈ p ++ r, valB b = true) → (totL p a).getD 0 0 ≤ (totL (p ++ r) a).getD 0 0 := by
  intro r
  induction r with
  | nil => intro p _; rw [List.append_nil]; exact Int.le_refl _
  | cons b r ih =>
    intro p h
    have h1 := ih (p ++ [b]) (by rw [List.append_assoc]; exact h)
    rw [List.append_assoc] at h1
    refine Int.le_trans ?_ h1
    have hv := valB_count (h b (by simp))
    obtain ⟨t0, t1, t2, t3, q1, q2⟩ := totL_shape a p (fun x hx => h x (by simp [hx]))
    rw [totL_snoc, q1]
    unfold addT
    split
    · obtain h | h | h | h : b.1 = 0 ∨ b.1 = 1 ∨ b.1 = 2 ∨ b.1 = 3 := by omega
      all_goals (rw [h]; simp)
      omega
    · exact Int.le_refl _
theorem left_tot0 (xs : List (Int × ByteArray × Int)) (a : ByteArray) (h : ∀ b ∈ xs, valB b = true) (n : Nat) : leftOf (xs.take n) a ≤ (totL xs a).getD 0 0 := by
  have h1 := tot0_mono a (xs.drop n) (xs.take n) (by rw [List.take_append_drop]; exact h)
  rw [List.take_append_drop] at h1
  obtain ⟨t0, t1, t2, t3, q1, q2, q3, q4, q5, q6, q7⟩ := totL_shape a (xs.take n) (fun x hx => h x (List.mem_of_mem_take hx))
  rw [q1] at h1
  have : ([t0, t1, t2, t3] : List Int).getD 0 0 = t0 := rfl
  rw [this] at h1
  omega
theorem most_le (xs : List (Int × ByteArray × Int)) (a : ByteArray) (h : ∀ b ∈ xs, valB b = true) (B : Int) (hB : ∀ n, leftOf (xs.take n) a ≤ B) : ∀ (r : List (Int × ByteArray × Int)) (i : Nat) (st : Int), st ≤ B → foldi (fun i st (_ : Int × ByteArray × Int) => mostF xs a i st) i st r ≤ B := by
  intro r
  induction r with
  | nil => intro i st hs; exact hs
  | cons b r ih =>
    intro i st hs
    refine ih (i + 1) _ ?_
    have := hB (i + 1)
    show mostF xs a i st ≤ B
    unfold mostF; split <;> omega
theorem most_ge (xs : List (Int × ByteArray × Int)) (a : ByteArray) : ∀ (r : List (Int × ByteArray × Int)) (i : Nat) (st : Int), st ≤ foldi (fun i st (_ : Int × ByteArray × Int) => mostF xs a i st) i st r ∧ (0 < r.length → leftOf (xs.take (i + r.length)) a ≤ foldi (fun i st (_ : Int × ByteArray × Int) => mostF xs a i st) i st r) := by
  intro r
  induction r with
  | nil => intro i st; exact ⟨Int.le_refl _, fun h => by simp at h⟩
  | cons b r ih =>
    intro i st
    have h1 := ih (i + 1) (mostF xs a i st)
    have h2 : st ≤ mostF xs a i st ∧ leftOf (xs.take (i + 1)) a ≤ mostF xs a i st := by unfold mostF; split <;> omega
    refine ⟨Int.le_trans h2.1 h1.1, fun _ => ?_⟩
    cases r with
    | nil => exact Int.le_trans h2.2 h1.1
    | cons c r =>
      have := h1.2 (by simp)
      rw [show i + (b :: c :: r).length = i + 1 + (c :: r).length by simp only [List.length_cons]; omega]
      exact this
theorem most_bd (xs : List (Int × ByteArray × Int)) (a : ByteArray) (h : booksB xs = true) : 0 ≤ leftOf xs a ∧ leftOf xs a ≤ mostL xs a ∧ mostL xs a ≤ (totL xs a).getD 0 0 := by
  have hv := booksB_val h
  have hok : okFrom [] xs = true := by
    unfold booksB at h
    simp only [Bool.and_eq_true] at h
    exact h.2
  have h0 := leftOf_nonneg xs [] a hok (Int.le_refl 0)
  rw [List.nil_append] at h0
  have ht := left_tot0 xs a hv.1
  refine ⟨h0, ?_, ?_⟩
  · have := most_ge xs a xs 0 0
    unfold mostL
    cases xs with
    | nil => exact Int.le_refl 0
    | cons b r =>
      have h2 := this.2 (by simp)
      rw [Nat.zero_add, List.take_length] at h2
      exact h2
  · unfold mostL
    refine most_le xs a hv.1 _ ht xs 0 0 ?_
    have := ht 0
    rw [List.take_zero] at this
    exact this
end Go.Pl

namespace Go.Pl
open Go.Ev
set_option linter.unusedVariables false
noncomputable section
def spec_l01Damage.top (s0 : List Int × Int × Int) (t1 : ByteArray) : Option (ByteArray × List Int × Int × Int) :=
  (spec_l01Next.f s0 (IntKind.i64.wrap ((t1.size : Int) + 1))).bind fun r1 =>
  (spec_l01Next.f r1.2 8).bind fun r2 =>
  if ((r2.1 : Int) == 0) = true then
    if (0 : Int) ≤ r1.1 ∧ (r1.1 : Int) ≤ t1.size then
      some (t1.extract 0 (r1.1 : Int).toNat, r2.2)
    else
      none
  else if ((r2.1 : Int) == 1) = true then
    if (0 : Int) ≤ r1.1 ∧ (r1.1 : Int) ≤ t1.size then
      if (0 : Int) ≤ r1.1 ∧ (r1.1 : Int) ≤ t1.size then
        (spec_l01Next.f r2.2 8).bind fun r3 =>
        if (0 : Int) ≤ r3.1 ∧ (r3.1 : Int) < ([(⟨#[48]⟩ : ByteArray), (⟨#[35]⟩ : ByteArray), (⟨#[46]⟩ : ByteArray), (⟨#[47]⟩ : ByteArray), (⟨#[32]⟩ : ByteArray), (⟨#[97]⟩ : ByteArray), (⟨#[45]⟩ : ByteArray), (⟨#[10]⟩ : ByteArray)]).length then
          if (t1.extract 0 (r1.1 : Int).toNat).size + (([(⟨#[48]⟩ : ByteArray), (⟨#[35]⟩ : ByteArray), (⟨#[46]⟩ : ByteArray), (⟨#[47]⟩ : ByteArray), (⟨#[32]⟩ : ByteArray), (⟨#[97]⟩ : ByteArray), (⟨#[45]⟩ : ByteArray), (⟨#[10]⟩ : ByteArray)]).getD (r3.1 : Int).toNat ByteArray.empty).size ≤ 9223372036854775807 then
            if ((t1.extract 0 (r1.1 : Int).toNat) ++ (([(⟨#[48]⟩ : ByteArray), (⟨#[35]⟩ : ByteArray), (⟨#[46]⟩ : ByteArray), (⟨#[47]⟩ : ByteArray), (⟨#[32]⟩ : ByteArray), (⟨#[97]⟩ : ByteArray), (⟨#[45]⟩ : ByteArray), (⟨#[10]⟩ : ByteArray)]).getD (r3.1 : Int).toNat ByteArray.empty)).size + (t1.extract (r1.1 : Int).toNat t1.size).size ≤ 9223372036854775807 then
              some (((t1.extract 0 (r1.1 : Int).toNat) ++ (([(⟨#[48]⟩ : ByteArray), (⟨#[35]⟩ : ByteArray), (⟨#[46]⟩ : ByteArray), (⟨#[47]⟩ : ByteArray), (⟨#[32]⟩ : ByteArray), (⟨#[97]⟩ : ByteArray), (⟨#[45]⟩ : ByteArray), (⟨#[10]⟩ : ByteArray)]).getD (r3.1 : Int).toNat ByteArray.empty)) ++ (t1.extract (r1.1 : Int).toNat t1.size), r3.2)
            else
              none
          else
            none
        else
          none
      else
        none
    else
      none
  else if ((r2.1 : Int) == 2) = true then
    if (decide ((r1.1 : Int) < (t1.size : Int))) = true then
      if (0 : Int) ≤ r1.1 ∧ (r1.1 : Int) ≤ t1.size then
        if (0 : Int) ≤ (IntKind.i64.wrap (r1.1 + 1)) ∧ ((IntKind.i64.wrap (r1.1 + 1)) : Int) ≤ t1.size then
          if (t1.extract 0 (r1.1 : Int).toNat).size + (t1.extract ((IntKind.i64.wrap (r1.1 + 1)) : Int).toNat t1.size).size ≤ 9223372036854775807 then
            some ((t1.extract 0 (r1.1 : Int).toNat) ++ (t1.extract ((IntKind.i64.wrap (r1.1 + 1)) : Int).toNat t1.size), r2.2)
          else
            none
        else
          none
      else
        none
    else
      some (t1, r2.2)
  else
    some (t1, r2.2)
def spec_l01Damage.fn (n : Nat) (s0 : List Int × Int × Int) (t1 : ByteArray) : Option (ByteArray × List Int × Int × Int) := spec_l01Damage.top s0 t1
def spec_l01Damage.f (s0 : List Int × Int × Int) (t1 : ByteArray) : Option (ByteArray × List Int × Int × Int) := spec_l01Damage.fn NN s0 t1
end
end Go.Pl

namespace Go.Pl
open Go.Ev
set_option linter.unusedVariables false
set_option linter.unusedSimpArgs false
theorem damage_ok {s : List Int × Int × Int} (hs : SrcOk s) (t : ByteArray) (ht : t.size ≤ 1000000) : ∃ u s', spec_l01Damage.f s t = some (u, s') ∧ SrcOk s' ∧ u.size ≤ t.size + 1 := by
  unfold spec_l01Damage.f spec_l01Damage.fn spec_l01Damage.top
  rw [w64 (n := (t.size : Int) + 1) (by omega) (by omega)]
  obtain ⟨k, s1, e1, o1, k0, k1⟩ := next_ok hs ((t.size : Int) + 1) (by omega)
  obtain ⟨x, s2, e2, o2, x0, x1⟩ := next_ok o1 8 (by omega)
  obtain ⟨y, s3, e3, o3, y0, y1⟩ := next_ok o2 8 (by omega)
  have hk : k ≤ (t.size : Int) := by omega
  have z1 : ∀ a b : Nat, (t.extract a b).size ≤ b - a := fun a b => by rw [ByteArray.size_extract]; omega
  have za := z1 0 k.toNat
  have zb := z1 k.toNat t.size
  simp only [e1, e2, Option.bind_some, k0, hk, and_self, if_true]
  by_cases hx0 : x = 0
  · subst hx0
    simp only [beq_self_eq_true, if_true]
    exact ⟨_, _, rfl, o2, by omega⟩
  · have b0 : (x == 0) = false := by rw [beq_eq_false_iff_ne]; exact hx0
    simp only [b0, Bool.false_eq_true, if_false]
    by_cases hx1 : x = 1
    · subst hx1
      simp only [beq_self_eq_true, if_true, e3, Option.bind_some]
      have hy : y < 8 := by omega
      have hlit : ∀ i : Nat, (([(⟨#[48]⟩ : ByteArray), (⟨#[35]⟩ : ByteArray), (⟨#[46]⟩ : ByteArray), (⟨#[47]⟩ : ByteArray), (⟨#[32]⟩ : ByteArray), (⟨#[97]⟩ : ByteArray), (⟨#[45]⟩ : ByteArray), (⟨#[10]⟩ : ByteArray)]).getD i ByteArray.empty).size ≤ 1 := by
        intro i
        match i with
        | 0 | 1 | 2 | 3 | 4 | 5 | 6 | 7 => exact Nat.le_refl 1
        | n + 8 => exact Nat.zero_le 1
      have hl := hlit y.toNat
      rw [if_pos ⟨y0, by simp only [List.length_cons, List.length_nil]; omega⟩, if_pos (by omega), if_pos (by rw [ByteArray.size_append]; omega)]
      exact ⟨_, _, rfl, o3, by rw [ByteArray.size_append, ByteArray.size_append]; omega⟩
    · have b1 : (x == 1) = false := by rw [beq_eq_false_iff_ne]; exact hx1
      simp only [b1, Bool.false_eq_true, if_false]
      by_cases hx2 : x = 2
      · subst hx2
        simp only [beq_self_eq_true, if_true, decide_eq_true_eq]
        by_cases hlt : k < (t.size : Int)
        · have w1 := w64 (n := k + 1) (by omega) (by omega)
          have zc := z1 (k + 1).toNat t.size
          simp only [hlt, if_true, w1]
          rw [if_pos ⟨by omega, by omega⟩, if_pos (by omega)]
          exact ⟨_, _, rfl, o2, by rw [ByteArray.size_append]; omega⟩
        · simp only [hlt, if_false]
          exact ⟨_, _, rfl, o2, by omega⟩
      · have b2 : (x == 2) = false := by rw [beq_eq_false_iff_ne]; exact hx2
        simp only [b2, Bool.false_eq_true, if_false]
        exact ⟨_, _, rfl, o2, by omega⟩
end Go.Pl

namespace Go.Pl
open Go.Ev
set_option linter.unusedVariables false
set_option linter.unusedSimpArgs false
theorem likeLines_self (a : List (ByteArray × Int)) (hl : a.length ≤ 140737488355328) : laws_likeLines.f a a = some true := by
  unfold laws_likeLines.f laws_likeLines.fn laws_likeLines.top
  simp only [bne_self_eq_false, Bool.false_eq_true, if_false]
  refine eqS_loop (E := fun _ => True) (fun k a b i => laws_likeLines.l4 NN k a b i) a (fun _ _ => trivial) ?_ ?_ NN (NN_lt (by omega))
  · intro k p x r hx ha
    subst ha
    have hm := mid_len p r x
    have c1 : (p.length : Int) < ((p ++ x :: r).length : Int) := by omega
    have c0 : (0 : Int) ≤ (p.length : Int) := by omega
    have cw := w64 (n := (p.length : Int) + 1) (by omega) (by omega)
    simp only [laws_likeLines.l4, laws_likeLines.g4, c0, c1, cw, and_self, and_true, true_and, decide_true, decide_false, if_true, if_false, mid_get, mid_set, mid_getn, mid_setn, bt_mid, Option.bind_some, Bool.not_true, Bool.not_false, Bool.false_eq_true, Bool.true_eq_false, beq_self_eq_true, bne_self_eq_false, Int.toNat_natCast]
    simp
  · intro k
    simp [laws_likeLines.l4, laws_likeLines.g4]
theorem likePaper_self (p : ByteArray × Int × List (ByteArray × Int)) (hl : p.2.2.length ≤ 140737488355328) : laws_likePaper.f p p = some true := by
  unfold laws_likePaper.f laws_likePaper.fn laws_likePaper.top
  simp only [beq_self_eq_true, if_true, likeLines_self _ hl, Option.bind_some]
/-- a drawn paper -/
def PapS (p : ByteArray × Int × List (ByteArray × Int)) : Prop := p.1.size ≤ 1000 ∧ (-1 ≤ p.2.1 ∧ p.2.1 ≤ 100001) ∧ p.2.2.length ≤ 30 ∧ ∀ l ∈ p.2.2, Sm l.1 ∧ 0 ≤ l.2 ∧ l.2 ≤ 1001
theorem papS_ok {p : ByteArray × Int × List (ByteArray × Int)} (h : PapS p) : OkPaper p := by
  obtain ⟨h1, h2, h3, h4⟩ := h
  refine ⟨Nat.le_trans h1 (by omega), wf64.2 (by omega), by omega, fun l hl => ⟨(h4 l hl).1, wf64.2 (by have := h4 l hl; omega)⟩⟩
theorem names6_szs : ∀ c ∈ names6, c.size ≤ 10 := by
  intro c hc
  unfold names6 at hc
  simp only [List.mem_cons, List.not_mem_nil, or_false] at hc
  rcases hc with h | h | h | h | h | h <;> (rw [h]; exact Nat.le_of_ble_eq_true rfl)
/-- a drawn good paper -/
def PapG (p : ByteArray × Int × List (ByteArray × Int)) : Prop := p.1.size ≤ 10 ∧ (0 ≤ p.2.1 ∧ p.2.1 ≤ 1000) ∧ p.2.2.length ≤ 6 ∧ ∀ l ∈ p.2.2, l.1.size ≤ 10 ∧ 0 ≤ l.2 ∧ l.2 ≤ 1000
theorem good29_l (a : ByteArray) (b : Int) (v : ByteArray) (d : Int) (w : List (ByteArray × Int)) : ∀ (m i k : Nat) (s : List Int × Int × Int) (out : List (ByteArray × Int)), i + m = 6 → m < k → SrcOk s → out.length ≤ i → (∀ l ∈ out, l.1.size ≤ 10 ∧ 0 ≤ l.2 ∧ l.2 ≤ 1000) →
    ∃ o s', spec_l29Good.l4 NN k i s a b v d names6 w out = some ((v, (d, o)), s') ∧ SrcOk s' ∧ o.length ≤ 6 ∧ ∀ l ∈ o, l.1.size ≤ 10 ∧ 0 ≤ l.2 ∧ l.2 ≤ 1000 := by
  intro m
  induction m with
  | zero =>
    intro i k s out hi hk hs ho hl
    obtain ⟨k, rfl⟩ : ∃ j, k = j + 1 := ⟨k - 1, by omega⟩
    have n1 : ¬ (i : Int) < (names6.length : Int) := by rw [names6_len]; omega
    exact ⟨out, s, by simp only [spec_l29Good.l4, spec_l29Good.g4, n1, decide_false, Bool.false_eq_true, if_false], hs, by omega, hl⟩
  | succ m ih =>
    intro i k s out hi hk hs ho hl
    obtain ⟨k, rfl⟩ : ∃ j, k = j + 1 := ⟨k - 1, by omega⟩
    obtain ⟨x, s1, e1, o1, x0, x1⟩ := next_ok hs 2 (by omega)
    obtain ⟨y, s2, e2, o2, y0, y1⟩ := next_ok o1 20 (by omega)
    have n1 : (i : Int) < (names6.length : Int) := by rw [names6_len]; omega
    have n0 : (0 : Int) ≤ (i : Int) := by omega
    have w1 := w64 (n := (i : Int) + 1) (by omega) (by omega)
    have w2 := w64 (n := 1 + y) (by omega) (by omega)
    have hz := names6_szs _ (getB_mem (show (i : Int).toNat < names6.length by rw [names6_len]; omega))
    simp only [spec_l29Good.l4, spec_l29Good.g4, n0, n1, e1, e2, w1, w2, and_self, decide_true, if_true, Option.bind_some]
    split
    · rw [if_pos (by rw [room24]; simp; omega)]
      exact ih (i + 1) k s2 _ (by omega) (by omega) o2 (by simp; omega) (fun l h => by
        rcases List.mem_append.1 h with h | h
        · exact hl l h
        · rw [List.mem_singleton.1 h]; exact ⟨hz, by simp only; omega, by simp only; omega⟩)
    · exact ih (i + 1) k s1 out (by omega) (by omega) o1 (by omega) hl
theorem good29_ok {s : List Int × Int × Int} (hs : SrcOk s) : ∃ p s', spec_l29Good.f s = some (p, s') ∧ SrcOk s' ∧ PapG p := by
  unfold spec_l29Good.f spec_l29Good.fn spec_l29Good.top
  obtain ⟨x, s1, e1, o1, x0, x1⟩ := next_ok hs 2 (by omega)
  obtain ⟨y, s2, e2, o2, y0, y1⟩ := next_ok o1 1000 (by omega)
  have hc : (0 : Int) ≤ x ∧ x < (([(⟨#[118, 97, 110]⟩ : ByteArray), (⟨#[116, 114, 117, 99, 107]⟩ : ByteArray)] : List ByteArray).length : Int) := ⟨x0, by simp only [List.length_cons, List.length_nil]; omega⟩
  have hm := getB_mem (xs := [(⟨#[118, 97, 110]⟩ : ByteArray), (⟨#[116, 114, 117, 99, 107]⟩ : ByteArray)]) (i := x.toNat) (by have := hc.2; omega)
  have hv : ([(⟨#[118, 97, 110]⟩ : ByteArray), (⟨#[116, 114, 117, 99, 107]⟩ : ByteArray)].getD x.toNat ByteArray.empty).size ≤ 10 := by
    revert hm
    generalize List.getD _ x.toNat ByteArray.empty = c
    intro hc
    simp only [List.mem_cons, List.not_mem_nil, or_false] at hc
    rcases hc with h | h <;> (rw [h]; exact Nat.le_of_ble_eq_true rfl)
  simp only [e1, e2, names_f, if_pos hc, Option.bind_some, agree_self]
  obtain ⟨o, s3, i1, i2, i3, i4⟩ := good29_l ByteArray.empty 0 ([(⟨#[118, 97, 110]⟩ : ByteArray), (⟨#[116, 114, 117, 99, 107]⟩ : ByteArray)].getD x.toNat ByteArray.empty) y [] 6 0 NN s2 [] (by omega) (NN_lt (by omega)) o2 (by simp) (by simp)
  exact ⟨_, s3, i1, i2, hv, by simp only; omega, i3, i4⟩
theorem papG_S {p : ByteArray × Int × List (ByteArray × Int)} (h : PapG p) : PapS p := by
  obtain ⟨h1, h2, h3, h4⟩ := h
  refine ⟨by omega, by omega, by omega, fun l hl => ?_⟩
  have := h4 l hl
  exact ⟨Nat.le_trans this.1 (by omega), by omega, by omega⟩
theorem draw29_l (a : ByteArray) (b : Int) (v : ByteArray) (d : Int) (w : List (ByteArray × Int)) (hv : v.size ≤ 1000) (hd : -1 ≤ d ∧ d ≤ 100001) : ∀ (m i k : Nat) (s : List Int × Int × Int) (out : List (ByteArray × Int)), i + m = 14 → m < k → SrcOk s → out.length ≤ 10 + i → (∀ l ∈ out, Sm l.1 ∧ 0 ≤ l.2 ∧ l.2 ≤ 1001) →
    ∃ p s', spec_l29Draw.l9 NN k i s a b v d w out = some (p, s') ∧ SrcOk s' ∧ PapS p := by
  intro m
  induction m with
  | zero =>
    intro i k s out hi hk hs ho hl
    obtain ⟨k, rfl⟩ : ∃ j, k = j + 1 := ⟨k - 1, by omega⟩
    obtain ⟨x, s1, e1, o1, x0, x1⟩ := next_ok hs 2 (by omega)
    have w1 := w64 (n := 12 + x) (by omega) (by omega)
    have n1 : ¬ (i : Int) < 14 := by omega
    simp only [spec_l29Draw.l9, spec_l29Draw.g9, e1, w1, n1, Option.bind_some, decide_false, Bool.false_eq_true, if_false]
    split <;> exact ⟨_, _, rfl, o1, hv, hd, by simp only; omega, hl⟩
  | succ m ih =>
    intro i k s out hi hk hs ho hl
    obtain ⟨k, rfl⟩ : ∃ j, k = j + 1 := ⟨k - 1, by omega⟩
    obtain ⟨x, s1, e1, o1, x0, x1⟩ := next_ok hs 2 (by omega)
    have w1 := w64 (n := 12 + x) (by omega) (by omega)
    have w2 := w64 (n := (i : Int) + 1) (by omega) (by omega)
    have n1 : (i : Int) < 14 := by omega
    have n2 : (0 : Int) ≤ (i : Int) := by omega
    have n3 : (i : Int) ≤ (i : Int) + 1 := by omega
    have z : (⟨#[97, 98, 99, 100, 101, 102, 103, 104, 105, 106, 107, 108, 109, 110]⟩ : ByteArray).size = 14 := rfl
    have n4 : (i : Int) + 1 ≤ ((⟨#[97, 98, 99, 100, 101, 102, 103, 104, 105, 106, 107, 108, 109, 110]⟩ : ByteArray).size : Int) := by rw [z]; omega
    have zx : (⟨#[120]⟩ : ByteArray).size = 1 := rfl
    have ze : ((⟨#[97, 98, 99, 100, 101, 102, 103, 104, 105, 106, 107, 108, 109, 110]⟩ : ByteArray).extract (i : Int).toNat ((i : Int) + 1).toNat).size ≤ 14 := by rw [ByteArray.size_extract, z]; omega
    by_cases hx : (out.length : Int) < 12 + x
    · simp only [spec_l29Draw.l9, spec_l29Draw.g9, e1, w1, w2, n1, n2, n3, n4, hx, Option.bind_some, decide_true, if_true, and_self]
      rw [if_pos (by omega), if_pos (by rw [room24]; simp; omega)]
      exact ih (i + 1) k s1 _ (by omega) (by omega) o1 (by simp; omega) (fun l h => by
        rcases List.mem_append.1 h with h | h
        · exact hl l h
        · rw [List.mem_singleton.1 h]; exact ⟨by unfold Sm; simp only [ByteArray.size_append]; omega, by simp only; omega, by simp only; omega⟩)
    · simp only [spec_l29Draw.l9, spec_l29Draw.g9, e1, w1, hx, Option.bind_some, decide_false, Bool.false_eq_true, if_false]
      exact ⟨_, _, rfl, o1, hv, hd, by simp only; omega, hl⟩
theorem draw29_ok {s : List Int × Int × Int} (hs : SrcOk s) : ∃ p s', spec_l29Draw.f s = some (p, s') ∧ SrcOk s' ∧ PapS p := by
  unfold spec_l29Draw.f spec_l29Draw.fn spec_l29Draw.top
  obtain ⟨p, s1, e1, o1, g1⟩ := good29_ok hs
  obtain ⟨x, s2, e2, o2, x0, x1⟩ := next_ok o1 30 (by omega)
  obtain ⟨c, s3, e3, o3, c1⟩ := pick_ok o2 [-1, 0, 100000, 100001] (by simp) (by simp)
  obtain ⟨u, s4, e4, o4, u1⟩ := drawWord_ok o2
  obtain ⟨f, s5, e5, o5, f1⟩ := pick_ok o4 [0, 1, 1000, 1001] (by simp) (by simp)
  have hc : -1 ≤ c ∧ c ≤ 100001 := by simp at c1; omega
  have hf : 0 ≤ f ∧ f ≤ 1001 := by simp at f1; omega
  have hS := papG_S g1
  obtain ⟨q1, q2, q3, q4⟩ := hS
  have g3 := g1.2.2.1
  simp only [e1, e2, e3, e4, e5, Option.bind_some]
  by_cases h0 : x = 0
  · rw [if_pos (by rw [h0]; rfl)]
    exact ⟨_, _, rfl, o3, q1, hc, q3, q4⟩
  rw [if_neg (by simpa using h0)]
  by_cases h1 : x = 1
  · rw [if_pos (by rw [h1]; rfl), if_pos (by rw [room24]; simp; omega)]
    refine ⟨_, _, rfl, o5, q1, q2, by simp only [List.length_append, List.length_singleton]; omega, fun l hl => ?_⟩
    rcases List.mem_append.1 hl with h | h
    · exact q4 l h
    · rw [List.mem_singleton.1 h]; exact ⟨u1, hf⟩
  rw [if_neg (by simpa using h1)]
  by_cases h2 : x = 2
  · rw [if_pos (by rw [h2]; rfl)]
    exact draw29_l ByteArray.empty 0 p.1 p.2.1 [] q1 q2 14 0 NN s2 p.2.2 (by omega) (NN_lt (by omega)) o2 (by omega) q4
  · rw [if_neg (by simpa using h2)]
    exact ⟨_, _, rfl, o2, q1, q2, q3, q4⟩
end Go.Pl

namespace Go.Pl
open Go.Ev
set_option linter.unusedVariables false
noncomputable section
def spec_l03Counts.g3 (L3 : Int → Int → (List Int × Int × Int) → List Int → Option (List Int × List Int × Int × Int)) (n1 : Int) (i6 : Int) (s0 : List Int × Int × Int) (out5 : List Int) : Option (List Int × List Int × Int × Int) :=
  if (decide ((i6 : Int) < n1)) = true then
    (spec_l01Next.f s0 12).bind fun r1 =>
    (spec_l01Next.f r1.2 12).bind fun r2 =>
    (spec_l01Pick.f r2.2 ([0, r1.1, r2.1])).bind fun r3 =>
    if out5.length + ([r3.1]).length < room 8 then
      L3 n1 (IntKind.i64.wrap (i6 + 1)) r3.2 (out5 ++ ([r3.1]))
    else
      none
  else
    (spec_l01Next.f s0 24).bind fun r4 =>
    if ((r4.1 : Int) == 0) = true then
      if out5.length + ([1]).length < room 8 then
        some (out5 ++ ([1]), r4.2)
      else
        none
    else if ((r4.1 : Int) == 1) = true then
      if (decide ((0 : Int) < n1)) = true then
        (spec_l01Pick.f r4.2 ([1000, 1001, (-1)])).bind fun r5 =>
        if (0 : Int) ≤ 0 ∧ (0 : Int) < out5.length then
          some (out5.set (0 : Int).toNat r5.1, r5.2)
        else
          none
      else
        some (out5, r4.2)
    else
      some (out5, r4.2)
def spec_l03Counts.l3 (n : Nat) : Nat → Int → Int → (List Int × Int × Int) → List Int → Option (List Int × List Int × Int × Int)
  | 0 => fun _ _ _ _ => none
  | k + 1 => spec_l03Counts.g3 (spec_l03Counts.l3 n k)
def spec_l03Counts.top (I3 : Int → Int → (List Int × Int × Int) → List Int → Option (List Int × List Int × Int × Int)) (s0 : List Int × Int × Int) (n1 : Int) : Option (List Int × List Int × Int × Int) :=
  I3 n1 0 s0 []
def spec_l03Counts.fn (n : Nat) (s0 : List Int × Int × Int) (n1 : Int) : Option (List Int × List Int × Int × Int) := spec_l03Counts.top (spec_l03Counts.l3 n n) s0 n1
def spec_l03Counts.f (s0 : List Int × Int × Int) (n1 : Int) : Option (List Int × List Int × Int × Int) := spec_l03Counts.fn NN s0 n1
end
end Go.Pl

namespace Go.Pl
open Go.Ev
set_option linter.unusedVariables false
set_option linter.unusedSimpArgs false
theorem room80 : room 80 = 1759218604441 := by decide
theorem getB_mem3 {xs : List ByteArray} {i : Nat} (h : i < xs.length) : xs.getD i ByteArray.empty ∈ xs := by
  rw [List.getD_eq_getElem?_getD, List.getElem?_eq_getElem h]; exact List.getElem_mem h
def nam6 : List ByteArray := [(⟨#[97, 115, 116, 101, 114]⟩ : ByteArray), (⟨#[99, 111, 109, 101, 116]⟩ : ByteArray), (⟨#[100, 97, 104, 108, 105, 97]⟩ : ByteArray), (⟨#[112, 97, 108, 109]⟩ : ByteArray), (⟨#[112, 101, 111, 110, 121]⟩ : ByteArray), (⟨#[119, 105, 108, 108, 111, 119]⟩ : ByteArray)]
theorem nam6_f : spec_l03Names.f = some nam6 := rfl
theorem nam6_len : nam6.length = 6 := rfl
theorem nam6_sm : ∀ c ∈ nam6, c.size ≤ 100 := by
  intro c hc
  unfold nam6 at hc
  simp only [List.mem_cons, List.not_mem_nil, or_false] at hc
  rcases hc with h | h | h | h | h | h <;> (rw [h]; exact Nat.le_of_ble_eq_true rfl)
theorem word03_good {s : List Int × Int × Int} (hs : SrcOk s) : ∃ u s', spec_l01Good.f s = some (u, s') ∧ SrcOk s' ∧ u.size ≤ 100 := by
  unfold spec_l01Good.f spec_l01Good.fn spec_l01Good.top
  obtain ⟨a, s1, e1, o1, a0, a1⟩ := next_ok hs 12 (by omega)
  rw [e1]
  simp only [Option.bind_some]
  rw [if_pos ⟨a0, by simp only [List.length_cons, List.length_nil]; omega⟩]
  refine ⟨_, _, rfl, o1, ?_⟩
  have hm := getB_mem3 (xs := [(⟨#[97, 100, 97]⟩ : ByteArray), (⟨#[98, 114, 117, 110, 111]⟩ : ByteArray), (⟨#[99, 108, 97, 114, 97]⟩ : ByteArray), (⟨#[100, 111, 114, 97]⟩ : ByteArray), (⟨#[101, 109, 105, 108]⟩ : ByteArray), (⟨#[102, 114, 105, 100, 97]⟩ : ByteArray), (⟨#[103, 117, 115, 116, 97, 118]⟩ : ByteArray), (⟨#[104, 97, 110, 110, 97]⟩ : ByteArray), (⟨#[105, 118, 97, 110]⟩ : ByteArray), (⟨#[106, 97, 110, 97]⟩ : ByteArray), (⟨#[107, 97, 114, 108]⟩ : ByteArray), (⟨#[108, 101, 110, 97]⟩ : ByteArray)]) (i := a.toNat) (by simp only [List.length_cons, List.length_nil]; omega)
  revert hm
  generalize List.getD _ a.toNat ByteArray.empty = c
  intro hc
  simp only [List.mem_cons, List.not_mem_nil, or_false] at hc
  rcases hc with h | h | h | h | h | h | h | h | h | h | h | h <;> (rw [h]; exact Nat.le_of_ble_eq_true rfl)
theorem word03_ok {s : List Int × Int × Int} (hs : SrcOk s) : ∃ u s', spec_l01DrawWord.f s = some (u, s') ∧ SrcOk s' ∧ u.size ≤ 100 := by
  unfold spec_l01DrawWord.f spec_l01DrawWord.fn spec_l01DrawWord.top
  obtain ⟨a, s1, e1, o1, a0, a1⟩ := next_ok hs 24 (by omega)
  obtain ⟨b, s2, e2, o2, b0, b1⟩ := next_ok o1 6 (by omega)
  obtain ⟨u, s3, e3, o3, u1⟩ := word03_good o1
  rw [e1]
  simp only [Option.bind_some, e2, e3]
  split
  · rw [if_pos ⟨b0, by simp only [List.length_cons, List.length_nil]; omega⟩]
    refine ⟨_, _, rfl, o2, ?_⟩
    have hm := getB_mem3 (xs := [(⟨#[]⟩ : ByteArray), (⟨#[65, 100, 97]⟩ : ByteArray), (⟨#[97, 49]⟩ : ByteArray), (⟨#[97, 98, 99, 100, 101, 102, 103, 104, 105, 106, 107, 108, 109, 110, 111, 112]⟩ : ByteArray), (⟨#[97, 98, 99, 100, 101, 102, 103, 104, 105, 106, 107, 108, 109, 110, 111, 112, 113]⟩ : ByteArray), (⟨#[97, 32, 98]⟩ : ByteArray)]) (i := b.toNat) (by simp only [List.length_cons, List.length_nil]; omega)
    revert hm
    generalize List.getD _ b.toNat ByteArray.empty = c
    intro hc
    simp only [List.mem_cons, List.not_mem_nil, or_false] at hc
    rcases hc with h | h | h | h | h | h <;> (rw [h]; exact Nat.le_of_ble_eq_true rfl)
  · exact ⟨_, _, rfl, o3, u1⟩
/-- an article as drawn -/
def ArtM (M : Int) (a : Art) : Prop := a.1.size ≤ 1000 ∧ (-10 ≤ a.2.1 ∧ a.2.1 ≤ M) ∧ (-10 ≤ a.2.2.1 ∧ a.2.2.1 ≤ M) ∧ (-10 ≤ a.2.2.2.1 ∧ a.2.2.2.1 ≤ M) ∧ (-10 ≤ a.2.2.2.2.1 ∧ a.2.2.2.2.1 ≤ M) ∧ (-10 ≤ a.2.2.2.2.2.1 ∧ a.2.2.2.2.2.1 ≤ M) ∧ (-10 ≤ a.2.2.2.2.2.2.1 ∧ a.2.2.2.2.2.2.1 ≤ M) ∧ (-10 ≤ a.2.2.2.2.2.2.2.1 ∧ a.2.2.2.2.2.2.2.1 ≤ M) ∧ (-10 ≤ a.2.2.2.2.2.2.2.2 ∧ a.2.2.2.2.2.2.2.2 ≤ M)
abbrev ArtS (a : Art) : Prop := ArtM 1000000 a
theorem artM_S {a : Art} (h : ArtM 100000 a) : ArtS a := by
  obtain ⟨h0, h1, h2, h3, h4, h5, h6, h7, h8⟩ := h
  exact ⟨h0, by omega, by omega, by omega, by omega, by omega, by omega, by omega, by omega⟩
theorem artS_ok {a : Art} (h : ArtS a) : OkArticle a := by
  obtain ⟨h0, h1, h2, h3, h4, h5, h6, h7, h8⟩ := h
  exact ⟨Nat.le_trans h0 (by omega), wf64.2 (by omega), wf64.2 (by omega), wf64.2 (by omega), wf64.2 (by omega), wf64.2 (by omega), wf64.2 (by omega), wf64.2 (by omega), wf64.2 (by omega)⟩
theorem good03_ok {s : List Int × Int × Int} (hs : SrcOk s) (name : ByteArray) (hn : name.size ≤ 1000) : ∃ a s', spec_l03Good.f s name = some (a, s') ∧ SrcOk s' ∧ ArtM 100000 a := by
  unfold spec_l03Good.f spec_l03Good.fn spec_l03Good.top
  obtain ⟨a, s1, e1, o1, a0, a1⟩ := next_ok hs 4 (by omega)
  obtain ⟨b, s2, e2, o2, b0, b1⟩ := next_ok o1 281 (by omega)
  have w1 := w64 (n := 20 + b) (by omega) (by omega)
  obtain ⟨c, s3, e3, o3, c0⟩ := pick_ok o2 [50, 75, 100, 150, 20 + b] (by simp) (by simp)
  have c1 : -10 ≤ c ∧ c ≤ 100000 := by simp at c0; omega
  obtain ⟨d, s4, e4, o4, d0, d1⟩ := next_ok o3 5000 (by omega)
  obtain ⟨e, s5, e5, o5, f0, f1⟩ := next_ok o4 300 (by omega)
  obtain ⟨f, s6, e6, o6, g0, g1⟩ := next_ok o5 2000 (by omega)
  obtain ⟨g, s7, e7, o7, h0, h1⟩ := next_ok o6 4 (by omega)
  obtain ⟨h, s8, e8, o8, i0, i1⟩ := next_ok o7 8 (by omega)
  obtain ⟨i, s9, e9, o9, j0, j1⟩ := next_ok o8 2000 (by omega)
  have w2 := w64 (n := 1000 + d) (by omega) (by omega)
  have w3 := w64 (n := 50 + f) (by omega) (by omega)
  have w4 := w64 (n := 1 + h) (by omega) (by omega)
  have w5 := w64 (n := 500 + i) (by omega) (by omega)
  simp only [e1, e2, w1, e3, e4, e5, e6, e7, e8, e9, w2, w3, w4, w5, Option.bind_some, beq_iff_eq]
  by_cases q1 : a = 1
  · have q2 : ¬ a = 2 := by omega
    rw [if_pos q1, if_neg q2]
    exact ⟨_, _, rfl, o9, hn, by simp only; omega, by simp only; omega, by simp only; omega, by simp only; omega, by simp only; omega, by simp only; omega, by simp only; omega, by simp only; omega⟩
  · rw [if_neg q1]
    by_cases q2 : a = 2
    · rw [if_pos q2]
      exact ⟨_, _, rfl, o7, hn, by simp only; omega, by simp only; omega, by simp only; omega, by simp only; omega, by simp only; omega, by simp only; omega, by simp only; omega, by simp only; omega⟩
    · rw [if_neg q2]
      exact ⟨_, _, rfl, o7, hn, by simp only; omega, by simp only; omega, by simp only; omega, by simp only; omega, by simp only; omega, by simp only; omega, by simp only; omega, by simp only; omega⟩
theorem draw03_ok {s : List Int × Int × Int} (hs : SrcOk s) (name : ByteArray) (hn : name.size ≤ 1000) : ∃ a s', spec_l03Draw.f s name = some (a, s') ∧ SrcOk s' ∧ ArtS a := by
  unfold spec_l03Draw.f spec_l03Draw.fn spec_l03Draw.top
  obtain ⟨g, s1, e1, o1, gm⟩ := good03_ok hs name hn
  obtain ⟨p0, p1, p2, p3, p4, p5, p6, p7, p8⟩ := artM_S gm
  have pm := gm.2.2.2.1
  obtain ⟨b, s2, e2, o2, b0, b1⟩ := next_ok o1 60 (by omega)
  have w1 := w64 (n := g.2.2.2.1 + 1) (by omega) (by omega)
  obtain ⟨c3, t3, e3, o3, m3⟩ := pick_ok o2 [19, 20, 300, 301] (by simp) (by simp)
  obtain ⟨c4, t4, e4, o4, m4⟩ := pick_ok o2 [g.2.2.2.1, g.2.2.2.1 + 1, (-1)] (by simp) (by simp)
  obtain ⟨c5, t5, e5, o5, m5⟩ := pick_ok o2 [0, 50, 51] (by simp) (by simp)
  obtain ⟨u, t6, e6, o6, m6⟩ := word03_ok o2
  obtain ⟨c7, t7, e7, o7, m7⟩ := pick_ok o2 [0, 100000, 100001] (by simp) (by simp)
  have n3 : -10 ≤ c3 ∧ c3 ≤ 1000000 := by simp at m3; omega
  have n4 : -10 ≤ c4 ∧ c4 ≤ 1000000 := by simp at m4; omega
  have n5 : -10 ≤ c5 ∧ c5 ≤ 1000000 := by simp at m5; omega
  have n7 : -10 ≤ c7 ∧ c7 ≤ 1000000 := by simp at m7; omega
  simp only [e1, e2, e3, w1, e4, e5, e6, e7, Option.bind_some]
  split
  · exact ⟨_, _, rfl, o3, p0, p1, n3, p3, p4, p5, p6, p7, p8⟩
  split
  · exact ⟨_, _, rfl, o4, p0, p1, p2, p3, n4, p5, p6, p7, p8⟩
  split
  · exact ⟨_, _, rfl, o5, p0, p1, p2, p3, p4, n5, p6, p7, p8⟩
  split
  · exact ⟨_, _, rfl, o6, Nat.le_trans m6 (by omega), p1, p2, p3, p4, p5, p6, p7, p8⟩
  split
  · exact ⟨_, _, rfl, o7, p0, p1, p2, p3, p4, p5, p6, n7, p8⟩
  · exact ⟨_, _, rfl, o2, p0, p1, p2, p3, p4, p5, p6, p7, p8⟩
theorem artS_snoc {out : List Art} {a : Art} (h : ∀ x ∈ out, ArtS x) (ha : ArtS a) : ∀ x ∈ out ++ [a], ArtS x := fun x hx => by
  rcases List.mem_append.1 hx with h1 | h1
  · exact h x h1
  · rw [List.mem_singleton.1 h1]; exact ha
def al14 : ByteArray := ⟨#[97, 98, 99, 100, 101, 102, 103, 104, 105, 106, 107, 108, 109, 110]⟩
theorem al14_size : al14.size = 14 := rfl
def exx : ByteArray := ⟨#[120]⟩
theorem exx_size : exx.size = 1 := rfl
theorem list03_l13 : ∀ (d i k : Nat) (s : List Int × Int × Int) (out : List Art), i + d = 14 → out.length ≤ 6 + i → d < k → SrcOk s → (∀ x ∈ out, ArtS x) →
    ∃ o s', spec_l03List.l13 NN k i s out = some (o, s') ∧ SrcOk s' ∧ o.length ≤ 20 ∧ ∀ x ∈ o, ArtS x := by
  intro d
  induction d with
  | zero =>
    intro i k s out hd hl hk hs ho
    obtain ⟨k, rfl⟩ : ∃ j, k = j + 1 := ⟨k - 1, by omega⟩
    obtain ⟨a, s1, e1, o1, a0, a1⟩ := next_ok hs 2 (by omega)
    have n1 : ¬ (i : Int) < 14 := by omega
    simp only [spec_l03List.l13, spec_l03List.g13, e1, Option.bind_some, n1, decide_false, Bool.false_eq_true, if_false]
    rw [ite_self]
    exact ⟨_, _, rfl, o1, by omega, ho⟩
  | succ d ih =>
    intro i k s out hd hl hk hs ho
    obtain ⟨k, rfl⟩ : ∃ j, k = j + 1 := ⟨k - 1, by omega⟩
    obtain ⟨a, s1, e1, o1, a0, a1⟩ := next_ok hs 2 (by omega)
    have n1 : (i : Int) < 14 := by omega
    have w1 := w64 (n := (i : Int) + 1) (by omega) (by omega)
    have hz : exx.size + (al14.extract (i : Int).toNat ((i : Int) + 1).toNat).size ≤ 1000 := by
      rw [exx_size, ByteArray.size_extract, al14_size]; omega
    have hz2 : (exx ++ al14.extract (i : Int).toNat ((i : Int) + 1).toNat).size ≤ 1000 := by
      rw [ByteArray.size_append]; exact hz
    obtain ⟨g, s2, e2, o2, g1⟩ := good03_ok o1 _ hz2
    have hc : (0 : Int) ≤ (i : Int) ∧ (i : Int) ≤ (i : Int) + 1 ∧ ((i : Int) + 1) ≤ (al14.size : Int) := by rw [al14_size]; omega
    have w2 := w64 (n := 12 + a) (by omega) (by omega)
    simp only [spec_l03List.l13, spec_l03List.g13, e1, Option.bind_some, n1, decide_true, if_true, w1, w2]
    rw [show (⟨#[97, 98, 99, 100, 101, 102, 103, 104, 105, 106, 107, 108, 109, 110]⟩ : ByteArray) = al14 from rfl, show (⟨#[120]⟩ : ByteArray) = exx from rfl]
    by_cases n2 : (out.length : Int) < 12 + a
    · rw [if_pos (decide_eq_true n2), if_pos hc, if_pos (show exx.size + (al14.extract (i : Int).toNat ((i : Int) + 1).toNat).size ≤ 9223372036854775807 by omega), e2]
      simp only [Option.bind_some]
      rw [if_pos (by rw [room80]; simp; omega)]
      have := ih (i + 1) k s2 (out ++ [g]) (by omega) (by simp; omega) (by omega) o2 (artS_snoc ho (artM_S g1))
      rw [show ((i + 1 : Nat) : Int) = (i : Int) + 1 by omega] at this
      exact this
    · rw [if_neg (by rw [decide_eq_false n2]; decide)]
      exact ⟨_, _, rfl, o1, by omega, ho⟩
theorem list03_l4 : ∀ (d i k : Nat) (s : List Int × Int × Int) (out : List Art), i + d = 6 → out.length ≤ i → d < k → SrcOk s → (∀ x ∈ out, ArtS x) →
    ∃ o s', spec_l03List.l4 NN k i s out nam6 = some (o, s') ∧ SrcOk s' ∧ o.length ≤ 20 ∧ ∀ x ∈ o, ArtS x := by
  intro d
  induction d with
  | zero =>
    intro i k s out hd hl hk hs ho
    obtain ⟨k, rfl⟩ : ∃ j, k = j + 1 := ⟨k - 1, by omega⟩
    obtain ⟨a, s1, e1, o1, a0, a1⟩ := next_ok hs 30 (by omega)
    have n1 : ¬ (i : Int) < (nam6.length : Int) := by rw [nam6_len]; omega
    obtain ⟨g, s2, e2, o2, g1⟩ := good03_ok o1 (⟨#[97, 115, 116, 101, 114]⟩ : ByteArray) (Nat.le_of_ble_eq_true rfl)
    simp only [spec_l03List.l4, spec_l03List.g4, e1, e2, Option.bind_some, n1, decide_false, Bool.false_eq_true, if_false]
    split
    · rw [if_pos (by rw [room80]; simp; omega)]
      exact ⟨_, _, rfl, o2, by simp; omega, artS_snoc ho (artM_S g1)⟩
    split
    · exact list03_l13 14 0 NN s1 out (by omega) (by omega) (NN_lt (by omega)) o1 ho
    · exact ⟨_, _, rfl, o1, by omega, ho⟩
  | succ d ih =>
    intro i k s out hd hl hk hs ho
    obtain ⟨k, rfl⟩ : ∃ j, k = j + 1 := ⟨k - 1, by omega⟩
    obtain ⟨a, s1, e1, o1, a0, a1⟩ := next_ok hs 3 (by omega)
    have n1 : (i : Int) < (nam6.length : Int) := by rw [nam6_len]; omega
    have n0 : (0 : Int) ≤ (i : Int) := by omega
    have w1 := w64 (n := (i : Int) + 1) (by omega) (by omega)
    have hm := getB_mem3 (xs := nam6) (i := i) (by rw [nam6_len]; omega)
    obtain ⟨g, s2, e2, o2, g1⟩ := draw03_ok o1 (nam6.getD i ByteArray.empty) (by have := nam6_sm _ hm; omega)
    simp only [spec_l03List.l4, spec_l03List.g4, e1, Option.bind_some, n1, n0, and_self, decide_true, if_true, w1, Int.toNat_natCast, e2]
    split
    · rw [if_pos (by rw [room80]; simp; omega)]
      have := ih (i + 1) k s2 (out ++ [g]) (by omega) (by simp; omega) (by omega) o2 (artS_snoc ho g1)
      rw [show ((i + 1 : Nat) : Int) = (i : Int) + 1 by omega] at this
      exact this
    · have := ih (i + 1) k s1 out (by omega) (by omega) (by omega) o1 ho
      rw [show ((i + 1 : Nat) : Int) = (i : Int) + 1 by omega] at this
      exact this
theorem list03_ok {s : List Int × Int × Int} (hs : SrcOk s) : ∃ o s', spec_l03List.f s = some (o, s') ∧ SrcOk s' ∧ o.length ≤ 20 ∧ ∀ x ∈ o, ArtS x := by
  unfold spec_l03List.f spec_l03List.fn spec_l03List.top
  rw [nam6_f]
  exact list03_l4 6 0 NN s [] (by omega) (by simp) (NN_lt (by omega)) hs (by simp)
theorem arts_lm {xs : List Art} (hl : xs.length ≤ 20) (h : ∀ x ∈ xs, ArtS x) : Lm OkArticle xs := ⟨by omega, fun a ha => artS_ok (h a ha)⟩
def CntS (cs : List Int) : Prop := ∀ c ∈ cs, -10 ≤ c ∧ c ≤ 100000
theorem cntS_snoc {cs : List Int} {c : Int} (h : CntS cs) (hc : -10 ≤ c ∧ c ≤ 100000) : CntS (cs ++ [c]) := fun x hx => by
  rcases List.mem_append.1 hx with h1 | h1
  · exact h x h1
  · rw [List.mem_singleton.1 h1]; exact hc
theorem mem_set {cs : List Int} {i : Nat} {v x : Int} (h : x ∈ cs.set i v) : x ∈ cs ∨ x = v := by
  rw [List.mem_iff_getElem?] at h
  obtain ⟨j, hj⟩ := h
  by_cases e : i = j
  · subst e
    rw [List.getElem?_set] at hj
    simp only [if_true] at hj
    split at hj
    · right; exact (Option.some.inj hj).symm
    · cases hj
  · rw [List.getElem?_set_ne e] at hj
    exact .inl (List.mem_iff_getElem?.2 ⟨j, hj⟩)
theorem cntS_set {cs : List Int} {i : Nat} {c : Int} (h : CntS cs) (hc : -10 ≤ c ∧ c ≤ 100000) : CntS (cs.set i c) := fun x hx => by
  rcases mem_set hx with h1 | h1
  · exact h x h1
  · rw [h1]; exact hc
theorem counts_l3 (N : Nat) (hN : N ≤ 1000) : ∀ (d i k : Nat) (s : List Int × Int × Int) (out : List Int), i + d = N → out.length = i → d < k → SrcOk s → CntS out →
    ∃ o s', spec_l03Counts.l3 NN k N i s out = some (o, s') ∧ SrcOk s' ∧ o.length ≤ 1001 ∧ CntS o := by
  intro d
  induction d with
  | zero =>
    intro i k s out hd hl hk hs ho
    obtain ⟨k, rfl⟩ : ∃ j, k = j + 1 := ⟨k - 1, by omega⟩
    obtain ⟨a, s1, e1, o1, a0, a1⟩ := next_ok hs 24 (by omega)
    have n1 : ¬ (i : Int) < (N : Int) := by omega
    obtain ⟨c, s2, e2, o2, c0⟩ := pick_ok o1 [1000, 1001, (-1)] (by simp) (by simp)
    have c1 : -10 ≤ c ∧ c ≤ 100000 := by simp at c0; omega
    simp only [spec_l03Counts.l3, spec_l03Counts.g3, e1, e2, Option.bind_some, n1, decide_false, Bool.false_eq_true, if_false]
    split
    · rw [if_pos (by rw [room8]; simp; omega)]
      exact ⟨_, _, rfl, o1, by simp; omega, cntS_snoc ho (by omega)⟩
    split
    · split
      · rename_i h0
        have h0' : (0 : Int) < N := by simpa using h0
        rw [if_pos ⟨Int.le_refl _, by omega⟩]
        exact ⟨_, _, rfl, o2, by simp; omega, cntS_set ho c1⟩
      · exact ⟨_, _, rfl, o1, by omega, ho⟩
    · exact ⟨_, _, rfl, o1, by omega, ho⟩
  | succ d ih =>
    intro i k s out hd hl hk hs ho
    obtain ⟨k, rfl⟩ : ∃ j, k = j + 1 := ⟨k - 1, by omega⟩
    obtain ⟨a, s1, e1, o1, a0, a1⟩ := next_ok hs 12 (by omega)
    obtain ⟨b, s2, e2, o2, b0, b1⟩ := next_ok o1 12 (by omega)
    obtain ⟨c, s3, e3, o3, c0⟩ := pick_ok o2 [0, a, b] (by simp) (by simp)
    have c1 : -10 ≤ c ∧ c ≤ 100000 := by simp at c0; omega
    have n1 : (i : Int) < (N : Int) := by omega
    have w1 := w64 (n := (i : Int) + 1) (by omega) (by omega)
    simp only [spec_l03Counts.l3, spec_l03Counts.g3, e1, e2, e3, Option.bind_some, n1, decide_true, if_true, w1]
    rw [if_pos (by rw [room8]; simp; omega)]
    have := ih (i + 1) k s3 (out ++ [c]) (by omega) (by simp; omega) (by omega) o3 (cntS_snoc ho c1)
    rw [show ((i + 1 : Nat) : Int) = (i : Int) + 1 by omega] at this
    exact this
theorem counts03_ok {s : List Int × Int × Int} (hs : SrcOk s) (N : Nat) (hN : N ≤ 1000) : ∃ o s', spec_l03Counts.f s N = some (o, s') ∧ SrcOk s' ∧ o.length ≤ 1001 ∧ CntS o := by
  unfold spec_l03Counts.f spec_l03Counts.fn spec_l03Counts.top
  exact counts_l3 N hN N 0 NN s [] (by omega) (by simp) (NN_lt (by omega)) hs (fun _ h => by cases h)
theorem cnts_lm {cs : List Int} (hl : cs.length ≤ 1001) (h : CntS cs) : Lm (Rg .i64) cs := ⟨by omega, fun c hc => wf64.2 (by have := h c hc; omega)⟩
end Go.Pl

namespace Go.Pl
open Go.Ev
set_option linter.unusedVariables false
set_option linter.unusedSimpArgs false
theorem likeBoxes_self (a : List (Int × Int)) (hl : a.length ≤ 140737488355328) : laws_likeBoxes.f a a = some true := by
  unfold laws_likeBoxes.f laws_likeBoxes.fn laws_likeBoxes.top
  simp only [bne_self_eq_false, Bool.false_eq_true, if_false]
  refine eqS_loop (E := fun _ => True) (fun k a b i => laws_likeBoxes.l4 NN k a b i) a (fun _ _ => trivial) ?_ ?_ NN (NN_lt (by omega))
  · intro k p x r hx ha
    subst ha
    have hm := mid_len p r x
    have c1 : (p.length : Int) < ((p ++ x :: r).length : Int) := by omega
    have c0 : (0 : Int) ≤ (p.length : Int) := by omega
    have cw := w64 (n := (p.length : Int) + 1) (by omega) (by omega)
    simp only [laws_likeBoxes.l4, laws_likeBoxes.g4, c0, c1, cw, and_self, and_true, true_and, decide_true, decide_false, if_true, if_false, mid_get, mid_set, mid_getn, mid_setn, bt_mid, Option.bind_some, Bool.not_true, Bool.not_false, Bool.false_eq_true, Bool.true_eq_false, beq_self_eq_true, bne_self_eq_false, Int.toNat_natCast]
    simp
  · intro k
    simp [laws_likeBoxes.l4, laws_likeBoxes.g4]
def netR (xs : List Art) (p : Pap) : Int × Int := if askR xs p = 0 then (netL xs p.2.2, 0) else (0, askR xs p)
theorem NetOfPaper_both (xs : List Art) (p : Pap) (h : Lm OkArticle xs) (hp : OkPaper p) : spec_NetOfPaper.f xs p = some (netR xs p) ∧ impl_NetOfPaper.f xs p = some (netR xs p) := by
  unfold netR
  refine ⟨?_, ?_⟩
  · unfold spec_NetOfPaper.f spec_NetOfPaper.fn spec_NetOfPaper.top
    rw [spec_l29True_f xs p h hp]
    simp only [Option.bind_some]
    by_cases h0 : askR xs p = 0
    · obtain ⟨h1, h2, h3⟩ := askR_zero h0
      rw [if_neg (by rw [h0]; simp), if_pos h0]
      exact spec_net_l xs p.1 p.2.1 p.2.2 (Nat.le_trans h.1 (by omega)) h1 (linesB_ok (paperB_iff h2).2.2).1 h3
    · rw [if_pos (by simpa using h0), if_neg h0]
  · unfold impl_NetOfPaper.f impl_NetOfPaper.fn impl_NetOfPaper.top
    rw [impl_paperAsked_f xs p h hp]
    simp only [Option.bind_some]
    by_cases h0 : askR xs p = 0
    · obtain ⟨h1, h2, h3⟩ := askR_zero h0
      rw [if_neg (by rw [h0]; simp), if_pos h0]
      exact impl_net_l xs p.1 p.2.1 p.2.2 (Nat.le_trans h.1 (by omega)) h1 (linesB_ok (paperB_iff h2).2.2).1 h3
    · rw [if_pos (by simpa using h0), if_neg h0]
theorem box_map (xs : List Art) : ∀ (ls : List (ByteArray × Int)) (out : List (Int × Int)), ls.foldl (boxF xs) out = out ++ ls.map fun l => (netA xs l.1 * l.2, grpA xs l.1) := by
  intro ls
  induction ls with
  | nil => intro out; simp
  | cons l r ih => intro out; rw [List.foldl_cons, ih]; simp [boxF]
def sumB (st : Int) (b : Int × Int) : Int := st + b.1
theorem sum_net (xs : List Art) : ∀ (ls : List (ByteArray × Int)) (st : Int), (ls.map fun l => (netA xs l.1 * l.2, grpA xs l.1)).foldl sumB st = ls.foldl (netF xs) st := by
  intro ls
  induction ls with
  | nil => intro st; rfl
  | cons l r ih => intro st; rw [List.map_cons, List.foldl_cons, List.foldl_cons, ih]; rfl
theorem bx_zero {xs : List Art} {p : Pap} (h : (bxR xs p).2 = 0) : netR xs p = (netL xs p.2.2, 0) ∧ (bxR xs p).1.length = p.2.2.length ∧ p.2.2.length ≤ 12 ∧ boxesB (bxR xs p).1 = true ∧ (bxR xs p).1.foldl sumB 0 = netL xs p.2.2 ∧ ∀ b ∈ (bxR xs p).1, 0 ≤ b.1 ∧ b.1 ≤ 100000000 := by
  unfold bxR netR at *
  by_cases h0 : askR xs p = 0
  · rw [if_pos h0] at h ⊢
    rw [if_pos h0]
    obtain ⟨h1, h2, h3⟩ := askR_zero h0
    unfold boxE at h ⊢
    have hm := box_map xs p.2.2 []
    rw [List.nil_append] at hm
    by_cases hb : boxesB (boxL xs p.2.2) = true
    · rw [if_pos hb]
      refine ⟨rfl, ?_, (linesB_ok (paperB_iff h2).2.2).1, hb, ?_, ?_⟩
      · show (boxL xs p.2.2).length = _
        unfold boxL; rw [hm]; simp
      · show (boxL xs p.2.2).foldl sumB 0 = _
        unfold boxL; rw [hm]; exact sum_net xs p.2.2 0
      · intro b hbm
        have hbm : b ∈ boxL xs p.2.2 := hbm
        unfold boxL at hbm
        rw [hm] at hbm
        obtain ⟨l, hl, rfl⟩ := List.mem_map.1 hbm
        exact netF_bd h1 (h3 l hl)
    · rw [if_neg hb] at h
      exact absurd h (by decide)
  · rw [if_neg h0] at h
    exact absurd h h0
theorem papers_l31 (w : Pap) (nm : ByteArray) (c : Int) (hw : OkPaper w) (hn : Sm nm) (hp : paperB w = true) (hr : putR w nm c = (w, 0)) (Q R : List Ln) (e : w.2.2 = Q ++ (nm, c) :: R) (hq : ∀ l ∈ Q, l.1 ≠ nm) :
    laws_FnPapers.l31 NN NN nm c false 0 w.1 w.2.1 w.2.2 = some true := by
  have hl : w.2.2.length ≤ 1000000 := hw.2.2.1
  have hk := likePaper_self w (by omega)
  have := (fold_fix (E := fun _ : Ln => True) (fun _ _ => True) (fun _ (st : Bool) l => if st = true then true else (if l.1 = nm then l.2 == c else false)) (fun st => some st) (fun k i st => laws_FnPapers.l31 NN k nm c st i w.1 w.2.1 w.2.2) w.2.2 ?_ ?_ false (fun _ _ => trivial) trivial (by omega) NN (NN_lt (by omega))).2
  · rw [this, foldi_foldl, e, List.foldl_append, List.foldl_cons]
    have k1 : ∀ (Q : List Ln), (∀ l ∈ Q, l.1 ≠ nm) → Q.foldl (fun (st : Bool) l => if st = true then true else (if l.1 = nm then l.2 == c else false)) false = false := by
      intro Q
      induction Q with
      | nil => intro _; rfl
      | cons l r ih =>
        intro h
        rw [List.foldl_cons]
        simp only [Bool.false_eq_true, if_false, h l (by simp)]
        exact ih fun x hx => h x (by simp [hx])
    have k2 : ∀ (R : List Ln), R.foldl (fun (st : Bool) l => if st = true then true else (if l.1 = nm then l.2 == c else false)) true = true := by
      intro R
      induction R with
      | nil => rfl
      | cons l r ih => rw [List.foldl_cons]; exact ih
    rw [k1 Q hq]
    simp only [Bool.false_eq_true, if_false, if_true, beq_self_eq_true]
    rw [k2 R]
  · intro k st _
    simp only [laws_FnPapers.l31, laws_FnPapers.g31, Int.lt_irrefl, and_self, and_true, true_and, decide_true, decide_false, if_true, if_false, mid_get, mid_set, mid_getn, mid_setn, bt_mid, Option.bind_some, Bool.not_true, Bool.not_false, Bool.false_eq_true, Bool.true_eq_false, beq_self_eq_true, bne_self_eq_false, Int.toNat_natCast]
    rw [show (w.1, (w.2.1, w.2.2)) = w from rfl, (PutLine_both w nm c hw hn).2, hr, impl_IsPaper_f w hw, hp]
    simp only [Option.bind_some, beq_self_eq_true, if_true]
    rw [show (w.1, (w.2.1, w.2.2)) = w from rfl, hk]
    cases st <;> rfl
  · intro k p l r st hx _ _ c0 c1 c2 cw g
    refine ⟨trivial, ?_⟩
    simp only [laws_FnPapers.l31, laws_FnPapers.g31, c0, c1, cw, and_self, and_true, true_and, decide_true, decide_false, if_true, if_false, mid_get, mid_set, mid_getn, mid_setn, bt_mid, Option.bind_some, Bool.not_true, Bool.not_false, Bool.false_eq_true, Bool.true_eq_false, beq_self_eq_true, bne_self_eq_false, Int.toNat_natCast, g, ba_beq]
    cases st
    · by_cases h : l.1 = nm <;> simp [h]
    · rfl
theorem papers_tail (p : Pap) (nm : ByteArray) (c : Int) (hp : OkPaper p) (hn : Sm nm) (hl : p.2.2.length ≤ 1000) :
    (if ((cutR p nm).2 == 0) = true then
      (impl_CutLine.f ((cutR p nm).1.1, ((cutR p nm).1.2.1, (cutR p nm).1.2.2)) nm).bind fun r18 =>
      if ((r18.2 : Int) != 4) = false then
        if (((cutR p nm).1.2.2.length : Int) != (IntKind.i64.wrap ((p.2.2.length : Int) - 1))) = false then
          (impl_IsPaper.f ((cutR p nm).1.1, ((cutR p nm).1.2.1, (cutR p nm).1.2.2))).bind fun r19 =>
          if (!r19) = true then
            some false
          else if ((putR p nm c).2 != 0) = true then
            some true
          else
            laws_FnPapers.l31 NN NN nm c false 0 (putR p nm c).1.1 (putR p nm c).1.2.1 (putR p nm c).1.2.2
        else
          some false
      else
        some false
    else if ((putR p nm c).2 != 0) = true then
      some true
    else
      laws_FnPapers.l31 NN NN nm c false 0 (putR p nm c).1.1 (putR p nm c).1.2.1 (putR p nm c).1.2.2) = some true := by
  have hput : (if ((putR p nm c).2 != 0) = true then some true else laws_FnPapers.l31 NN NN nm c false 0 (putR p nm c).1.1 (putR p nm c).1.2.1 (putR p nm c).1.2.2) = some true := by
    by_cases h : (putR p nm c).2 = 0
    · obtain ⟨k1, k2, k3, Q, R, k4, k5⟩ := putR_zero hp h
      rw [if_neg (by rw [h]; decide)]
      exact papers_l31 (putR p nm c).1 nm c k1 hn k2 k3 Q R k4 k5
    · rw [if_pos (by simpa using h)]
  by_cases hz : (cutR p nm).2 = 0
  · obtain ⟨k1, k2, k3, k4⟩ := cutR_zero hp hz
    rw [if_pos (by rw [hz]; rfl), show ((cutR p nm).1.1, ((cutR p nm).1.2.1, (cutR p nm).1.2.2)) = (cutR p nm).1 from rfl, (CutLine_both _ nm k1 hn).2, impl_IsPaper_f _ k1, k2]
    simp only [Option.bind_some]
    rw [if_pos (by rw [k3]; rfl), if_pos (by rw [w64 (by omega) (by omega), k4]; exact bne_self_eq_false _)]
    simp only [Bool.not_true, Bool.false_eq_true, if_false]
    exact hput
  · rw [if_neg (by simpa using hz)]
    exact hput
theorem papers_l18 (xs : List Art) (p q : Pap) (nm : ByteArray) (c : Int) (hp : OkPaper p) (hn : Sm nm) (hl : p.2.2.length ≤ 1000) (hz : (bxR xs q).2 = 0) :
    laws_FnPapers.l18 NN NN nm c (putR p nm c).2 (cutR p nm).2 (netR xs q).1 (netR xs q).2 0 0 p.1 p.2.1 (putR p nm c).1.1 (putR p nm c).1.2.1 (cutR p nm).1.1 (cutR p nm).1.2.1 q.1 q.2.1 (bxR xs q).1 p.2.2 (putR p nm c).1.2.2 (cutR p nm).1.2.2 q.2.2 = some true := by
  obtain ⟨b1, b2, b3, b4, b5, b6⟩ := bx_zero hz
  rw [b1]
  have := (fold_fix (E := fun b : Int × Int => 0 ≤ b.1 ∧ b.1 ≤ 100000000) (fun pr (st : Int) => 0 ≤ st ∧ st ≤ 100000000 * pr.length) (fun _ st b => sumB st b) (fun st => if st = netL xs q.2.2 then some true else some false) (fun k i st => laws_FnPapers.l18 NN k nm c (putR p nm c).2 (cutR p nm).2 (netL xs q.2.2) 0 st i p.1 p.2.1 (putR p nm c).1.1 (putR p nm c).1.2.1 (cutR p nm).1.1 (cutR p nm).1.2.1 q.1 q.2.1 (bxR xs q).1 p.2.2 (putR p nm c).1.2.2 (cutR p nm).1.2.2 q.2.2) (bxR xs q).1 ?_ ?_ 0 b6 (by simp) (by omega) NN (NN_lt (by omega))).2
  · rw [foldi_foldl, b5, if_pos rfl] at this
    exact this
  · intro k st _
    simp only [laws_FnPapers.l18, laws_FnPapers.g18, Int.lt_irrefl, and_self, and_true, true_and, decide_true, decide_false, if_true, if_false, mid_get, mid_set, mid_getn, mid_setn, bt_mid, Option.bind_some, Bool.not_true, Bool.not_false, Bool.false_eq_true, Bool.true_eq_false, beq_self_eq_true, bne_self_eq_false, Int.toNat_natCast]
    by_cases h : st = netL xs q.2.2
    · have e1 : (st != netL xs q.2.2) = false := by rw [h]; exact bne_self_eq_false _
      have e2 : (((bxR xs q).1.length : Int) != (q.2.2.length : Int)) = false := by rw [b2]; exact bne_self_eq_false _
      rw [if_pos e1, if_pos e2, if_pos h, impl_AreBoxes_f _ (by omega), b4]
      simp only [Option.bind_some, Bool.not_true, Bool.false_eq_true, if_false]
      exact papers_tail p nm c hp hn hl
    · have e1 : ¬ (st != netL xs q.2.2) = false := by simpa using h
      rw [if_neg e1, if_neg h]
  · intro k pr b r st hx hb hI c0 c1 c2 cw g
    have hpl : pr.length ≤ 12 := by have := congrArg List.length hx; simp at this; omega
    have w1 := w64 (n := st + b.1) (by omega) (by omega)
    refine ⟨by unfold sumB; rw [List.length_append, List.length_singleton]; omega, ?_⟩
    simp only [laws_FnPapers.l18, laws_FnPapers.g18, c0, c1, cw, and_self, and_true, true_and, decide_true, decide_false, if_true, if_false, mid_get, mid_set, mid_getn, mid_setn, bt_mid, Option.bind_some, Bool.not_true, Bool.not_false, Bool.false_eq_true, Bool.true_eq_false, beq_self_eq_true, bne_self_eq_false, Int.toNat_natCast, g, w1]
    rfl
theorem for29_l6 (s : List Int × Int × Int) (v : ByteArray) (d : Int) (xs : List Art) (a : ByteArray) (b : Int) (w ls : List Ln) (hx : xs.length ≤ 1000) (hl : ls.length ≤ 30) (ho : ∀ l ∈ ls, Sm l.1 ∧ 0 ≤ l.2 ∧ l.2 ≤ 1001) :
    ∃ o, spec_l29For.l6 NN NN 0 s v d xs a b [] w ls = some (xs, (a, (b, o)), s) ∧ o.length ≤ 30 ∧ ∀ l ∈ o, Sm l.1 ∧ 0 ≤ l.2 ∧ l.2 ≤ 1001 := by
  have := fold_fix (E := fun l : Ln => Sm l.1 ∧ 0 ≤ l.2 ∧ l.2 ≤ 1001) (fun p (o : List Ln) => o.length ≤ p.length ∧ ∀ l ∈ o, Sm l.1 ∧ 0 ≤ l.2 ∧ l.2 ≤ 1001) (fun _ o l => if 0 ≤ artI xs l.1 then o ++ [l] else o) (fun o => some (xs, (a, (b, o)), s)) (fun k i o => spec_l29For.l6 NN k i s v d xs a b o w ls) ls ?_ ?_ [] ho (by simp) (by omega) NN (NN_lt (by omega))
  · exact ⟨_, this.2, by have := this.1.1; omega, this.1.2⟩
  · intro k o _
    simp only [spec_l29For.l6, spec_l29For.g6, Int.lt_irrefl, and_self, and_true, true_and, decide_true, decide_false, if_true, if_false, mid_get, mid_set, mid_getn, mid_setn, bt_mid, Option.bind_some, Bool.not_true, Bool.not_false, Bool.false_eq_true, Bool.true_eq_false, beq_self_eq_true, bne_self_eq_false, Int.toNat_natCast]
  · intro k p l r o hxx hl1 hI c0 c1 c2 cw g
    have hpl : p.length ≤ 30 := by have := congrArg List.length hxx; simp at this; omega
    refine ⟨?_, ?_⟩
    · split
      · refine ⟨by simp; omega, fun x hx => ?_⟩
        rcases List.mem_append.1 hx with h | h
        · exact hI.2 x h
        · rw [List.mem_singleton.1 h]; exact hl1
      · exact ⟨by simp; omega, hI.2⟩
    · simp only [spec_l29For.l6, spec_l29For.g6, c0, c1, cw, and_self, and_true, true_and, decide_true, decide_false, if_true, if_false, mid_get, mid_set, mid_getn, mid_setn, bt_mid, Option.bind_some, Bool.not_true, Bool.not_false, Bool.false_eq_true, Bool.true_eq_false, beq_self_eq_true, bne_self_eq_false, Int.toNat_natCast, g, spec_l03Find_f xs l.1 (by omega)]
      rw [if_pos (show o.length + [l].length < room 24 by rw [room24]; simp; omega)]
      by_cases h : 0 ≤ artI xs l.1 <;> simp [h]
theorem for29_ok {s : List Int × Int × Int} (hs : SrcOk s) : ∃ xs p s', spec_l29For.f s = some (xs, p, s') ∧ SrcOk s' ∧ (xs.length ≤ 20 ∧ ∀ x ∈ xs, ArtS x) ∧ PapS p := by
  unfold spec_l29For.f spec_l29For.fn spec_l29For.top
  obtain ⟨xs, s1, e1, o1, x1, x2⟩ := list03_ok hs
  obtain ⟨p, s2, e2, o2, p1⟩ := draw29_ok o1
  obtain ⟨a, s3, e3, o3, a0, a1⟩ := next_ok o2 4 (by omega)
  obtain ⟨o, e4, l1, l2⟩ := for29_l6 s3 ByteArray.empty 0 xs p.1 p.2.1 [] p.2.2 (by omega) p1.2.2.1 p1.2.2.2
  simp only [e1, e2, e3, Option.bind_some]
  split
  · exact ⟨_, _, _, e4, o3, ⟨x1, x2⟩, p1.1, p1.2.1, l1, l2⟩
  · exact ⟨_, _, _, rfl, o3, ⟨x1, x2⟩, p1⟩
theorem drawNetP_ok {code : List Int} (h : CodeOk code) : ∃ xs p, spec_DrawNetOfPaper.f code = some (xs, p) ∧ (xs.length ≤ 20 ∧ ∀ x ∈ xs, ArtS x) ∧ PapS p := by
  unfold spec_DrawNetOfPaper.f spec_DrawNetOfPaper.fn spec_DrawNetOfPaper.top
  obtain ⟨s, e, o⟩ := from_ok h
  obtain ⟨xs, p, s1, e1, o1, x1, p1⟩ := for29_ok o
  simp only [e, e1, Option.bind_some]
  exact ⟨xs, p, rfl, x1, p1⟩
def put5 : List ByteArray := [(⟨#[99, 111, 109, 101, 116]⟩ : ByteArray), (⟨#[112, 101, 111, 110, 121]⟩ : ByteArray), (⟨#[122, 105, 110, 110, 105, 97]⟩ : ByteArray), (⟨#[65, 115, 116, 101, 114]⟩ : ByteArray), (⟨#[119, 105, 108, 108, 111, 119]⟩ : ByteArray)]
theorem put5_sm : ∀ c ∈ put5, Sm c := by
  intro c hc
  unfold put5 at hc
  simp only [List.mem_cons, List.not_mem_nil, or_false] at hc
  unfold Sm
  rcases hc with h | h | h | h | h <;> (rw [h]; exact Nat.le_of_ble_eq_true rfl)
theorem drawPut_ok {code : List Int} (h : CodeOk code) : ∃ p nm c, spec_DrawPutLine.f code = some (p, nm, c) ∧ PapS p ∧ Sm nm := by
  unfold spec_DrawPutLine.f spec_DrawPutLine.fn spec_DrawPutLine.top
  obtain ⟨s, e, o⟩ := from_ok h
  obtain ⟨p, s1, e1, o1, p1⟩ := draw29_ok o
  obtain ⟨a, s2, e2, o2, a0, a1⟩ := next_ok o1 5 (by omega)
  obtain ⟨b, s3, e3, o3, b0, b1⟩ := next_ok o2 20 (by omega)
  have w1 := w64 (n := 1 + b) (by omega) (by omega)
  obtain ⟨c, s4, e4, o4, m⟩ := pick_ok o3 [1 + b, 1, 1000, 1001, 0] (by simp) (by simp)
  have hin : (0 : Int) ≤ a ∧ (a : Int) < (put5.length : Int) := ⟨a0, by show a < 5; omega⟩
  have hm := getB_mem3 (xs := put5) (i := a.toNat) (by show a.toNat < 5; omega)
  rw [show ([(⟨#[99, 111, 109, 101, 116]⟩ : ByteArray), (⟨#[112, 101, 111, 110, 121]⟩ : ByteArray), (⟨#[122, 105, 110, 110, 105, 97]⟩ : ByteArray), (⟨#[65, 115, 116, 101, 114]⟩ : ByteArray), (⟨#[119, 105, 108, 108, 111, 119]⟩ : ByteArray)] : List ByteArray) = put5 from rfl]
  simp only [e, e1, e2, e3, w1, e4, Option.bind_some, hin, and_self, if_true, agree_self]
  exact ⟨p, _, c, rfl, p1, put5_sm _ hm⟩
theorem put_len (p : Pap) (nm : ByteArray) (c : Int) : (putR p nm c).1.2.2.length ≤ 12 := by
  unfold putR
  split
  · split
    · split
      · split
        · rename_i h; exact h
        · exact Nat.zero_le _
      · exact Nat.zero_le _
    · exact Nat.zero_le _
  · exact Nat.zero_le _
theorem cut_len (p : Pap) (nm : ByteArray) (h : p.2.2.length ≤ 1000) : (cutR p nm).1.2.2.length ≤ 1000 := by
  unfold cutR
  split
  · split
    · split
      · exact Nat.zero_le _
      · exact Nat.le_trans (List.length_filter_le _ _) h
    · exact Nat.zero_le _
  · exact Nat.zero_le _
theorem FnPapers_true (code : List Int) (hyp : Ls (Rg .u8) code) : laws_FnPapers.f code = some true := by
  unfold laws_FnPapers.f laws_FnPapers.fn laws_FnPapers.top
  rw [big_f]
  by_cases hb : (4096 : Int) < (code.length : Int)
  · simp [hb]
  have hco := code_of hyp hb
  obtain ⟨p, nm, c, e1, p1, hn⟩ := drawPut_ok hco
  obtain ⟨xs, q, e2, ⟨x1, x2⟩, q1⟩ := drawNetP_ok hco
  have lx := arts_lm x1 x2
  have hp := papS_ok p1
  have hq := papS_ok q1
  have hl : p.2.2.length ≤ 1000 := by have := p1.2.2.1; omega
  obtain ⟨f1, f2⟩ := PutLine_both p nm c hp hn
  obtain ⟨g1, g2⟩ := CutLine_both p nm hp hn
  obtain ⟨n1, n2⟩ := NetOfPaper_both xs q lx hq
  obtain ⟨b1, b2, b3⟩ := BoxesOf_both xs q lx hq
  have kp := put_len p nm c
  have kc := cut_len p nm hl
  have kq : (bxR xs q).1.length ≤ 1000000 := b3.1
  have lk1 := likePaper_self (putR p nm c).1 (by omega)
  have lk2 := likePaper_self (cutR p nm).1 (by omega)
  have lk3 := likeBoxes_self (bxR xs q).1 (by omega)
  have tl := papers_tail p nm c hp hn hl
  simp only [hb, decide_false, Bool.false_eq_true, if_false, Option.bind_some, e1, e2]
  rw [show (p.1, (p.2.1, p.2.2)) = p from rfl, show (q.1, (q.2.1, q.2.2)) = q from rfl, f1, f2, g1, g2, n1, n2, b1, b2]
  simp only [Option.bind_some, bne_self_eq_false, if_true]
  rw [show ((putR p nm c).1.1, ((putR p nm c).1.2.1, (putR p nm c).1.2.2)) = (putR p nm c).1 from rfl, lk1]
  simp only [Option.bind_some, Bool.not_true, if_true]
  rw [show ((cutR p nm).1.1, ((cutR p nm).1.2.1, (cutR p nm).1.2.2)) = (cutR p nm).1 from rfl, lk2]
  simp only [Option.bind_some, Bool.not_true, if_true, lk3, Bool.false_eq_true, if_false]
  by_cases hz : (bxR xs q).2 = 0
  · rw [if_pos (by rw [hz]; rfl)]
    exact papers_l18 xs p q nm c hp hn hl hz
  · rw [if_neg (by simpa using hz)]
    exact tl
end Go.Pl
