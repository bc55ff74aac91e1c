/- Part 3 of what the law FnExactBoxesOf stands on: an evaluator of the model's code, proved sound; the functions as plain texts; their contracts. -/
import Derived.Test.YtideamfpdeojlaaChecked
import Derived.Test.YtideamfpdeojlaaProg
import Derived.Test.YtideamfpdeojlaaRows
import Derived.Below
import Derived.Calls
import Derived.Carry
import Derived.ChangeArms
import Derived.ChangeKeysEq
import Derived.ChangeOld
import Derived.Deep.Quiet
import Derived.KernelRfl
import Derived.Laws.Append
import Derived.Laws.BytesString
import Derived.Laws.MakeOwn
import Derived.Laws.Strings
import Derived.Laws.StructEq
import Derived.OpenShut
import Derived.OrdersHeld
import Derived.ProofKit
import Derived.ShutString
import Derived.SizedLaws
import Derived.Tactics
import Derived.WalkKit
import Derived.WideShapes
import Derived.Test.YtideamfpdeojlaaEvExactBoxesOf2
namespace Go.Pl
open Go.Ev
set_option linter.unusedVariables false
set_option linter.unusedSimpArgs false
theorem arts_sz {xs : List Art} (h : Lm OkArticle xs) : ∀ a ∈ xs, Sz a.1 := fun a ha => Nat.le_trans (h.2 a ha).1 (by omega)
def askL (xs : List Art) (ls : List (ByteArray × Int)) : Int := (firstOf (fun l : ByteArray × Int => decide (artI xs l.1 < 0)) 0 ls).elim 0 (fun _ => 4)
def askR (xs : List Art) (p : ByteArray × Int × List (ByteArray × Int)) : Int := if artsB xs = true then (if paperB p = true then askL xs p.2.2 else 1) else 1
theorem impl_paperAsked_f (xs : List Art) (p : ByteArray × Int × List (ByteArray × Int)) (h : Lm OkArticle xs) (hp : OkPaper p) : impl_paperAsked.f xs p = some (askR xs p) := by
  unfold impl_paperAsked.f impl_paperAsked.fn impl_paperAsked.top askR
  rw [impl_AreArticles_f xs (Nat.le_trans h.1 (by omega)) (arts_sz h), impl_IsPaper_f p hp]
  cases artsB xs
  · rfl
  cases hb : paperB p
  · rfl
  have hl := (linesB_ok (paperB_iff hb).2.2).1
  have hx : xs.length ≤ 140737488355328 := Nat.le_trans h.1 (by omega)
  simp only [Option.bind_some, Bool.not_true, Bool.false_eq_true, if_true, if_false]
  have := find_loop (E := fun _ => True) (fun l : ByteArray × Int => decide (artI xs l.1 < 0)) (fun _ _ => some (4 : Int)) (fun _ => some 0) (fun k ls i => impl_paperAsked.l4 NN k xs ls ls.length i) ?_ ?_ p.2.2 (fun _ _ => trivial) (by omega) NN (NN_lt (by omega))
  · refine this.trans ?_
    unfold askL
    cases firstOf (fun l : ByteArray × Int => decide (artI xs l.1 < 0)) 0 p.2.2 <;> rfl
  · intro k p
    simp [impl_paperAsked.l4, impl_paperAsked.g4]
  · intro k p l r _ c0 c1 c2 cw
    simp only [impl_paperAsked.l4, impl_paperAsked.g4, c0, c1, cw, and_self, and_true, true_and, decide_true, decide_false, if_true, if_false, mid_get, mid_set, mid_getn, mid_setn, bt_mid, Option.bind_some, Bool.not_true, Bool.not_false, Bool.false_eq_true, Bool.true_eq_false, beq_self_eq_true, bne_self_eq_false, Int.toNat_natCast, impl_articleOf_f xs _ hx]
theorem spec_l29True_f (xs : List Art) (p : ByteArray × Int × List (ByteArray × Int)) (h : Lm OkArticle xs) (hp : OkPaper p) : spec_l29True.f xs p = some (askR xs p) := by
  unfold spec_l29True.f spec_l29True.fn spec_l29True.top askR
  rw [spec_AreArticles_f xs (Nat.le_trans h.1 (by omega)) (arts_sz h), spec_IsPaper_f p hp]
  cases artsB xs
  · rfl
  cases hb : paperB p
  · rfl
  have hl := (linesB_ok (paperB_iff hb).2.2).1
  have hx : xs.length ≤ 140737488355328 := Nat.le_trans h.1 (by omega)
  obtain ⟨v, d, ls⟩ := p
  simp only [Option.bind_some, Bool.not_true, Bool.false_eq_true, if_true, if_false]
  have := find_loop (E := fun _ => True) (fun l : ByteArray × Int => decide (artI xs l.1 < 0)) (fun _ _ => some (4 : Int)) (fun _ => some 0) (fun k ls i => spec_l29True.l4 NN k xs i (v, d, ls)) ?_ ?_ ls (fun _ _ => trivial) (by simp only at hl; omega) NN (NN_lt (by simp only at hl; omega))
  · refine this.trans ?_
    unfold askL
    cases firstOf (fun l : ByteArray × Int => decide (artI xs l.1 < 0)) 0 ls <;> rfl
  · intro k p
    simp [spec_l29True.l4, spec_l29True.g4]
  · intro k p l r _ c0 c1 c2 cw
    simp only [spec_l29True.l4, spec_l29True.g4, c0, c1, cw, and_self, and_true, true_and, decide_true, decide_false, if_true, if_false, mid_get, mid_set, mid_getn, mid_setn, bt_mid, Option.bind_some, Bool.not_true, Bool.not_false, Bool.false_eq_true, Bool.true_eq_false, beq_self_eq_true, bne_self_eq_false, Int.toNat_natCast, spec_l03Find_f xs _ hx]
def netA (xs : List Art) (c : ByteArray) : Int := (xs.getD (artI xs c).toNat (ByteArray.empty, (0, (0, (0, (0, (0, (0, (0, 0))))))))).2.2.2.2.2.2.2.1
def netF (xs : List Art) (st : Int) (l : ByteArray × Int) : Int := st + netA xs l.1 * l.2
def netL (xs : List Art) (ls : List (ByteArray × Int)) : Int := ls.foldl (netF xs) 0
def NetE (xs : List Art) (l : ByteArray × Int) : Prop := 0 ≤ artI xs l.1 ∧ 1 ≤ l.2 ∧ l.2 ≤ 1000
theorem askR_zero {xs : List Art} {p : ByteArray × Int × List (ByteArray × Int)} (h : askR xs p = 0) : artsB xs = true ∧ paperB p = true ∧ ∀ l ∈ p.2.2, NetE xs l := by
  unfold askR at h
  by_cases h1 : artsB xs = true
  · rw [if_pos h1] at h
    by_cases h2 : paperB p = true
    · rw [if_pos h2] at h
      refine ⟨h1, h2, fun l hl => ?_⟩
      have hlo := lineOk_iff.1 ((linesB_ok (paperB_iff h2).2.2).2 l hl)
      unfold askL at h
      cases hf : firstOf (fun l : ByteArray × Int => decide (artI xs l.1 < 0)) 0 p.2.2 with
      | none =>
        have := firstOf_none _ _ _ hf l hl
        simp only [decide_eq_false_iff_not] at this
        exact ⟨by omega, hlo.2.1, hlo.2.2⟩
      | some x => rw [hf] at h; simp at h
    · rw [if_neg h2] at h; simp at h
  · rw [if_neg h1] at h; simp at h
theorem netA_bd {xs : List Art} (h : artsB xs = true) {c : ByteArray} (h0 : 0 ≤ artI xs c) : 1 ≤ netA xs c ∧ netA xs c ≤ 100000 := by
  have hb := artI_bd xs c
  have hm : xs.getD (artI xs c).toNat (ByteArray.empty, (0, (0, (0, (0, (0, (0, (0, 0)))))))) ∈ xs := by
    rw [List.getD_eq_getElem?_getD, List.getElem?_eq_getElem (by omega)]; exact List.getElem_mem _
  have := artB_iff ((artsB_ok h).2 _ hm)
  exact this.2.2.2.1
theorem netF_bd {xs : List Art} (h : artsB xs = true) {l : ByteArray × Int} (hl : NetE xs l) : 0 ≤ netA xs l.1 * l.2 ∧ netA xs l.1 * l.2 ≤ 100000000 := by
  have ha := netA_bd h hl.1
  have hl1 := hl.2.1
  have hl2 := hl.2.2
  refine ⟨Int.mul_nonneg (by omega) (by omega), ?_⟩
  have := Int.mul_le_mul ha.2 hl2 (by omega) (by omega)
  omega
noncomputable def impl_net_call (k : Nat) (xs : List Art) (p : ByteArray × Int × List (ByteArray × Int)) (i st : Int) := impl_NetOfPaper.l6 NN k xs st p.2.2 p.2.2.length i
noncomputable def spec_net_call (k : Nat) (xs : List Art) (p : ByteArray × Int × List (ByteArray × Int)) (i st : Int) := spec_NetOfPaper.l6 NN k xs st i p
theorem impl_net_l (xs : List Art) (v : ByteArray) (d : Int) (ls : List (ByteArray × Int)) (hx : xs.length ≤ 140737488355328) (h : artsB xs = true) (hl : ls.length ≤ 12) (he : ∀ l ∈ ls, NetE xs l) : impl_net_call NN xs (v, d, ls) 0 0 = some (netL xs ls, 0) := by
  have := (fold_fix (E := NetE xs) (fun p st => 0 ≤ st ∧ st ≤ 100000000 * (p.length : Int)) (fun _ => netF xs) (fun st => some (st, (0 : Int))) (fun k i st => impl_net_call k xs (v, d, ls) i st) ls ?_ ?_ 0 he ⟨by omega, by simp⟩ (by omega) NN (NN_lt (by omega))).2
  · rw [foldi_foldl] at this
    exact this
  · intro k st _
    simp [impl_net_call, impl_NetOfPaper.l6, impl_NetOfPaper.g6]
  · intro k p l r st hls hle hI c0 c1 c2 cw g
    have hb := netF_bd h hle
    have hp : p.length ≤ 12 := by omega
    have w1 := w64 (n := netA xs l.1 * l.2) (by omega) (by omega)
    have w2 := w64 (n := st + netA xs l.1 * l.2) (by omega) (by omega)
    refine ⟨⟨by unfold netF; omega, by unfold netF; simp only [List.length_append, List.length_singleton]; omega⟩, ?_⟩
    have hbd := artI_bd xs l.1
    have h0 := hle.1
    have e : (xs.getD (artI xs l.1).toNat (ByteArray.empty, (0, (0, (0, (0, (0, (0, (0, 0))))))))).2.2.2.2.2.2.2.1 = netA xs l.1 := rfl
    simp only [impl_net_call, impl_NetOfPaper.l6, impl_NetOfPaper.g6, c0, c1, cw, g, and_self, and_true, true_and, decide_true, decide_false, if_true, if_false, mid_get, mid_set, mid_getn, mid_setn, bt_mid, Option.bind_some, Bool.not_true, Bool.not_false, Bool.false_eq_true, Bool.true_eq_false, beq_self_eq_true, bne_self_eq_false, Int.toNat_natCast, impl_articleOf_f xs _ hx, h0, hbd, e, w1, w2]
    rfl
theorem spec_net_l (xs : List Art) (v : ByteArray) (d : Int) (ls : List (ByteArray × Int)) (hx : xs.length ≤ 140737488355328) (h : artsB xs = true) (hl : ls.length ≤ 12) (he : ∀ l ∈ ls, NetE xs l) : spec_net_call NN xs (v, d, ls) 0 0 = some (netL xs ls, 0) := by
  have := (fold_fix (E := NetE xs) (fun p st => 0 ≤ st ∧ st ≤ 100000000 * (p.length : Int)) (fun _ => netF xs) (fun st => some (st, (0 : Int))) (fun k i st => spec_net_call k xs (v, d, ls) i st) ls ?_ ?_ 0 he ⟨by omega, by simp⟩ (by omega) NN (NN_lt (by omega))).2
  · rw [foldi_foldl] at this
    exact this
  · intro k st _
    simp [spec_net_call, spec_NetOfPaper.l6, spec_NetOfPaper.g6]
  · intro k p l r st hls hle hI c0 c1 c2 cw g
    have hb := netF_bd h hle
    have hp : p.length ≤ 12 := by omega
    have w1 := w64 (n := netA xs l.1 * l.2) (by omega) (by omega)
    have w2 := w64 (n := st + netA xs l.1 * l.2) (by omega) (by omega)
    refine ⟨⟨by unfold netF; omega, by unfold netF; simp only [List.length_append, List.length_singleton]; omega⟩, ?_⟩
    have hbd := artI_bd xs l.1
    have h0 := hle.1
    have e : (xs.getD (artI xs l.1).toNat (ByteArray.empty, (0, (0, (0, (0, (0, (0, (0, 0))))))))).2.2.2.2.2.2.2.1 = netA xs l.1 := rfl
    simp only [spec_net_call, spec_NetOfPaper.l6, spec_NetOfPaper.g6, c0, c1, cw, g, and_self, and_true, true_and, decide_true, decide_false, if_true, if_false, mid_get, mid_set, mid_getn, mid_setn, bt_mid, Option.bind_some, Bool.not_true, Bool.not_false, Bool.false_eq_true, Bool.true_eq_false, beq_self_eq_true, bne_self_eq_false, Int.toNat_natCast, spec_l03Find_f xs _ hx, h0, hbd, e, w1, w2]
    rfl
theorem NetOfPaper_core (xs : List Art) (p : ByteArray × Int × List (ByteArray × Int)) (h : Lm OkArticle xs) (hp : OkPaper p) : ∃ w, spec_NetOfPaper.f xs p = some w ∧ impl_NetOfPaper.f xs p = some w ∧ True := by
  refine ⟨if askR xs p = 0 then (netL xs p.2.2, 0) else (0, askR xs p), ?_, ?_, trivial⟩
  · unfold spec_NetOfPaper.f spec_NetOfPaper.fn spec_NetOfPaper.top
    rw [spec_l29True_f xs p h hp]
    simp only [Option.bind_some]
    by_cases h0 : askR xs p = 0
    · obtain ⟨h1, h2, h3⟩ := askR_zero h0
      rw [if_neg (by rw [h0]; simp), if_pos h0]
      exact spec_net_l xs p.1 p.2.1 p.2.2 (Nat.le_trans h.1 (by omega)) h1 (linesB_ok (paperB_iff h2).2.2).1 h3
    · rw [if_pos (by simpa using h0), if_neg h0]
  · unfold impl_NetOfPaper.f impl_NetOfPaper.fn impl_NetOfPaper.top
    rw [impl_paperAsked_f xs p h hp]
    simp only [Option.bind_some]
    by_cases h0 : askR xs p = 0
    · obtain ⟨h1, h2, h3⟩ := askR_zero h0
      rw [if_neg (by rw [h0]; simp), if_pos h0]
      exact impl_net_l xs p.1 p.2.1 p.2.2 (Nat.le_trans h.1 (by omega)) h1 (linesB_ok (paperB_iff h2).2.2).1 h3
    · rw [if_pos (by simpa using h0), if_neg h0]
end Go.Pl

namespace Go.Pl
open Go.Ev
set_option linter.unusedVariables false
set_option linter.unusedSimpArgs false
def boxB (b : Int × Int) : Bool := inB b.1 1 1000000 && inB b.2 0 3
def boxesB (xs : List (Int × Int)) : Bool := decide (xs.length ≤ 7) && xs.all boxB
theorem impl_AreBoxes_f (xs : List (Int × Int)) (h : xs.length ≤ 1000000) : impl_AreBoxes.f xs = some (boxesB xs) := by
  unfold impl_AreBoxes.f impl_AreBoxes.fn impl_AreBoxes.top boxesB
  by_cases h8 : (7 : Int) < (xs.length : Int)
  · have : ¬ xs.length ≤ 7 := by omega
    simp [h8, this]
  have e8 : xs.length ≤ 7 := by omega
  simp only [h8, e8, and_self, and_true, true_and, decide_true, decide_false, if_true, if_false, mid_get, mid_set, mid_getn, mid_setn, bt_mid, Option.bind_some, Bool.not_true, Bool.not_false, Bool.false_eq_true, Bool.true_eq_false, beq_self_eq_true, bne_self_eq_false, Int.toNat_natCast]
  have := all_loop (E := fun _ => True) boxB (fun _ => some true) (fun k xs i => impl_AreBoxes.l4 NN k xs xs.length i) ?_ ?_ xs (fun _ _ => trivial) (by omega) NN (NN_lt (by omega))
  · refine this.trans ?_
    cases xs.all boxB <;> simp
  · intro k p
    simp [impl_AreBoxes.l4, impl_AreBoxes.g4]
  · intro k p a r _ c0 c1 cw
    simp only [impl_AreBoxes.l4, impl_AreBoxes.g4, c0, c1, cw, and_self, and_true, true_and, decide_true, decide_false, if_true, if_false, mid_get, mid_set, mid_getn, mid_setn, bt_mid, Option.bind_some, Bool.not_true, Bool.not_false, Bool.false_eq_true, Bool.true_eq_false, beq_self_eq_true, bne_self_eq_false, Int.toNat_natCast, impl_within_f, boxB]
    rcases Bool.eq_false_or_eq_true (inB a.1 1 1000000) with q1 | q1 <;> rcases Bool.eq_false_or_eq_true (inB a.2 0 3) with q2 | q2 <;> simp [q1, q2]
theorem spec_AreBoxes_f (xs : List (Int × Int)) (h : xs.length ≤ 1000000) : spec_AreBoxes.f xs = some (boxesB xs) := by
  unfold spec_AreBoxes.f spec_AreBoxes.fn spec_AreBoxes.top boxesB
  have := all_loop (E := fun _ => True) boxB (fun p => some (decide (((p.length : Int) : Int) ≤ 7))) (fun k xs i => spec_AreBoxes.l2 NN k xs i) ?_ ?_ xs (fun _ _ => trivial) (by omega) NN (NN_lt (by omega))
  · refine this.trans ?_
    have e : decide ((xs.length : Int) ≤ 7) = decide (xs.length ≤ 7) := by congr 1; exact propext (by omega)
    cases xs.all boxB <;> simp [e]
  · intro k p
    simp [spec_AreBoxes.l2, spec_AreBoxes.g2]
  · intro k p a r _ c0 c1 cw
    simp only [spec_AreBoxes.l2, spec_AreBoxes.g2, c0, c1, cw, and_self, and_true, true_and, decide_true, decide_false, if_true, if_false, mid_get, mid_set, mid_getn, mid_setn, bt_mid, Option.bind_some, Bool.not_true, Bool.not_false, Bool.false_eq_true, Bool.true_eq_false, beq_self_eq_true, bne_self_eq_false, Int.toNat_natCast, spec_l01In_f, boxB]
    rcases Bool.eq_false_or_eq_true (inB a.1 1 1000000) with q1 | q1 <;> rcases Bool.eq_false_or_eq_true (inB a.2 0 3) with q2 | q2 <;> simp [q1, q2]
def grpA (xs : List Art) (c : ByteArray) : Int := (xs.getD (artI xs c).toNat (ByteArray.empty, (0, (0, (0, (0, (0, (0, (0, 0))))))))).2.2.2.2.2.2.2.2
theorem grpA_bd {xs : List Art} (h : artsB xs = true) {c : ByteArray} (h0 : 0 ≤ artI xs c) : 0 ≤ grpA xs c ∧ grpA xs c ≤ 3 := by
  have hb := artI_bd xs c
  have hm : xs.getD (artI xs c).toNat (ByteArray.empty, (0, (0, (0, (0, (0, (0, (0, 0)))))))) ∈ xs := by
    rw [List.getD_eq_getElem?_getD, List.getElem?_eq_getElem (by omega)]; exact List.getElem_mem _
  exact (artB_iff ((artsB_ok h).2 _ hm)).2.2.2.2
def boxF (xs : List Art) (out : List (Int × Int)) (l : ByteArray × Int) : List (Int × Int) := out ++ [(netA xs l.1 * l.2, grpA xs l.1)]
def boxL (xs : List Art) (ls : List (ByteArray × Int)) : List (Int × Int) := ls.foldl (boxF xs) []
def boxE (out : List (Int × Int)) : List (Int × Int) × Int := if boxesB out = true then (out, 0) else ([], 3)
def BxI (p : List (ByteArray × Int)) (out : List (Int × Int)) : Prop := out.length = p.length ∧ ∀ b ∈ out, OkBox b
theorem room16b {n : Nat} (h : n ≤ 2000000) : n < room 16 := by rw [room16]; omega
noncomputable def impl_box_call (k : Nat) (xs : List Art) (p : ByteArray × Int × List (ByteArray × Int)) (i : Int) (out : List (Int × Int)) := impl_BoxesOf.l6 NN k xs p.2.2 p.2.2.length i out
noncomputable def spec_box_call (k : Nat) (xs : List Art) (p : ByteArray × Int × List (ByteArray × Int)) (i : Int) (out : List (Int × Int)) := spec_BoxesOf.l6 NN k xs i p out
theorem impl_box_l (xs : List Art) (v : ByteArray) (d : Int) (ls : List (ByteArray × Int)) (hx : xs.length ≤ 140737488355328) (h : artsB xs = true) (hl : ls.length ≤ 12) (he : ∀ l ∈ ls, NetE xs l) : BxI ls (boxL xs ls) ∧ impl_box_call NN xs (v, d, ls) 0 [] = some (boxE (boxL xs ls)) := by
  have := fold_fix (E := NetE xs) (fun p out => BxI p out) (fun _ => boxF xs) (fun out => some (boxE out)) (fun k i out => impl_box_call k xs (v, d, ls) i out) ls ?_ ?_ [] he ⟨rfl, by simp⟩ (by omega) NN (NN_lt (by omega))
  · rw [foldi_foldl] at this
    exact this
  · intro k out hI
    have := hI.1
    simp only [impl_box_call, impl_BoxesOf.l6, impl_BoxesOf.g6, Int.lt_irrefl, and_self, and_true, true_and, decide_true, decide_false, if_true, if_false, mid_get, mid_set, mid_getn, mid_setn, bt_mid, Option.bind_some, Bool.not_true, Bool.not_false, Bool.false_eq_true, Bool.true_eq_false, beq_self_eq_true, bne_self_eq_false, Int.toNat_natCast, impl_AreBoxes_f out (by omega)]
    unfold boxE
    cases boxesB out <;> rfl
  · intro k p l r out hls hle hI c0 c1 c2 cw g
    have hb := netF_bd h hle
    have hg := grpA_bd h hle.1
    have hp : p.length ≤ 12 := by omega
    have hol := hI.1
    have w1 := w64 (n := netA xs l.1 * l.2) (by omega) (by omega)
    refine ⟨⟨by unfold boxF; simp; omega, fun b hb' => ?_⟩, ?_⟩
    · unfold boxF at hb'
      rcases List.mem_append.1 hb' with h1 | h1
      · exact hI.2 b h1
      · rw [List.mem_singleton.1 h1]; exact ⟨wf64.2 (by simp only; omega), wf64.2 (by simp only; omega)⟩
    have hbd := artI_bd xs l.1
    have h0 := hle.1
    have e : (xs.getD (artI xs l.1).toNat (ByteArray.empty, (0, (0, (0, (0, (0, (0, (0, 0))))))))).2.2.2.2.2.2.2.1 = netA xs l.1 := rfl
    have e2 : (xs.getD (artI xs l.1).toNat (ByteArray.empty, (0, (0, (0, (0, (0, (0, (0, 0))))))))).2.2.2.2.2.2.2.2 = grpA xs l.1 := rfl
    have hr := room16b (n := out.length + [(netA xs l.1 * l.2, grpA xs l.1)].length) (by simp; omega)
    simp only [impl_box_call, impl_BoxesOf.l6, impl_BoxesOf.g6, c0, c1, cw, g, and_self, and_true, true_and, decide_true, decide_false, if_true, if_false, mid_get, mid_set, mid_getn, mid_setn, bt_mid, Option.bind_some, Bool.not_true, Bool.not_false, Bool.false_eq_true, Bool.true_eq_false, beq_self_eq_true, bne_self_eq_false, Int.toNat_natCast, impl_articleOf_f xs _ hx, h0, hbd, e, e2, w1, hr]
    rfl
theorem spec_box_l (xs : List Art) (v : ByteArray) (d : Int) (ls : List (ByteArray × Int)) (hx : xs.length ≤ 140737488355328) (h : artsB xs = true) (hl : ls.length ≤ 12) (he : ∀ l ∈ ls, NetE xs l) : BxI ls (boxL xs ls) ∧ spec_box_call NN xs (v, d, ls) 0 [] = some (boxE (boxL xs ls)) := by
  have := fold_fix (E := NetE xs) (fun p out => BxI p out) (fun _ => boxF xs) (fun out => some (boxE out)) (fun k i out => spec_box_call k xs (v, d, ls) i out) ls ?_ ?_ [] he ⟨rfl, by simp⟩ (by omega) NN (NN_lt (by omega))
  · rw [foldi_foldl] at this
    exact this
  · intro k out hI
    have := hI.1
    simp only [spec_box_call, spec_BoxesOf.l6, spec_BoxesOf.g6, Int.lt_irrefl, and_self, and_true, true_and, decide_true, decide_false, if_true, if_false, mid_get, mid_set, mid_getn, mid_setn, bt_mid, Option.bind_some, Bool.not_true, Bool.not_false, Bool.false_eq_true, Bool.true_eq_false, beq_self_eq_true, bne_self_eq_false, Int.toNat_natCast, spec_AreBoxes_f out (by omega)]
    unfold boxE
    cases boxesB out <;> rfl
  · intro k p l r out hls hle hI c0 c1 c2 cw g
    have hb := netF_bd h hle
    have hg := grpA_bd h hle.1
    have hp : p.length ≤ 12 := by omega
    have hol := hI.1
    have w1 := w64 (n := netA xs l.1 * l.2) (by omega) (by omega)
    refine ⟨⟨by unfold boxF; simp; omega, fun b hb' => ?_⟩, ?_⟩
    · unfold boxF at hb'
      rcases List.mem_append.1 hb' with h1 | h1
      · exact hI.2 b h1
      · rw [List.mem_singleton.1 h1]; exact ⟨wf64.2 (by simp only; omega), wf64.2 (by simp only; omega)⟩
    have hbd := artI_bd xs l.1
    have h0 := hle.1
    have e : (xs.getD (artI xs l.1).toNat (ByteArray.empty, (0, (0, (0, (0, (0, (0, (0, 0))))))))).2.2.2.2.2.2.2.1 = netA xs l.1 := rfl
    have e2 : (xs.getD (artI xs l.1).toNat (ByteArray.empty, (0, (0, (0, (0, (0, (0, (0, 0))))))))).2.2.2.2.2.2.2.2 = grpA xs l.1 := rfl
    have hr := room16b (n := out.length + [(netA xs l.1 * l.2, grpA xs l.1)].length) (by simp; omega)
    simp only [spec_box_call, spec_BoxesOf.l6, spec_BoxesOf.g6, c0, c1, cw, g, and_self, and_true, true_and, decide_true, decide_false, if_true, if_false, mid_get, mid_set, mid_getn, mid_setn, bt_mid, Option.bind_some, Bool.not_true, Bool.not_false, Bool.false_eq_true, Bool.true_eq_false, beq_self_eq_true, bne_self_eq_false, Int.toNat_natCast, spec_l03Find_f xs _ hx, h0, hbd, e, e2, w1, hr]
    rfl
def bxR (xs : List Art) (p : ByteArray × Int × List (ByteArray × Int)) : List (Int × Int) × Int := if askR xs p = 0 then boxE (boxL xs p.2.2) else ([], askR xs p)
theorem BoxesOf_both (xs : List Art) (p : ByteArray × Int × List (ByteArray × Int)) (h : Lm OkArticle xs) (hp : OkPaper p) : spec_BoxesOf.f xs p = some (bxR xs p) ∧ impl_BoxesOf.f xs p = some (bxR xs p) ∧ Lm OkBox (bxR xs p).1 := by
  have hz : Lm OkBox ([] : List (Int × Int)) := ⟨by simp, by simp⟩
  unfold spec_BoxesOf.f spec_BoxesOf.fn spec_BoxesOf.top impl_BoxesOf.f impl_BoxesOf.fn impl_BoxesOf.top bxR
  rw [spec_l29True_f xs p h hp, impl_paperAsked_f xs p h hp]
  simp only [Option.bind_some]
  by_cases h0 : askR xs p = 0
  · obtain ⟨h1, h2, h3⟩ := askR_zero h0
    have hl := (linesB_ok (paperB_iff h2).2.2).1
    have e1 := spec_box_l xs p.1 p.2.1 p.2.2 (Nat.le_trans h.1 (by omega)) h1 hl h3
    have e2 := impl_box_l xs p.1 p.2.1 p.2.2 (Nat.le_trans h.1 (by omega)) h1 hl h3
    have hb : (askR xs p != 0) = false := by rw [h0]; rfl
    rw [hb]
    simp only [Bool.false_eq_true, if_false, h0, if_true]
    refine ⟨e1.2, e2.2, ?_⟩
    unfold boxE
    split
    · exact ⟨by have := e1.1.1; simp only; omega, e1.1.2⟩
    · exact hz
  · have hb : (askR xs p != 0) = true := by simpa using h0
    rw [hb]
    simp only [h0, if_true, if_false]
    exact ⟨trivial, trivial, hz⟩
theorem BoxesOf_core (xs : List Art) (p : ByteArray × Int × List (ByteArray × Int)) (h : Lm OkArticle xs) (hp : OkPaper p) : ∃ w, spec_BoxesOf.f xs p = some w ∧ impl_BoxesOf.f xs p = some w ∧ Lm OkBox w.1 :=
  ⟨_, (BoxesOf_both xs p h hp).1, (BoxesOf_both xs p h hp).2.1, (BoxesOf_both xs p h hp).2.2⟩
end Go.Pl

namespace Go.Pl
open Go.Ev
set_option linter.unusedVariables false
set_option linter.unusedSimpArgs false
theorem FnExactBoxesOf_true (aList : List (ByteArray × Int × Int × Int × Int × Int × Int × Int × Int)) (aP : ByteArray × Int × (List (ByteArray × Int))) (hyp : Ls PlArticle aList ∧ PlPaper aP) : laws_FnExactBoxesOf.f aList aP = some true := by
  obtain ⟨h_aList, h_aP⟩ := hyp
  unfold laws_FnExactBoxesOf.f laws_FnExactBoxesOf.fn laws_FnExactBoxesOf.top
  obtain ⟨s1, e1, l1, k1⟩ := laws_szArticleS_ok aList 1000000 (by omega) (by omega) h_aList
  simp only [e1, Option.bind_some, decide_eq_true_eq]
  by_cases hn1 : s1 < 0
  · simp [hn1]
  simp only [hn1, if_false]
  obtain ⟨q1, o_aList⟩ := k1 (by omega)
  obtain ⟨s2, e2, l2, k2⟩ := laws_szPaper_ok aP s1 (by omega) (by omega) h_aP
  simp only [e2, Option.bind_some, decide_eq_true_eq]
  by_cases hn2 : s2 < 0
  · simp [hn2]
  simp only [hn2, if_false]
  obtain ⟨q2, o_aP⟩ := k2 (by omega)
  obtain ⟨f0_aList, t_aList, i_aList⟩ := laws_toArticleS_both aList o_aList
  obtain ⟨f0_aP, t_aP, i_aP⟩ := laws_toPaper_both aP o_aP
  obtain ⟨⟨w0, w1⟩, c1, c2, c3⟩ := BoxesOf_core aList aP o_aList o_aP
  have c4 := c3
  have c3_0 : Lm OkBox w0 := c3
  have eq_0 := laws_eqBoxS_self w0 (Nat.le_trans c3_0.1 (by omega))
  obtain ⟨m1, d1, x1, y1, z1, u1⟩ := laws_markArticleS_ok aList o_aList 101 (by omega) (by omega)
  obtain ⟨m2, d2_0, x2, y2, z2, u2⟩ := laws_markPaper_ok aP o_aP m1 (by omega) (by omega)
  have kn : ¬ m2 < 0 := by omega
  obtain ⟨m3, d3, x3, y3, z3, u3⟩ := laws_markBoxS_ok w0 c3_0 101 (by omega) (by omega)
  have n3 : ¬ m3 < 0 := by omega
  simp [t_aList, i_aList, t_aP, i_aP, c1, c2, eq_0, x1, x2, kn, x3, y3, n3]
end Go.Pl
