/- Part 5 of what the law FnExactRunConsole stands on: an evaluator of the model's code, proved sound; the functions as plain texts; their contracts. -/
import Derived.Test.YtijddinlmamclaaGreatChecked
import Derived.Test.YtijddinlmamclaaGreatProg
import Derived.Test.YtijddinlmamclaaGreatRows
import Derived.Below
import Derived.Calls
import Derived.Carry
import Derived.ChangeArms
import Derived.ChangeKeysEq
import Derived.ChangeOld
import Derived.Deep.Quiet
import Derived.KernelRfl
import Derived.Laws.Append
import Derived.Laws.BytesString
import Derived.Laws.MakeOwn
import Derived.Laws.Strings
import Derived.Laws.StructEq
import Derived.OpenShut
import Derived.OrdersHeld
import Derived.ProofKit
import Derived.ShutString
import Derived.SizedLaws
import Derived.Tactics
import Derived.WalkKit
import Derived.WideShapes
import Derived.Test.YtijddinlmamclaaGreatEvExactRunConsole4
namespace Go.Pl
open Go.Ev
set_option linter.unusedVariables false
set_option linter.unusedSimpArgs false
noncomputable def cmdW : List ByteArray → Option (List ByteArray × List Int)
  | [] => none
  | w0 :: ws => match shpL w0 with
    | some l => if ws.length = l.length then prs l ws else none
    | none => none
def wErr : ByteArray := ⟨#[101, 114, 114, 111, 114, 32]⟩
def wOk : ByteArray := ⟨#[111, 107]⟩
def errT (e : Int) : ByteArray := wErr ++ decB e
def finR (d d' : Dsk) (o : ByteArray) (e : Int) : Dsk × ByteArray := if e = 0 then (d', o) else (d, errT e)
theorem wErr_size : wErr.size = 6 := by decide
theorem errT_size {e : Int} (h : 0 ≤ e ∧ e ≤ 20) : (errT e).size ≤ 26 := by
  have := decB_size (n := e) (by omega) (by omega)
  have := wErr_size
  unfold errT
  rw [ByteArray.size_append]; omega
theorem err_fit {e : Int} (h : 0 ≤ e ∧ e ≤ 20) : (⟨#[101, 114, 114, 111, 114, 32]⟩ : ByteArray).size + (decB e).size ≤ 9223372036854775807 := by
  have := decB_size (n := e) (by omega) (by omega)
  have h2 : (⟨#[101, 114, 114, 111, 114, 32]⟩ : ByteArray).size = 6 := by decide
  omega
theorem run_tail {d d' : Dsk} {o : ByteArray} {e : Int} (he : 0 ≤ e ∧ e ≤ 20) : (if (e != 0) = true then (spec_l01Dec.f e).bind fun r4 => if (⟨#[101, 114, 114, 111, 114, 32]⟩ : ByteArray).size + r4.size ≤ 9223372036854775807 then some (d, (⟨#[101, 114, 114, 111, 114, 32]⟩ : ByteArray) ++ r4) else none else some (d', o)) = some (finR d d' o e) := by
  unfold finR
  by_cases h : e = 0
  · subst h; rfl
  · rw [if_pos (by simpa using h), if_neg h, spec_l01Dec_f (by omega) (by omega), Option.bind_some, if_pos (err_fit he)]; rfl
theorem bind_eq {α β : Type} {x : Option α} {v : α} {f : α → Option β} {r : Option β} (h : x = some v) (h2 : f v = r) : x.bind f = r := by subst h; exact h2
theorem run_set {d d' : Dsk} {line w0 : ByteArray} {ws : List ByteArray} {n : List Int} {e : Int} (hp : spec_l34Parse.f line = some (w0 :: ws, (n, true))) (hw : w0 = wPeople ∨ w0 = wSignal ∨ w0 = wBook ∨ w0 = wSettle) (h : spec_l34Set.f d (w0 :: ws) n = some (d', e)) (he : 0 ≤ e ∧ e ≤ 20) : spec_l34Run.f d line = some (finR d d' wOk e) := by
  have hr := run_tail (d := d) (d' := d') (o := wOk) he
  have c0 : (0 : Int) ≤ 0 ∧ (0 : Int) < ((w0 :: ws).length : Int) := ⟨by omega, by simp⟩
  have g0 : (w0 :: ws).getD (0 : Int).toNat ByteArray.empty = w0 := rfl
  unfold spec_l34Run.f spec_l34Run.fn spec_l34Run.top
  rw [hp, Option.bind_some]
  simp only [Bool.not_true, Bool.false_eq_true, if_false]
  rw [if_pos c0]
  simp only [g0]
  rcases hw with rfl | rfl | rfl | rfl
  · rw [if_pos (by decide +kernel), if_pos (by decide +kernel), h]; exact hr
  · rw [if_neg (by decide +kernel), if_pos (by decide +kernel), if_pos (by decide +kernel), h]; exact hr
  · rw [if_neg (by decide +kernel), if_neg (by decide +kernel), if_pos (by decide +kernel), if_pos (by decide +kernel), h]; exact hr
  · rw [if_neg (by decide +kernel), if_neg (by decide +kernel), if_neg (by decide +kernel), if_pos (by decide +kernel), h]; exact hr
theorem run_ask {d : Dsk} {line w0 : ByteArray} {ws : List ByteArray} {n : List Int} {o : ByteArray} {e : Int} (hp : spec_l34Parse.f line = some (w0 :: ws, (n, true))) (hw : w0 = wClear ∨ w0 = wState ∨ w0 = wFire ∨ w0 = wTop ∨ w0 = wTime ∨ w0 = wLeft ∨ w0 = wOpen ∨ w0 = wNeed) (h : spec_l34Ask.f d (w0 :: ws) n = some (o, e)) (he : 0 ≤ e ∧ e ≤ 20) : spec_l34Run.f d line = some (finR d d o e) := by
  have hr := run_tail (d := d) (d' := d) (o := o) he
  have c0 : (0 : Int) ≤ 0 ∧ (0 : Int) < ((w0 :: ws).length : Int) := ⟨by omega, by simp⟩
  have g0 : (w0 :: ws).getD (0 : Int).toNat ByteArray.empty = w0 := rfl
  unfold spec_l34Run.f spec_l34Run.fn spec_l34Run.top
  rw [hp, Option.bind_some]
  simp only [Bool.not_true, Bool.false_eq_true, if_false]
  rw [if_pos c0]
  simp only [g0]
  rcases hw with rfl | rfl | rfl | rfl | rfl | rfl | rfl | rfl <;>
    (rw [if_neg (by decide +kernel), if_neg (by decide +kernel), if_neg (by decide +kernel), if_neg (by decide +kernel), h]; exact hr)
theorem gd0 {α : Type} (a : α) (l : List α) (z : α) : (a :: l).getD (0 : Int).toNat z = a := rfl
theorem gd1 {α : Type} (a b : α) (l : List α) (z : α) : (a :: b :: l).getD (1 : Int).toNat z = b := rfl
theorem gd2 {α : Type} (a b c : α) (l : List α) (z : α) : (a :: b :: c :: l).getD (2 : Int).toNat z = c := rfl
theorem ln0 {α : Type} (a : α) (l : List α) : ((0 : Int) ≤ 0 ∧ (0 : Int) < ((a :: l).length : Int)) = True := eq_true ⟨by omega, by simp⟩
theorem ln1 {α : Type} (a b : α) (l : List α) : ((0 : Int) ≤ 1 ∧ (1 : Int) < ((a :: b :: l).length : Int)) = True := eq_true ⟨by omega, by simp; omega⟩
theorem ln2 {α : Type} (a b c : α) (l : List α) : ((0 : Int) ≤ 2 ∧ (2 : Int) < ((a :: b :: c :: l).length : Int)) = True := eq_true ⟨by omega, by simp; omega⟩
def Exe (d : Dsk) (line : ByteArray) (c : ByteArray × List ByteArray × List Int) : Prop :=
  ∃ (d' : Dsk) (o : ByteArray) (e : Int), impl_execute.f d c = some (d', o, e) ∧ spec_l34Run.f d line = some (finR d d' o e) ∧ (e = 0 → deskB d' = true) ∧ (0 ≤ e ∧ e ≤ 20) ∧ o.size ≤ 10000
theorem desk_iff {d : Dsk} : deskB d = true ↔ movesB d.1 = true ∧ sigsB d.2.1 = true ∧ booksB d.2.2 = true := by
  unfold deskB; simp only [Bool.and_eq_true]
theorem moves_sz {xs : List Mov} (h : movesB xs = true) : xs.length ≤ 1000000 ∧ ∀ m ∈ xs, Sz m.2.1 := by
  obtain ⟨m1, m2, m3⟩ := movesB_iff h
  exact ⟨by omega, fun m hm => Nat.le_trans (wordB_size (movB_iff (m3 m hm)).2.1).2 (by omega)⟩
theorem books_lm' {xs : List Bkg} (h : booksB xs = true) : Lm OkBooking xs := by
  have hv := booksB_val h
  refine ⟨by omega, fun b hb => ?_⟩
  have h1 := valB_count (hv.1 b hb)
  have h2 := hv.1 b hb
  unfold valB at h2
  simp only [Bool.and_eq_true] at h2
  exact ⟨wf64.2 (by omega), Nat.le_trans (wordB_size h2.1.2).2 (by omega), wf64.2 (by omega)⟩
theorem ex_people {d : Dsk} (hd : deskB d = true) {line w1 w2 w3 : ByteArray} {a b : Int} (hz : w1.size ≤ 1000000) (hp : spec_l34Parse.f line = some ([wPeople, w1, w2, w3], ([a, b], true))) : Exe d line (wPeople, ([w1], [a, b])) := by
  obtain ⟨h1, h2, h3⟩ := desk_iff.1 hd
  obtain ⟨s1, s2⟩ := moves_sz h1
  obtain ⟨b1, b2⟩ := AddMove_both d.1 (a, (w1, b)) s1 s2 (Nat.le_trans hz (by omega))
  have hc : ((amR d.1 (a, (w1, b))).2 = 0 → movesB (amR d.1 (a, (w1, b))).1 = true) ∧ 0 ≤ (amR d.1 (a, (w1, b))).2 ∧ (amR d.1 (a, (w1, b))).2 ≤ 20 := by
    unfold amR
    repeat' split
    all_goals simp_all
  refine ⟨((amR d.1 (a, (w1, b))).1, d.2), wOk, (amR d.1 (a, (w1, b))).2, ?_, ?_, fun h => desk_iff.2 ⟨hc.1 h, h2, h3⟩, hc.2, by decide⟩
  · unfold impl_execute.f impl_execute.fn impl_execute.top
    simp only [gd0, gd1, gd2, ln0, ln1, ln2, if_true]
    rw [if_pos (by decide +kernel)]
    exact bind_eq (b2) rfl
  · have hs : spec_l34Set.f d [wPeople, w1, w2, w3] [a, b] = some (if (amR d.1 (a, (w1, b))).2 = 0 then ((amR d.1 (a, (w1, b))).1, d.2) else d, (amR d.1 (a, (w1, b))).2) := by
      unfold spec_l34Set.f spec_l34Set.fn spec_l34Set.top
      simp only [gd0, gd1, gd2, ln0, ln1, ln2, if_true]
      rw [if_pos (by decide +kernel)]
      refine bind_eq (b1) ?_
      try dsimp only
      by_cases h : (amR d.1 (a, (w1, b))).2 = 0
      · rw [if_pos (by simpa using h), if_pos h]
      · rw [if_neg (by simpa using h), if_neg h]
    rw [run_set hp (.inl rfl) hs hc.2]
    unfold finR
    by_cases h : (amR d.1 (a, (w1, b))).2 = 0
    · rw [if_pos h, if_pos h, if_pos h]
    · rw [if_neg h, if_neg h]
theorem ex_clear {d : Dsk} (hd : deskB d = true) {line w1 w2 : ByteArray} {a : Int} (hz : w1.size ≤ 1000000) (hp : spec_l34Parse.f line = some ([wClear, w1, w2], ([a], true))) : Exe d line (wClear, ([w1], [a])) := by
  obtain ⟨h1, h2, h3⟩ := desk_iff.1 hd
  obtain ⟨s1, s2⟩ := moves_sz h1
  obtain ⟨b1, b2⟩ := IsClear_both d.1 w1 a s1 s2 (Nat.le_trans hz (by omega))
  have hc : 0 ≤ (icR d.1 w1 a).2 ∧ (icR d.1 w1 a).2 ≤ 20 := by
    unfold icR
    repeat' split
    all_goals simp
  refine ⟨d, (if (icR d.1 w1 a).1 = true then ⟨#[121, 101, 115]⟩ else ⟨#[110, 111]⟩), (icR d.1 w1 a).2, ?_, ?_, fun _ => hd, hc, by split <;> decide⟩
  · unfold impl_execute.f impl_execute.fn impl_execute.top
    simp only [gd0, gd1, gd2, ln0, ln1, ln2, if_true]
    rw [if_neg (by decide +kernel), if_pos (by decide +kernel)]
    refine bind_eq (b2) ?_
    try dsimp only
    cases (icR d.1 w1 a).1 <;> rfl
  · refine run_ask hp (.inl rfl) ?_ hc
    unfold spec_l34Ask.f spec_l34Ask.fn spec_l34Ask.top
    simp only [gd0, gd1, gd2, ln0, ln1, ln2, if_true]
    rw [if_pos (by decide +kernel)]
    refine bind_eq (b1) ?_
    try dsimp only
    cases (icR d.1 w1 a).1 <;> rfl
theorem ex_signal {d : Dsk} (hd : deskB d = true) {line w1 w2 : ByteArray} {a : Int} (hp : spec_l34Parse.f line = some ([wSignal, w1, w2], ([a], true))) : Exe d line (wSignal, ([w1], [a])) := by
  obtain ⟨h1, h2, h3⟩ := desk_iff.1 hd
  have hs1 := (sigsB_iff h2).1
  obtain ⟨ws, q1, q2, q3⟩ := words_same
  have hb := idxW_bd ws w1
  obtain ⟨b1, b2⟩ := AddSignal_both d.2.1 (a, idxW ws w1) (by omega)
  have hc : ((asR d.2.1 (a, idxW ws w1)).2 = 0 → sigsB (asR d.2.1 (a, idxW ws w1)).1 = true) ∧ 0 ≤ (asR d.2.1 (a, idxW ws w1)).2 ∧ (asR d.2.1 (a, idxW ws w1)).2 ≤ 20 := by
    unfold asR fin5
    repeat' split
    all_goals simp_all
  by_cases hi : idxW ws w1 < 0
  · refine ⟨d, ⟨#[]⟩, 6, ?_, ?_, fun h => absurd h (by decide), by decide, by decide⟩
    · unfold impl_execute.f impl_execute.fn impl_execute.top
      simp only [gd0, gd1, gd2, ln0, ln1, ln2, if_true]
      rw [if_neg (by decide +kernel), if_neg (by decide +kernel), if_pos (by decide +kernel), q1, Option.bind_some]
      refine bind_eq ((impl_wordIndex_f ws w1 (by omega))) ?_
      try dsimp only
      rw [if_pos (decide_eq_true hi)]
    · have hs : spec_l34Set.f d [wSignal, w1, w2] [a] = some (d, 6) := by
        unfold spec_l34Set.f spec_l34Set.fn spec_l34Set.top
        simp only [gd0, gd1, gd2, ln0, ln1, ln2, if_true]
        rw [if_neg (by decide +kernel), if_pos (by decide +kernel), q2, Option.bind_some]
        refine bind_eq ((spec_l34Place_f ws w1 (by omega))) ?_
        try dsimp only
        rw [if_pos (decide_eq_true hi)]
      rw [run_set hp (.inr (.inl rfl)) hs (by decide)]
      unfold finR
      rw [if_neg (by decide), if_neg (by decide)]
  · refine ⟨(d.1, ((asR d.2.1 (a, idxW ws w1)).1, d.2.2)), wOk, (asR d.2.1 (a, idxW ws w1)).2, ?_, ?_, fun h => desk_iff.2 ⟨h1, hc.1 h, h3⟩, hc.2, by decide⟩
    · unfold impl_execute.f impl_execute.fn impl_execute.top
      simp only [gd0, gd1, gd2, ln0, ln1, ln2, if_true]
      rw [if_neg (by decide +kernel), if_neg (by decide +kernel), if_pos (by decide +kernel), q1, Option.bind_some]
      refine bind_eq ((impl_wordIndex_f ws w1 (by omega))) ?_
      try dsimp only
      rw [if_neg (by simpa using hi)]
      exact bind_eq (b2) rfl
    · have hs : spec_l34Set.f d [wSignal, w1, w2] [a] = some (if (asR d.2.1 (a, idxW ws w1)).2 = 0 then (d.1, ((asR d.2.1 (a, idxW ws w1)).1, d.2.2)) else d, (asR d.2.1 (a, idxW ws w1)).2) := by
        unfold spec_l34Set.f spec_l34Set.fn spec_l34Set.top
        simp only [gd0, gd1, gd2, ln0, ln1, ln2, if_true]
        rw [if_neg (by decide +kernel), if_pos (by decide +kernel), q2, Option.bind_some]
        refine bind_eq ((spec_l34Place_f ws w1 (by omega))) ?_
        try dsimp only
        rw [if_neg (by simpa using hi)]
        refine bind_eq (b1) ?_
        try dsimp only
        by_cases h : (asR d.2.1 (a, idxW ws w1)).2 = 0
        · rw [if_pos (by simpa using h), if_pos h]
        · rw [if_neg (by simpa using h), if_neg h]
      rw [run_set hp (.inr (.inl rfl)) hs hc.2]
      unfold finR
      by_cases h : (asR d.2.1 (a, idxW ws w1)).2 = 0
      · rw [if_pos h, if_pos h, if_pos h]
      · rw [if_neg h, if_neg h]
theorem ex_state {d : Dsk} (hd : deskB d = true) {line w1 : ByteArray} {a : Int} (hp : spec_l34Parse.f line = some ([wState, w1], ([a], true))) : Exe d line (wState, ([], [a])) := by
  obtain ⟨h1, h2, h3⟩ := desk_iff.1 hd
  have hs1 := (sigsB_iff h2).1
  obtain ⟨b1, b2⟩ := ControllerAt_both d.2.1 a (by omega)
  have hc : 0 ≤ (caR d.2.1 a).2 ∧ (caR d.2.1 a).2 ≤ 20 := by
    unfold caR
    repeat' split
    all_goals simp
  refine ⟨d, sttW (caR d.2.1 a).1, (caR d.2.1 a).2, ?_, ?_, fun _ => hd, hc, Nat.le_trans (sttW_size _) (by omega)⟩
  · unfold impl_execute.f impl_execute.fn impl_execute.top
    simp only [gd0, gd1, gd2, ln0, ln1, ln2, if_true]
    rw [if_neg (by decide +kernel), if_neg (by decide +kernel), if_neg (by decide +kernel), if_pos (by decide +kernel)]
    refine bind_eq (b2) ?_
    try dsimp only
    rw [impl_stateWord_f]; rfl
  · refine run_ask hp (.inr (.inl rfl)) ?_ hc
    unfold spec_l34Ask.f spec_l34Ask.fn spec_l34Ask.top
    simp only [gd0, gd1, gd2, ln0, ln1, ln2, if_true]
    rw [if_neg (by decide +kernel), if_pos (by decide +kernel)]
    exact bind_eq ((spec_l34State_f d a (by omega))) rfl
theorem ex_fire {d : Dsk} (hd : deskB d = true) {line w1 : ByteArray} {a : Int} (hp : spec_l34Parse.f line = some ([wFire, w1], ([a], true))) : Exe d line (wFire, ([], [a])) := by
  obtain ⟨h1, h2, h3⟩ := desk_iff.1 hd
  have hv := firV_bd d a
  have hc : 0 ≤ (firV d a).2 ∧ (firV d a).2 ≤ 20 := by rcases hv.1 with h | h <;> omega
  refine ⟨d, (firV d a).1, (firV d a).2, ?_, ?_, fun _ => hd, hc, by omega⟩
  · unfold impl_execute.f impl_execute.fn impl_execute.top
    simp only [gd0, gd1, gd2, ln0, ln1, ln2, if_true]
    rw [if_neg (by decide +kernel), if_neg (by decide +kernel), if_neg (by decide +kernel), if_neg (by decide +kernel), if_pos (by decide +kernel)]
    exact impl_fire_l h1 h2 a (wFire, ([], [a])) rfl d.1 [] [] NN rfl zi_nil rfl (NN_lt (by have := (movesB_iff h1).1; omega))
  · refine run_ask hp (.inr (.inr (.inl rfl))) ?_ hc
    unfold spec_l34Ask.f spec_l34Ask.fn spec_l34Ask.top
    simp only [gd0, gd1, gd2, ln0, ln1, ln2, if_true]
    rw [if_neg (by decide +kernel), if_neg (by decide +kernel), if_pos (by decide +kernel)]
    exact bind_eq ((spec_l34Fire_f h1 h2 a)) rfl
end Go.Pl

namespace Go.Pl
open Go.Ev
set_option linter.unusedVariables false
set_option linter.unusedSimpArgs false
theorem dec_both {n : Int} (h0 : 0 ≤ n) (h : n ≤ 1000000000000000) : impl_decimal.f n = some (decB n) ∧ spec_l01Dec.f n = some (decB n) ∧ (decB n).size ≤ 20 := ⟨impl_decimal_f (by omega) (by omega), spec_l01Dec_f h0 (by omega), decB_size (by omega) (by omega)⟩
def bookW : List ByteArray := [(⟨#[105, 110]⟩ : ByteArray), (⟨#[102, 105, 114, 101, 100]⟩ : ByteArray), (⟨#[114, 101, 116, 117, 114, 110, 101, 100]⟩ : ByteArray), (⟨#[100, 101, 115, 116, 114, 111, 121, 101, 100]⟩ : ByteArray)]
theorem ex_book {d : Dsk} (hd : deskB d = true) {line w1 w2 w3 : ByteArray} {a : Int} (hz : w2.size ≤ 1000000) (ha : -10000000000000 ≤ a ∧ a ≤ 10000000000000) (hp : spec_l34Parse.f line = some ([wBook, w1, w2, w3], ([a], true))) : Exe d line (wBook, ([w1, w2], [a])) := by
  obtain ⟨h1, h2, h3⟩ := desk_iff.1 hd
  have hl := (booksB_val h3).2
  have hb := idxW_bd bookW w1
  have hbl : bookW.length = 4 := rfl
  have p1 := impl_wordIndex_f bookW w1 (by rw [hbl]; omega)
  have p2 := spec_l34Place_f bookW w1 (by rw [hbl]; omega)
  by_cases hi : idxW bookW w1 < 0
  · refine ⟨d, ⟨#[]⟩, 6, ?_, ?_, fun h => absurd h (by decide), by decide, by decide⟩
    · unfold impl_execute.f impl_execute.fn impl_execute.top
      simp only [gd0, gd1, gd2, ln0, ln1, ln2, if_true]
      rw [if_neg (by decide +kernel), if_neg (by decide +kernel), if_neg (by decide +kernel), if_neg (by decide +kernel), if_neg (by decide +kernel), if_pos (by decide +kernel)]
      refine bind_eq p1 ?_
      try dsimp only
      rw [if_pos (decide_eq_true hi)]
    · have hs : spec_l34Set.f d [wBook, w1, w2, w3] [a] = some (d, 6) := by
        unfold spec_l34Set.f spec_l34Set.fn spec_l34Set.top
        simp only [gd0, gd1, gd2, ln0, ln1, ln2, if_true]
        rw [if_neg (by decide +kernel), if_neg (by decide +kernel), if_pos (by decide +kernel)]
        refine bind_eq p2 ?_
        try dsimp only
        rw [if_pos (decide_eq_true hi)]
      rw [run_set hp (.inr (.inr (.inl rfl))) hs (by decide)]
      unfold finR
      rw [if_neg (by decide), if_neg (by decide)]
  · have hok : OkBooking (idxW bookW w1, (w2, a)) := ⟨wf64.2 (by simp only; omega), hz, wf64.2 (by simp only; omega)⟩
    have hlm := books_lm' h3
    have b1 := spec_BookPieces_f d.2.2 (idxW bookW w1, (w2, a)) hlm hok
    have b2 := impl_BookPieces_f d.2.2 (idxW bookW w1, (w2, a)) hlm hok
    have hc : ((bookR d.2.2 (idxW bookW w1, (w2, a))).2 = 0 → booksB (bookR d.2.2 (idxW bookW w1, (w2, a))).1 = true) ∧ 0 ≤ (bookR d.2.2 (idxW bookW w1, (w2, a))).2 ∧ (bookR d.2.2 (idxW bookW w1, (w2, a))).2 ≤ 20 := by
      unfold bookR
      repeat' split
      all_goals simp_all
    generalize bookR d.2.2 (idxW bookW w1, (w2, a)) = R at *
    refine ⟨(d.1, (d.2.1, R.1)), wOk, R.2, ?_, ?_, fun h => desk_iff.2 ⟨h1, h2, hc.1 h⟩, hc.2, by decide⟩
    · unfold impl_execute.f impl_execute.fn impl_execute.top
      simp only [gd0, gd1, gd2, ln0, ln1, ln2, if_true]
      rw [if_neg (by decide +kernel), if_neg (by decide +kernel), if_neg (by decide +kernel), if_neg (by decide +kernel), if_neg (by decide +kernel), if_pos (by decide +kernel)]
      refine bind_eq p1 ?_
      try dsimp only
      rw [if_neg (by simpa using hi)]
      exact bind_eq b2 rfl
    · have hs : spec_l34Set.f d [wBook, w1, w2, w3] [a] = some (if R.2 = 0 then (d.1, (d.2.1, R.1)) else d, R.2) := by
        unfold spec_l34Set.f spec_l34Set.fn spec_l34Set.top
        simp only [gd0, gd1, gd2, ln0, ln1, ln2, if_true]
        rw [if_neg (by decide +kernel), if_neg (by decide +kernel), if_pos (by decide +kernel)]
        refine bind_eq p2 ?_
        try dsimp only
        rw [if_neg (by simpa using hi)]
        refine bind_eq b1 ?_
        try dsimp only
        by_cases h : R.2 = 0
        · rw [if_pos (by simpa using h), if_pos h]
        · rw [if_neg (by simpa using h), if_neg h]
      rw [run_set hp (.inr (.inr (.inl rfl))) hs hc.2]
      unfold finR
      by_cases h : R.2 = 0
      · rw [if_pos h, if_pos h, if_pos h]
      · rw [if_neg h, if_neg h]
theorem ex_settle {d : Dsk} (hd : deskB d = true) {line w1 : ByteArray} {a : Int} (hp : spec_l34Parse.f line = some ([wSettle, w1], ([a], true))) : Exe d line (wSettle, ([], [a])) := by
  obtain ⟨h1, h2, h3⟩ := desk_iff.1 hd
  obtain ⟨b1, b2⟩ := SettleAll_both d.2.2 a (books_lm' h3)
  have hc : ((stlR d.2.2 a).2 = 0 → booksB (stlR d.2.2 a).1 = true) ∧ 0 ≤ (stlR d.2.2 a).2 ∧ (stlR d.2.2 a).2 ≤ 20 := by
    unfold stlR limS
    repeat' split
    all_goals simp_all
  generalize stlR d.2.2 a = R at *
  refine ⟨(d.1, (d.2.1, R.1)), wOk, R.2, ?_, ?_, fun h => desk_iff.2 ⟨h1, h2, hc.1 h⟩, hc.2, by decide⟩
  · unfold impl_execute.f impl_execute.fn impl_execute.top
    simp only [gd0, gd1, gd2, ln0, ln1, ln2, if_true]
    rw [if_neg (by decide +kernel), if_neg (by decide +kernel), if_neg (by decide +kernel), if_neg (by decide +kernel), if_neg (by decide +kernel), if_neg (by decide +kernel), if_neg (by decide +kernel), if_neg (by decide +kernel), if_pos (by decide +kernel)]
    exact bind_eq b2 rfl
  · have hs : spec_l34Set.f d [wSettle, w1] [a] = some (if R.2 = 0 then (d.1, (d.2.1, R.1)) else d, R.2) := by
      unfold spec_l34Set.f spec_l34Set.fn spec_l34Set.top
      simp only [gd0, gd1, gd2, ln0, ln1, ln2, if_true]
      rw [if_neg (by decide +kernel), if_neg (by decide +kernel), if_neg (by decide +kernel)]
      refine bind_eq b1 ?_
      try dsimp only
      by_cases h : R.2 = 0
      · rw [if_pos (by simpa using h), if_pos h]
      · rw [if_neg (by simpa using h), if_neg h]
    rw [run_set hp (.inr (.inr (.inr rfl))) hs hc.2]
    unfold finR
    by_cases h : R.2 = 0
    · rw [if_pos h, if_pos h, if_pos h]
    · rw [if_neg h, if_neg h]
theorem ex_left {d : Dsk} (hd : deskB d = true) {line w1 : ByteArray} (hz : w1.size ≤ 1000000) (hp : spec_l34Parse.f line = some ([wLeft, w1], ([], true))) : Exe d line (wLeft, ([w1], [])) := by
  obtain ⟨h1, h2, h3⟩ := desk_iff.1 hd
  obtain ⟨b1, b2⟩ := PiecesLeft_both d.2.2 w1 (books_lm' h3) hz
  have hv := booksB_val h3
  have hle := leftOf_le w1 d.2.2 hv.1
  have h0 := (most_bd d.2.2 w1 h3).1
  have hc : (0 ≤ (leftR d.2.2 w1).1 ∧ (leftR d.2.2 w1).1 ≤ 1000000) ∧ 0 ≤ (leftR d.2.2 w1).2 ∧ (leftR d.2.2 w1).2 ≤ 20 := by
    unfold leftR
    split <;> simp only <;> omega
  generalize leftR d.2.2 w1 = R at *
  obtain ⟨d1, d2, d3⟩ := dec_both (n := R.1) hc.1.1 (by omega)
  refine ⟨d, decB R.1, R.2, ?_, ?_, fun _ => hd, hc.2, by omega⟩
  · unfold impl_execute.f impl_execute.fn impl_execute.top
    simp only [gd0, gd1, gd2, ln0, ln1, ln2, if_true]
    rw [if_neg (by decide +kernel), if_neg (by decide +kernel), if_neg (by decide +kernel), if_neg (by decide +kernel), if_neg (by decide +kernel), if_neg (by decide +kernel), if_pos (by decide +kernel)]
    exact bind_eq b2 (bind_eq d1 rfl)
  · refine run_ask hp (.inr (.inr (.inr (.inr (.inr (.inl rfl)))))) ?_ hc.2
    unfold spec_l34Ask.f spec_l34Ask.fn spec_l34Ask.top
    simp only [gd0, gd1, gd2, ln0, ln1, ln2, if_true]
    rw [if_neg (by decide +kernel), if_neg (by decide +kernel), if_neg (by decide +kernel), if_pos (by decide +kernel)]
    exact bind_eq b1 (bind_eq d2 rfl)
theorem lf0 {α : Type} : ((0 : Int) ≤ 0 ∧ (0 : Int) < (([] : List α).length : Int)) = False := eq_false (fun h => by simp at h)
theorem lf1 {α : Type} : ((0 : Int) ≤ 1 ∧ (1 : Int) < (([] : List α).length : Int)) = False := eq_false (fun h => by simp at h)
theorem lf2 {α : Type} (a : α) : ((0 : Int) ≤ 1 ∧ (1 : Int) < (([a] : List α).length : Int)) = False := eq_false (fun h => by simp at h)
theorem ex_open {d : Dsk} (hd : deskB d = true) {line : ByteArray} (hp : spec_l34Parse.f line = some ([wOpen], ([], true))) : Exe d line (wOpen, ([], [])) := by
  obtain ⟨h1, h2, h3⟩ := desk_iff.1 hd
  have hv := booksB_val h3
  obtain ⟨o1, b2, b1⟩ := open_both d.2.2 hv.1 (by omega)
  have hw : ∀ w ∈ openL d.2.2, w.size ≤ 16 := fun w hw => by
    obtain ⟨⟨b, hb, e⟩, _⟩ := (o1.mem w).1 hw
    have := hv.1 b hb
    unfold valB at this
    simp only [Bool.and_eq_true] at this
    rw [← e]; exact (wordB_size this.1.2).2
  have hln := o1.len
  generalize openL d.2.2 = L at *
  by_cases hL : L = []
  · subst hL
    refine ⟨d, ⟨#[45]⟩, 0, ?_, ?_, fun _ => hd, by decide, by decide⟩
    · unfold impl_execute.f impl_execute.fn impl_execute.top
      simp only [gd0, gd1, gd2, ln0, ln1, ln2, lf0, lf1, lf2, if_true, if_false]
      rw [if_neg (by decide +kernel), if_neg (by decide +kernel), if_neg (by decide +kernel), if_neg (by decide +kernel), if_neg (by decide +kernel), if_neg (by decide +kernel), if_neg (by decide +kernel), if_pos (by decide +kernel)]
      exact bind_eq b2 rfl
    · refine run_ask hp (.inr (.inr (.inr (.inr (.inr (.inr (.inl rfl))))))) ?_ (by decide)
      unfold spec_l34Ask.f spec_l34Ask.fn spec_l34Ask.top
      simp only [gd0, gd1, gd2, ln0, ln1, ln2, lf0, lf1, lf2, if_true, if_false]
      rw [if_neg (by decide +kernel), if_neg (by decide +kernel), if_neg (by decide +kernel), if_neg (by decide +kernel), if_pos (by decide +kernel)]
      exact bind_eq b1 rfl
  · have hne : ((L.length : Int) == 0) = false := by
      rw [len0]; simpa using hL
    have hcs : (⟨#[44]⟩ : ByteArray).size = 1 := by decide
    have j1 := impl_joinWith_f L (⟨#[44]⟩ : ByteArray) (fun s hs => by have := hw s hs; omega) (by omega) (by omega)
    have j2 := spec_l01Words_f L (⟨#[44]⟩ : ByteArray) (fun s hs => by have := hw s hs; omega) (by omega) (by omega)
    have hsz : (joinB (⟨#[44]⟩ : ByteArray) L).size ≤ 10000 := by
      have := joinF_size (⟨#[44]⟩ : ByteArray) (by omega) L 0 (⟨#[]⟩ : ByteArray) hw
      have e0 : (⟨#[]⟩ : ByteArray).size = 0 := by decide
      unfold joinB; omega
    refine ⟨d, joinB (⟨#[44]⟩ : ByteArray) L, 0, ?_, ?_, fun _ => hd, by decide, hsz⟩
    · unfold impl_execute.f impl_execute.fn impl_execute.top
      simp only [gd0, gd1, gd2, ln0, ln1, ln2, lf0, lf1, lf2, if_true, if_false]
      rw [if_neg (by decide +kernel), if_neg (by decide +kernel), if_neg (by decide +kernel), if_neg (by decide +kernel), if_neg (by decide +kernel), if_neg (by decide +kernel), if_neg (by decide +kernel), if_pos (by decide +kernel)]
      refine bind_eq b2 ?_
      try dsimp only
      rw [hne, if_neg (by simp)]
      exact bind_eq j1.1 rfl
    · refine run_ask hp (.inr (.inr (.inr (.inr (.inr (.inr (.inl rfl))))))) ?_ (by decide)
      unfold spec_l34Ask.f spec_l34Ask.fn spec_l34Ask.top
      simp only [gd0, gd1, gd2, ln0, ln1, ln2, lf0, lf1, lf2, if_true, if_false]
      rw [if_neg (by decide +kernel), if_neg (by decide +kernel), if_neg (by decide +kernel), if_neg (by decide +kernel), if_pos (by decide +kernel)]
      refine bind_eq b1 ?_
      try dsimp only
      rw [hne, if_neg (by simp)]
      exact bind_eq j2.1 rfl
theorem ex_top {d : Dsk} (hd : deskB d = true) {line w1 : ByteArray} {a : Int} (hp : spec_l34Parse.f line = some ([wTop, w1], ([a], true))) : Exe d line (wTop, ([], [a])) := by
  obtain ⟨b1, b2, b3, b4, b5⟩ := TopOf_both a
  have hc : 0 ≤ (topR a).2.2 ∧ (topR a).2.2 ≤ 20 := by
    have : (topR a).2.2 = 0 ∨ (topR a).2.2 = 2 := by
      have h := b2
      unfold impl_TopOf.f impl_TopOf.fn impl_TopOf.top impl_isUp.f impl_isUp.fn impl_isUp.top at h
      rw [impl_within_f] at h
      cases hu : inB a 0 200000
      · rw [hu] at h
        have := Option.some.inj h
        rw [← this]; exact .inr rfl
      · rw [hu] at h
        simp only [Option.bind_some, Bool.not_true, Bool.false_eq_true, if_false] at h
        cases ht : impl_topOf.f a with
        | none => rw [ht] at h; cases h
        | some y =>
          rw [ht] at h
          have := Option.some.inj h
          rw [← this]; exact .inl rfl
    omega
  obtain ⟨d1, d2, d3⟩ := dec_both (n := (topR a).1) b3.1 (by omega)
  obtain ⟨f1, f2, f3⟩ := dec_both (n := (topR a).2.1) b4 (by omega)
  have e1 : (⟨#[32]⟩ : ByteArray).size = 1 := by decide
  generalize topR a = R at *
  have q1 : (decB R.1).size + (⟨#[32]⟩ : ByteArray).size ≤ 9223372036854775807 := by omega
  have q2 : (decB R.1 ++ (⟨#[32]⟩ : ByteArray)).size + (decB R.2.1).size ≤ 9223372036854775807 := by rw [ByteArray.size_append]; omega
  refine ⟨d, (decB R.1 ++ (⟨#[32]⟩ : ByteArray)) ++ decB R.2.1, R.2.2, ?_, ?_, fun _ => hd, hc, by rw [ByteArray.size_append, ByteArray.size_append]; omega⟩
  · unfold impl_execute.f impl_execute.fn impl_execute.top
    simp only [gd0, gd1, gd2, ln0, ln1, ln2, if_true]
    rw [if_neg (by decide +kernel), if_neg (by decide +kernel), if_neg (by decide +kernel), if_neg (by decide +kernel), if_neg (by decide +kernel), if_neg (by decide +kernel), if_neg (by decide +kernel), if_neg (by decide +kernel), if_neg (by decide +kernel), if_pos (by decide +kernel)]
    refine bind_eq b2 (bind_eq d1 ?_)
    try dsimp only
    rw [if_pos q1]
    refine bind_eq f1 ?_
    try dsimp only
    rw [if_pos q2]
  · refine run_ask hp (.inr (.inr (.inr (.inl rfl)))) ?_ hc
    unfold spec_l34Ask.f spec_l34Ask.fn spec_l34Ask.top
    simp only [gd0, gd1, gd2, ln0, ln1, ln2, if_true]
    rw [if_neg (by decide +kernel), if_neg (by decide +kernel), if_neg (by decide +kernel), if_neg (by decide +kernel), if_neg (by decide +kernel), if_pos (by decide +kernel)]
    refine bind_eq b1 (bind_eq d2 ?_)
    try dsimp only
    rw [if_pos q1]
    refine bind_eq f2 ?_
    try dsimp only
    rw [if_pos q2]
theorem ex_need {d : Dsk} (hd : deskB d = true) {line w1 w2 : ByteArray} {a b : Int} (hp : spec_l34Parse.f line = some ([wNeed, w1, w2], ([a, b], true))) : Exe d line (wNeed, ([], [a, b])) := by
  obtain ⟨b1, b2, b3, b4⟩ := SeparationFor_both a b
  have hc : 0 ≤ (sepR a b).2 ∧ (sepR a b).2 ≤ 20 := by
    have : (sepR a b).2 = 0 ∨ (sepR a b).2 = 2 := by
      have h := b2
      unfold impl_SeparationFor.f impl_SeparationFor.fn impl_SeparationFor.top impl_isFactor.f impl_isFactor.fn impl_isFactor.top impl_areGrams.f impl_areGrams.fn impl_areGrams.top at h
      rw [impl_within_f, impl_within_f] at h
      cases hu : inB a 0 500
      · rw [hu] at h
        have := Option.some.inj h
        rw [← this]; exact .inr rfl
      · cases hv : inB b 0 100000000
        · rw [hu, hv] at h
          have := Option.some.inj h
          rw [← this]; exact .inr rfl
        · rw [hu, hv] at h
          simp only [Option.bind_some, Bool.not_true, Bool.false_eq_true, if_false, if_true] at h
          cases ht : impl_separation.f a b with
          | none => rw [ht] at h; cases h
          | some y =>
            rw [ht] at h
            have := Option.some.inj h
            rw [← this]; exact .inl rfl
    omega
  obtain ⟨d1, d2, d3⟩ := dec_both (n := (sepR a b).1) b3 (by omega)
  generalize sepR a b = R at *
  refine ⟨d, decB R.1, R.2, ?_, ?_, fun _ => hd, hc, by omega⟩
  · unfold impl_execute.f impl_execute.fn impl_execute.top
    simp only [gd0, gd1, gd2, ln0, ln1, ln2, if_true]
    rw [if_neg (by decide +kernel), if_neg (by decide +kernel), if_neg (by decide +kernel), if_neg (by decide +kernel), if_neg (by decide +kernel), if_neg (by decide +kernel), if_neg (by decide +kernel), if_neg (by decide +kernel), if_neg (by decide +kernel), if_neg (by decide +kernel), if_pos (by decide +kernel)]
    exact bind_eq b2 (bind_eq d1 rfl)
  · refine run_ask hp (.inr (.inr (.inr (.inr (.inr (.inr (.inr rfl))))))) ?_ hc
    unfold spec_l34Ask.f spec_l34Ask.fn spec_l34Ask.top
    simp only [gd0, gd1, gd2, ln0, ln1, ln2, if_true]
    rw [if_neg (by decide +kernel), if_neg (by decide +kernel), if_neg (by decide +kernel), if_neg (by decide +kernel), if_neg (by decide +kernel), if_neg (by decide +kernel), if_pos (by decide +kernel)]
    exact bind_eq b1 (bind_eq d2 rfl)
theorem ex_time {d : Dsk} (hd : deskB d = true) {line w1 : ByteArray} {a : Int} (hp : spec_l34Parse.f line = some ([wTime, w1], ([a], true))) : Exe d line (wTime, ([], [a])) := by
  obtain ⟨b1, b2, b3⟩ := TimeText_both a
  have hc : 0 ≤ (ttR a).2 ∧ (ttR a).2 ≤ 20 := by
    have : (ttR a).2 = 0 ∨ (ttR a).2 = 2 := by
      have h := b2
      unfold impl_TimeText.f impl_TimeText.fn impl_TimeText.top at h
      rw [impl_isTime_f] at h
      cases hu : inB a 0 10000000
      · rw [hu] at h
        have := Option.some.inj h
        rw [← this]; exact .inr rfl
      · rw [hu] at h
        simp only [Option.bind_some, Bool.not_true, Bool.false_eq_true, if_false] at h
        cases ht : impl_timeText.f a with
        | none => rw [ht] at h; cases h
        | some y =>
          rw [ht] at h
          have := Option.some.inj h
          rw [← this]; exact .inl rfl
    omega
  generalize ttR a = R at *
  refine ⟨d, R.1, R.2, ?_, ?_, fun _ => hd, hc, by omega⟩
  · unfold impl_execute.f impl_execute.fn impl_execute.top
    simp only [gd0, gd1, gd2, ln0, ln1, ln2, if_true]
    rw [if_neg (by decide +kernel), if_neg (by decide +kernel), if_neg (by decide +kernel), if_neg (by decide +kernel), if_neg (by decide +kernel), if_neg (by decide +kernel), if_neg (by decide +kernel), if_neg (by decide +kernel), if_neg (by decide +kernel), if_neg (by decide +kernel), if_neg (by decide +kernel)]
    exact bind_eq b2 rfl
  · refine run_ask hp (.inr (.inr (.inr (.inr (.inl rfl))))) ?_ hc
    unfold spec_l34Ask.f spec_l34Ask.fn spec_l34Ask.top
    simp only [gd0, gd1, gd2, ln0, ln1, ln2, if_true]
    rw [if_neg (by decide +kernel), if_neg (by decide +kernel), if_neg (by decide +kernel), if_neg (by decide +kernel), if_neg (by decide +kernel), if_neg (by decide +kernel), if_neg (by decide +kernel)]
    exact bind_eq b1 rfl
end Go.Pl

namespace Go.Pl
open Go.Ev
set_option linter.unusedVariables false
noncomputable section
def impl_DeskAfter.top (p : ByteArray) : Option (YF × Int) :=
 (impl_runLines.f p).bind fun r1 =>
 some (r1.2.1, r1.2.2)
def impl_DeskAfter.fn (n : Nat) (p : ByteArray) : Option (YF × Int) := impl_DeskAfter.top p
def impl_DeskAfter.f (p : ByteArray) : Option (YF × Int) := impl_DeskAfter.fn NN p
end
end Go.Pl

namespace Go.Pl
open Go.Ev
set_option linter.unusedVariables false
noncomputable section
def spec_DeskAfter.top (p : ByteArray) : Option (YF × Int) :=
 (spec_l34Fits.f p).bind fun r1 =>
 if (!r1) = true then
 some (([], ([], [])), 3)
 else
 (spec_l34Lines.f p).bind fun r2 =>
 (spec_l34All.f r2).bind fun r3 =>
 some (r3.1, 0)
def spec_DeskAfter.fn (n : Nat) (p : ByteArray) : Option (YF × Int) := spec_DeskAfter.top p
def spec_DeskAfter.f (p : ByteArray) : Option (YF × Int) := spec_DeskAfter.fn NN p
end
end Go.Pl

namespace Go.Pl
open Go.Ev
set_option linter.unusedVariables false
set_option linter.unusedSimpArgs false
def spW (line : ByteArray) : List ByteArray := (splitL 32 (bl line)).map ob
theorem spW_cons (line : ByteArray) : ∃ w0 ws, spW line = w0 :: ws := by
  unfold spW
  cases h : splitL 32 (bl line) with
  | nil => exact absurd h (splitL_ne _ _)
  | cons a r => exact ⟨ob a, r.map ob, rfl⟩
theorem spW_size (line : ByteArray) : ∀ w ∈ spW line, w.size ≤ line.size := by
  intro w hw
  obtain ⟨x, hx, rfl⟩ := List.mem_map.1 hw
  rw [ob_size, ← bl_length]
  exact splitL_size 32 (bl line) x hx
theorem spW_len (line : ByteArray) : (spW line).length ≤ line.size + 1 := by
  unfold spW
  rw [List.length_map, ← bl_length]
  exact splitL_length _ _
theorem cmdW_none {w0 : ByteArray} (ws : List ByteArray) (h : shpL w0 = none) : cmdW (w0 :: ws) = none := by simp only [cmdW, h]
theorem cmdW_some {w0 : ByteArray} {l : List UInt8} (ws : List ByteArray) (h : shpL w0 = some l) : cmdW (w0 :: ws) = if ws.length = l.length then prs l ws else none := by simp only [cmdW, h]
theorem impl_commandOf_f {line w0 : ByteArray} {ws : List ByteArray} (h : line.size ≤ 1000000) (hw : spW line = w0 :: ws) : impl_commandOf.f line = some (cmdOut w0 [] [] (cmdW (w0 :: ws))) := by
  have hs := spW_size line
  have hl := spW_len line
  rw [hw] at hs hl
  simp only [List.length_cons] at hl
  unfold impl_commandOf.f impl_commandOf.fn impl_commandOf.top
  have e := impl_splitAt_f line 32 h
  rw [show (((32 : UInt8).toNat : Int)) = 32 from rfl, show (splitL 32 (bl line)).map ob = spW line from rfl, hw] at e
  rw [e, Option.bind_some]
  simp only [ln0, gd0, if_true]
  cases hsh : shpL w0 with
  | none =>
    rw [cmdW_none ws hsh, (shape_none hsh).1]
    rfl
  | some l =>
    obtain ⟨s1, s2, s3, s4⟩ := shape_some hsh
    have w := w64 (n := (l.length : Int) + 1) (by omega) (by omega)
    rw [cmdW_some ws hsh, s1, Option.bind_some]
    simp only [and_self, and_true, true_and, decide_true, decide_false, if_true, if_false, mid_get, mid_set, mid_getn, mid_setn, bt_mid, Option.bind_some, Bool.not_true, Bool.not_false, Bool.false_eq_true, Bool.true_eq_false, beq_self_eq_true, bne_self_eq_false, Int.toNat_natCast, ob_size, w]
    by_cases hlen : ws.length = l.length
    · have e1 : (((w0 :: ws).length : Int) != (l.length : Int) + 1) = false := by simp [hlen]
      rw [e1, if_neg (by simp), if_pos hlen]
      have := impl_cmd_l ByteArray.empty w0 w0 [] [] l [] ws [] [] [] NN rfl hlen (by simp; omega) (by simp) (by simp) s3 (fun x hx => by have := hs x (by simp [hx]); omega) (NN_lt (by omega))
      exact this
    · have e1 : (((w0 :: ws).length : Int) != (l.length : Int) + 1) = true := by
        have : ¬ ((ws.length : Int) + 1 = (l.length : Int) + 1) := by omega
        simpa using this
      rw [e1, if_pos rfl, if_neg hlen]
      rfl
theorem spec_l34Parse_f {line w0 : ByteArray} {ws : List ByteArray} (h : line.size ≤ 1000000) (hw : spW line = w0 :: ws) : spec_l34Parse.f line = some (prsOut (w0 :: ws) [] (cmdW (w0 :: ws))) := by
  have hs := spW_size line
  have hl := spW_len line
  rw [hw] at hs hl
  simp only [List.length_cons] at hl
  unfold spec_l34Parse.f spec_l34Parse.fn spec_l34Parse.top
  have e := spec_l01Split_f line 32 h
  rw [show (((32 : UInt8).toNat : Int)) = 32 from rfl, show (splitL 32 (bl line)).map ob = spW line from rfl, hw] at e
  rw [e, Option.bind_some]
  simp only [ln0, gd0, if_true]
  cases hsh : shpL w0 with
  | none =>
    have e45 : ((⟨#[45]⟩ : ByteArray).toList == (⟨#[45]⟩ : ByteArray).toList) = true := by decide +kernel
    rw [cmdW_none ws hsh, (shape_none hsh).2, Option.bind_some, e45]
    rfl
  | some l =>
    obtain ⟨s1, s2, s3, s4⟩ := shape_some hsh
    have w := w64 (n := (l.length : Int) + 1) (by omega) (by omega)
    have hne : ((ob (l.map upK)).toList == (⟨#[45]⟩ : ByteArray).toList) = false := by
      rw [ba_beq, decide_eq_false_iff_not]
      intro he
      have he2 : l.map upK = [45] := by
        have := congrArg bl he
        rwa [bl_ob] at this
      cases l with
      | nil => cases he2
      | cons c r =>
        have h45 : upK c = 45 := by
          rw [List.map_cons] at he2
          exact (List.cons.inj he2).1
        rcases s3 c (by simp) with rfl | rfl | rfl <;> exact absurd h45 (by decide)
    rw [cmdW_some ws hsh, s2, Option.bind_some, hne]
    simp only [and_self, and_true, true_and, decide_true, decide_false, if_true, if_false, mid_get, mid_set, mid_getn, mid_setn, bt_mid, Option.bind_some, Bool.not_true, Bool.not_false, Bool.false_eq_true, Bool.true_eq_false, beq_self_eq_true, bne_self_eq_false, Int.toNat_natCast, ob_size, List.length_map, w]
    by_cases hlen : ws.length = l.length
    · have e1 : (((w0 :: ws).length : Int) != (l.length : Int) + 1) = false := by simp [hlen]
      rw [e1, if_neg (by simp), if_pos hlen]
      have := spec_cmd_l w0 l [] ws [] [] NN rfl hlen (by simp; omega) (by simp) s3 (fun x hx => by have := hs x (by simp [hx]); omega) (NN_lt (by omega))
      exact this
    · have e1 : (((w0 :: ws).length : Int) != (l.length : Int) + 1) = true := by
        have : ¬ ((ws.length : Int) + 1 = (l.length : Int) + 1) := by omega
        simpa using this
      rw [e1, if_pos rfl, if_neg hlen]
      rfl
theorem exec_all {d : Dsk} (hd : deskB d = true) {line w0 : ByteArray} {ws t : List ByteArray} {n : List Int} (hz : ∀ w ∈ ws, w.size ≤ 1000000) (hc : cmdW (w0 :: ws) = some (t, n)) (hp : spec_l34Parse.f line = some (w0 :: ws, (n, true))) : Exe d line (w0, (t, n)) := by
  rcases shape_cases w0 with (rfl | rfl | rfl | rfl | rfl | rfl | rfl | rfl | rfl | rfl | rfl | rfl) | ⟨h1, _⟩
  case inr => rw [cmdW_none ws h1] at hc; cases hc
  · -- people
    have hs : shpL wPeople = some [116, 105, 106] := by decide +kernel
    rw [cmdW_some ws hs] at hc
    match ws, hz, hp, hc with
    | [w1, w2, w3], hz, hp, hc =>
      simp only [List.length_cons, List.length_nil, if_true, prs] at hc
      cases n0 : numI w2 with
      | none => simp [n0] at hc
      | some a =>
        cases n1 : numJ w3 with
        | none => simp [n0, n1] at hc
        | some b =>
          simp [n0, n1] at hc
          obtain ⟨rfl, rfl⟩ := hc
          exact ex_people hd (hz w1 (by simp)) hp
    | [], _, _, hc => simp at hc
    | [_], _, _, hc => simp at hc
    | [_, _], _, _, hc => simp at hc
    | _ :: _ :: _ :: _ :: _, _, _, hc => simp at hc
  · -- clear
    have hs : shpL wClear = some [116, 105] := by decide +kernel
    rw [cmdW_some ws hs] at hc
    match ws, hz, hp, hc with
    | [w1, w2], hz, hp, hc =>
      simp only [List.length_cons, List.length_nil, if_true, prs] at hc
      cases n0 : numI w2 with
      | none => simp [n0] at hc
      | some a =>
        simp [n0] at hc
        obtain ⟨rfl, rfl⟩ := hc
        exact ex_clear hd (hz w1 (by simp)) hp
    | [], _, _, hc => simp at hc
    | [_], _, _, hc => simp at hc
    | _ :: _ :: _ :: _, _, _, hc => simp at hc
  · -- signal
    have hs : shpL wSignal = some [116, 105] := by decide +kernel
    rw [cmdW_some ws hs] at hc
    match ws, hz, hp, hc with
    | [w1, w2], hz, hp, hc =>
      simp only [List.length_cons, List.length_nil, if_true, prs] at hc
      cases n0 : numI w2 with
      | none => simp [n0] at hc
      | some a =>
        simp [n0] at hc
        obtain ⟨rfl, rfl⟩ := hc
        exact ex_signal hd hp
    | [], _, _, hc => simp at hc
    | [_], _, _, hc => simp at hc
    | _ :: _ :: _ :: _, _, _, hc => simp at hc
  · -- state
    have hs : shpL wState = some [105] := by decide +kernel
    rw [cmdW_some ws hs] at hc
    match ws, hz, hp, hc with
    | [w1], hz, hp, hc =>
      simp only [List.length_cons, List.length_nil, if_true, prs] at hc
      cases n0 : numI w1 with
      | none => simp [n0] at hc
      | some a =>
        simp [n0] at hc
        obtain ⟨rfl, rfl⟩ := hc
        exact ex_state hd hp
    | [], _, _, hc => simp at hc
    | _ :: _ :: _, _, _, hc => simp at hc
  · -- fire
    have hs : shpL wFire = some [105] := by decide +kernel
    rw [cmdW_some ws hs] at hc
    match ws, hz, hp, hc with
    | [w1], hz, hp, hc =>
      simp only [List.length_cons, List.length_nil, if_true, prs] at hc
      cases n0 : numI w1 with
      | none => simp [n0] at hc
      | some a =>
        simp [n0] at hc
        obtain ⟨rfl, rfl⟩ := hc
        exact ex_fire hd hp
    | [], _, _, hc => simp at hc
    | _ :: _ :: _, _, _, hc => simp at hc
  · -- settle
    have hs : shpL wSettle = some [105] := by decide +kernel
    rw [cmdW_some ws hs] at hc
    match ws, hz, hp, hc with
    | [w1], hz, hp, hc =>
      simp only [List.length_cons, List.length_nil, if_true, prs] at hc
      cases n0 : numI w1 with
      | none => simp [n0] at hc
      | some a =>
        simp [n0] at hc
        obtain ⟨rfl, rfl⟩ := hc
        exact ex_settle hd hp
    | [], _, _, hc => simp at hc
    | _ :: _ :: _, _, _, hc => simp at hc
  · -- top
    have hs : shpL wTop = some [105] := by decide +kernel
    rw [cmdW_some ws hs] at hc
    match ws, hz, hp, hc with
    | [w1], hz, hp, hc =>
      simp only [List.length_cons, List.length_nil, if_true, prs] at hc
      cases n0 : numI w1 with
      | none => simp [n0] at hc
      | some a =>
        simp [n0] at hc
        obtain ⟨rfl, rfl⟩ := hc
        exact ex_top hd hp
    | [], _, _, hc => simp at hc
    | _ :: _ :: _, _, _, hc => simp at hc
  · -- time
    have hs : shpL wTime = some [105] := by decide +kernel
    rw [cmdW_some ws hs] at hc
    match ws, hz, hp, hc with
    | [w1], hz, hp, hc =>
      simp only [List.length_cons, List.length_nil, if_true, prs] at hc
      cases n0 : numI w1 with
      | none => simp [n0] at hc
      | some a =>
        simp [n0] at hc
        obtain ⟨rfl, rfl⟩ := hc
        exact ex_time hd hp
    | [], _, _, hc => simp at hc
    | _ :: _ :: _, _, _, hc => simp at hc
  · -- book
    have hs : shpL wBook = some [116, 116, 105] := by decide +kernel
    rw [cmdW_some ws hs] at hc
    match ws, hz, hp, hc with
    | [w1, w2, w3], hz, hp, hc =>
      simp only [List.length_cons, List.length_nil, if_true, prs] at hc
      cases n0 : numI w3 with
      | none => simp [n0] at hc
      | some a =>
        simp [n0] at hc
        obtain ⟨rfl, rfl⟩ := hc
        exact ex_book hd (hz w2 (by simp)) (by have := numI_bd n0; omega) hp
    | [], _, _, hc => simp at hc
    | [_], _, _, hc => simp at hc
    | [_, _], _, _, hc => simp at hc
    | _ :: _ :: _ :: _ :: _, _, _, hc => simp at hc
  · -- left
    have hs : shpL wLeft = some [116] := by decide +kernel
    rw [cmdW_some ws hs] at hc
    match ws, hz, hp, hc with
    | [w1], hz, hp, hc =>
      simp only [List.length_cons, List.length_nil, if_true, prs] at hc
      simp [] at hc
      obtain ⟨rfl, rfl⟩ := hc
      exact ex_left hd (hz w1 (by simp)) hp
    | [], _, _, hc => simp at hc
    | _ :: _ :: _, _, _, hc => simp at hc
  · -- open
    have hs : shpL wOpen = some [] := by decide +kernel
    rw [cmdW_some ws hs] at hc
    match ws, hz, hp, hc with
    | [], hz, hp, hc =>
      simp only [List.length_cons, List.length_nil, if_true, prs] at hc
      simp at hc
      obtain ⟨rfl, rfl⟩ := hc
      exact ex_open hd hp
    | _ :: _, _, _, hc => simp at hc
  · -- need
    have hs : shpL wNeed = some [105, 105] := by decide +kernel
    rw [cmdW_some ws hs] at hc
    match ws, hz, hp, hc with
    | [w1, w2], hz, hp, hc =>
      simp only [List.length_cons, List.length_nil, if_true, prs] at hc
      cases n0 : numI w1 with
      | none => simp [n0] at hc
      | some a =>
        cases n1 : numI w2 with
        | none => simp [n0, n1] at hc
        | some b =>
          simp [n0, n1] at hc
          obtain ⟨rfl, rfl⟩ := hc
          exact ex_need hd hp
    | [], _, _, hc => simp at hc
    | [_], _, _, hc => simp at hc
    | _ :: _ :: _ :: _, _, _, hc => simp at hc
end Go.Pl

namespace Go.Pl
open Go.Ev
set_option linter.unusedVariables false
set_option linter.unusedSimpArgs false
noncomputable def lnR (d : Dsk) (line : ByteArray) : Dsk × ByteArray := (spec_l34Run.f d line).getD (d, ByteArray.empty)
theorem line_ok {d : Dsk} (hd : deskB d = true) {line : ByteArray} (h : line.size ≤ 1000000) :
    spec_l34Run.f d line = some (lnR d line) ∧ deskB (lnR d line).1 = true ∧ (lnR d line).2.size ≤ 10000 ∧
    ((cmdW (spW line) = none ∧ impl_commandOf.f line = some ((ByteArray.empty, ([], [])), false) ∧ lnR d line = (d, errT 6)) ∨
     (∃ w0 t n d' o e, impl_commandOf.f line = some ((w0, (t, n)), true) ∧ impl_execute.f d (w0, (t, n)) = some (d', o, e) ∧ (0 ≤ e ∧ e ≤ 20) ∧ lnR d line = finR d d' o e)) := by
  obtain ⟨w0, ws, hw⟩ := spW_cons line
  have hs := spW_size line
  rw [hw] at hs
  have p1 := impl_commandOf_f h hw
  have p2 := spec_l34Parse_f h hw
  cases hc : cmdW (w0 :: ws) with
  | none =>
    rw [hc] at p1 p2
    have e1 : spec_l34Run.f d line = some (d, errT 6) := by
      unfold spec_l34Run.f spec_l34Run.fn spec_l34Run.top
      refine bind_eq p2 ?_
      dsimp only [prsOut]
      rw [if_pos (show (!false) = true from rfl), (dec_both (n := 6) (by omega) (by omega)).2.1, Option.bind_some, if_pos (err_fit (e := 6) (by omega))]; rfl
    have e2 : lnR d line = (d, errT 6) := by unfold lnR; rw [e1]; rfl
    rw [e2]
    have := errT_size (e := 6) (by omega)
    exact ⟨e1, hd, by simp only; omega, .inl ⟨by rw [hw]; exact hc, p1, rfl⟩⟩
  | some y =>
    obtain ⟨t, n⟩ := y
    rw [hc] at p1 p2
    simp only [cmdOut, prsOut, List.nil_append] at p1 p2
    obtain ⟨d', o, e, x1, x2, x3, x4, x5⟩ := exec_all hd (fun w hw => by have := hs w (by simp [hw]); omega) hc p2
    have e2 : lnR d line = finR d d' o e := by unfold lnR; rw [x2]; rfl
    rw [e2]
    have he := errT_size x4
    refine ⟨x2, ?_, ?_, .inr ⟨w0, t, n, d', o, e, p1, x1, x4, rfl⟩⟩
    · unfold finR
      split
      · rename_i h0; exact x3 h0
      · exact hd
    · unfold finR
      split
      · exact x5
      · simp only; omega
noncomputable def runF (st : List ByteArray × Dsk) (line : ByteArray) : List ByteArray × Dsk := (st.1 ++ [(lnR st.2 line).2], (lnR st.2 line).1)
noncomputable def runL (ls : List ByteArray) : List ByteArray × Dsk := ls.foldl runF ([], ([], ([], [])))
structure RI (p : List ByteArray) (st : List ByteArray × Dsk) : Prop where
  ok : deskB st.2 = true
  len : st.1.length = p.length
  sz : ∀ o ∈ st.1, o.size ≤ 10000
theorem ri_nil : RI [] ([], ([], ([], []))) := ⟨rfl, rfl, by simp⟩
theorem ri_step {p : List ByteArray} {st : List ByteArray × Dsk} {line : ByteArray} (h : RI p st) (hs : line.size ≤ 1000000) : RI (p ++ [line]) (runF st line) := by
  obtain ⟨a, b, c, _⟩ := line_ok h.ok hs
  refine ⟨b, ?_, fun o ho => ?_⟩
  · have := h.len
    unfold runF
    simp only [List.length_append, List.length_singleton]; omega
  · unfold runF at ho
    rcases List.mem_append.1 ho with ho | ho
    · exact h.sz o ho
    · rw [List.mem_singleton.1 ho]; exact c
theorem room16s {n : Nat} (h : n ≤ 1000000) (st : List ByteArray) (x : ByteArray) (hl : st.length = n) : st.length + [x].length < room 16 := by rw [room16]; simp; omega
theorem impl_run_l (ls : List ByteArray) (hl : ls.length ≤ 1000) (hs : ∀ l ∈ ls, l.size ≤ 1000000) : RI ls (runL ls) ∧ impl_runLines.l11 NN NN ls ls.length 0 [] ([], ([], [])) [] [] [] = some ((runL ls).1, ((runL ls).2, 0)) := by
  have := (fold_fix (E := fun l : ByteArray => l.size ≤ 1000000) RI (fun _ => runF) (fun st => some (st.1, (st.2, (0 : Int)))) (fun k i st => impl_runLines.l11 NN k ls ls.length i st.1 st.2 [] [] []) ls ?_ ?_ ([], ([], ([], []))) hs ri_nil (by omega) NN (NN_lt (by omega)))
  · rw [foldi_foldl] at this
    exact this
  · intro k st _
    simp only [impl_runLines.l11, impl_runLines.g11, Int.lt_irrefl, and_self, and_true, true_and, decide_true, decide_false, if_true, if_false, mid_get, mid_set, mid_getn, mid_setn, bt_mid, Option.bind_some, Bool.not_true, Bool.not_false, Bool.false_eq_true, Bool.true_eq_false, beq_self_eq_true, bne_self_eq_false, Int.toNat_natCast]
  · intro k p line r st hx hln hI c0 c1 c2 cw g
    have hpl : p.length ≤ 1000 := by rw [hx] at hl; simp at hl; omega
    refine ⟨ri_step hI hln, ?_⟩
    obtain ⟨_, _, _, q⟩ := line_ok hI.ok hln
    have r16 := fun x => room16s (n := p.length) (by omega) st.1 x hI.len
    simp only [impl_runLines.l11, impl_runLines.g11, c0, c1, cw, g, and_self, and_true, true_and, decide_true, decide_false, if_true, if_false, mid_get, mid_set, mid_getn, mid_setn, bt_mid, Option.bind_some, Bool.not_true, Bool.not_false, Bool.false_eq_true, Bool.true_eq_false, beq_self_eq_true, bne_self_eq_false, Int.toNat_natCast]
    unfold runF
    rcases q with ⟨_, q1, q2⟩ | ⟨w0, t, n, d', o, e, q1, q2, q3, q4⟩
    · rw [q1, q2]
      simp only [and_self, and_true, true_and, decide_true, decide_false, if_true, if_false, mid_get, mid_set, mid_getn, mid_setn, bt_mid, Option.bind_some, Bool.not_true, Bool.not_false, Bool.false_eq_true, Bool.true_eq_false, beq_self_eq_true, bne_self_eq_false, Int.toNat_natCast]
      rw [(dec_both (n := 6) (by omega) (by omega)).1, Option.bind_some, if_pos (err_fit (e := 6) (by omega)), if_pos (r16 _)]
      rfl
    · rw [q1, q4]
      simp only [and_self, and_true, true_and, decide_true, decide_false, if_true, if_false, mid_get, mid_set, mid_getn, mid_setn, bt_mid, Option.bind_some, Bool.not_true, Bool.not_false, Bool.false_eq_true, Bool.true_eq_false, beq_self_eq_true, bne_self_eq_false, Int.toNat_natCast]
      rw [q2, Option.bind_some]
      unfold finR
      by_cases he : e = 0
      · subst he
        have e0 : ((0 : Int) != 0) = false := rfl
        simp only [e0, and_self, and_true, true_and, decide_true, decide_false, if_true, if_false, mid_get, mid_set, mid_getn, mid_setn, bt_mid, Option.bind_some, Bool.not_true, Bool.not_false, Bool.false_eq_true, Bool.true_eq_false, beq_self_eq_true, bne_self_eq_false, Int.toNat_natCast]
        rw [if_pos (r16 _)]
      · have e0 : (e != 0) = true := by simpa using he
        simp only [e0, he, and_self, and_true, true_and, decide_true, decide_false, if_true, if_false, mid_get, mid_set, mid_getn, mid_setn, bt_mid, Option.bind_some, Bool.not_true, Bool.not_false, Bool.false_eq_true, Bool.true_eq_false, beq_self_eq_true, bne_self_eq_false, Int.toNat_natCast]
        rw [(dec_both (n := e) (by omega) (by omega)).1, Option.bind_some, if_pos (err_fit q3), if_pos (r16 _)]
        rfl
theorem spec_run_l (ls : List ByteArray) (hl : ls.length ≤ 1000) (hs : ∀ l ∈ ls, l.size ≤ 1000000) : spec_l34All.f ls = some ((runL ls).2, (runL ls).1) := by
  have := (fold_fix (E := fun l : ByteArray => l.size ≤ 1000000) RI (fun _ => runF) (fun st => some (st.2, st.1)) (fun k i st => spec_l34All.l4 NN k ls i st.2 st.1 [] [] []) ls ?_ ?_ ([], ([], ([], []))) hs ri_nil (by omega) NN (NN_lt (by omega))).2
  · rw [foldi_foldl] at this
    exact this
  · intro k st _
    simp only [spec_l34All.l4, spec_l34All.g4, Int.lt_irrefl, and_self, and_true, true_and, decide_true, decide_false, if_true, if_false, mid_get, mid_set, mid_getn, mid_setn, bt_mid, Option.bind_some, Bool.not_true, Bool.not_false, Bool.false_eq_true, Bool.true_eq_false, beq_self_eq_true, bne_self_eq_false, Int.toNat_natCast]
  · intro k p line r st hx hln hI c0 c1 c2 cw g
    have hpl : p.length ≤ 1000 := by rw [hx] at hl; simp at hl; omega
    refine ⟨ri_step hI hln, ?_⟩
    obtain ⟨q, _, _, _⟩ := line_ok hI.ok hln
    have r16 := fun x => room16s (n := p.length) (by omega) st.1 x hI.len
    simp only [spec_l34All.l4, spec_l34All.g4, c0, c1, cw, g, and_self, and_true, true_and, decide_true, decide_false, if_true, if_false, mid_get, mid_set, mid_getn, mid_setn, bt_mid, Option.bind_some, Bool.not_true, Bool.not_false, Bool.false_eq_true, Bool.true_eq_false, beq_self_eq_true, bne_self_eq_false, Int.toNat_natCast]
    rw [q, Option.bind_some, if_pos (r16 _)]
    rfl
def lnsT (text : ByteArray) : List ByteArray :=
  if ((splitL 10 (bl text)).map ob).getD (((splitL 10 (bl text)).map ob).length - 1) ByteArray.empty = (⟨#[]⟩ : ByteArray) then ((splitL 10 (bl text)).map ob).take (((splitL 10 (bl text)).map ob).length - 1) else (splitL 10 (bl text)).map ob
theorem lnsT_size (text : ByteArray) : ∀ l ∈ lnsT text, l.size ≤ text.size := by
  intro l hl
  have : l ∈ (splitL 10 (bl text)).map ob := by
    unfold lnsT at hl
    split at hl
    · exact List.mem_of_mem_take hl
    · exact hl
  obtain ⟨x, hx, rfl⟩ := List.mem_map.1 this
  rw [ob_size, ← bl_length]
  exact splitL_size 10 (bl text) x hx
def fitT (text : ByteArray) : Bool := decide (text.size ≤ 1500) && decide ((lnsT text).length ≤ 40)
noncomputable def conR (text : ByteArray) : (List ByteArray × Dsk) × Int := if fitT text = true then (runL (lnsT text), 0) else (([], ([], ([], []))), 3)
theorem spec_l34Lines_f (text : ByteArray) (h : text.size ≤ 1000000) : spec_l34Lines.f text = some (lnsT text) := by
  unfold spec_l34Lines.f spec_l34Lines.fn spec_l34Lines.top lnsT
  have e := spec_l01Split_f text 10 h
  rw [show (((10 : UInt8).toNat : Int)) = 10 from rfl] at e
  rw [e, Option.bind_some]
  have hn : (splitL 10 (bl text)).map ob ≠ [] := by
    intro q
    exact splitL_ne 10 (bl text) (List.map_eq_nil_iff.1 q)
  have hle : ((splitL 10 (bl text)).map ob).length ≤ 2000000 := by
    have := splitL_length 10 (bl text)
    rw [bl_length] at this
    rw [List.length_map]; omega
  have hp := List.length_pos_iff.2 hn
  generalize (splitL 10 (bl text)).map ob = r at *
  have w := w64 (n := (r.length : Int) - 1) (by omega) (by omega)
  have e1 : ((r.length : Int) - 1).toNat = r.length - 1 := by omega
  rw [w, e1, ba_beq, if_pos ⟨by omega, by omega⟩]
  by_cases hq : r.getD (r.length - 1) ByteArray.empty = (⟨#[]⟩ : ByteArray)
  · rw [if_pos (decide_eq_true hq), if_pos hq, if_pos ⟨by omega, by omega⟩]
  · rw [if_neg (by simpa using hq), if_neg hq]
theorem impl_runLines_f (text : ByteArray) (h : text.size ≤ 1000000) : impl_runLines.f text = some ((conR text).1.1, ((conR text).1.2, (conR text).2)) := by
  unfold impl_runLines.f impl_runLines.fn impl_runLines.top conR fitT
  by_cases h15 : (1500 : Int) < (text.size : Int)
  · have : ¬ text.size ≤ 1500 := by omega
    simp [h15, this]
  have h15' : text.size ≤ 1500 := by omega
  have hsz := lnsT_size text
  have hrun := fun hl => impl_run_l (lnsT text) hl (fun l hl => by have := hsz l hl; omega)
  simp only [h15, h15', and_self, and_true, true_and, decide_true, decide_false, if_true, if_false, mid_get, mid_set, mid_getn, mid_setn, bt_mid, Option.bind_some, Bool.not_true, Bool.not_false, Bool.false_eq_true, Bool.true_eq_false, beq_self_eq_true, bne_self_eq_false, Int.toNat_natCast, Bool.true_and]
  have e := impl_splitAt_f text 10 h
  rw [show (((10 : UInt8).toNat : Int)) = 10 from rfl] at e
  rw [e, Option.bind_some]
  have hn : (splitL 10 (bl text)).map ob ≠ [] := by
    intro q
    exact splitL_ne 10 (bl text) (List.map_eq_nil_iff.1 q)
  have hle : ((splitL 10 (bl text)).map ob).length ≤ 2000000 := by
    have := splitL_length 10 (bl text)
    rw [bl_length] at this
    rw [List.length_map]; omega
  have hp := List.length_pos_iff.2 hn
  unfold lnsT at hrun ⊢
  generalize (splitL 10 (bl text)).map ob = r at *
  have w := w64 (n := (r.length : Int) - 1) (by omega) (by omega)
  have e1 : ((r.length : Int) - 1).toNat = r.length - 1 := by omega
  rw [w, e1, ba_beq, if_pos ⟨by omega, by omega⟩]
  by_cases hq : r.getD (r.length - 1) ByteArray.empty = (⟨#[]⟩ : ByteArray)
  · rw [if_pos hq] at hrun ⊢
    rw [if_pos (decide_eq_true hq), if_pos ⟨by omega, by omega⟩]
    by_cases h40 : (40 : Int) < ((r.take (r.length - 1)).length : Int)
    · have h40' : ¬ (r.take (r.length - 1)).length ≤ 40 := by omega
      rw [if_pos (decide_eq_true h40), if_neg (by simpa using h40')]
    · have h40' : (r.take (r.length - 1)).length ≤ 40 := by omega
      rw [if_neg (by simpa using h40), if_pos (decide_eq_true h40')]
      exact (hrun (by omega)).2
  · rw [if_neg hq] at hrun ⊢
    rw [if_neg (by simpa using hq)]
    by_cases h40 : (40 : Int) < (r.length : Int)
    · have h40' : ¬ r.length ≤ 40 := by omega
      rw [if_pos (decide_eq_true h40), if_neg (by simpa using h40')]
    · have h40' : r.length ≤ 40 := by omega
      rw [if_neg (by simpa using h40), if_pos (decide_eq_true h40')]
      exact (hrun (by omega)).2
theorem spec_l34Fits_f (text : ByteArray) (h : text.size ≤ 1000000) : spec_l34Fits.f text = some (fitT text) := by
  unfold spec_l34Fits.f spec_l34Fits.fn spec_l34Fits.top fitT
  rw [spec_l34Lines_f text h]
  have e1 : decide ((text.size : Int) ≤ 1500) = decide (text.size ≤ 1500) := by congr 1; exact propext (by omega)
  have e2 : decide (((lnsT text).length : Int) ≤ 40) = decide ((lnsT text).length ≤ 40) := by congr 1; exact propext (by omega)
  rw [e1]
  simp only [Option.bind_some, e2]
  cases decide (text.size ≤ 1500) <;> rfl
theorem con_ok (text : ByteArray) (h : text.size ≤ 1000000) : Lm Sm (conR text).1.1 ∧ deskB (conR text).1.2 = true := by
  unfold conR
  by_cases hf : fitT text = true
  · rw [if_pos hf]
    unfold fitT at hf
    simp only [Bool.and_eq_true, decide_eq_true_eq] at hf
    have hsz := lnsT_size text
    obtain ⟨a, _⟩ := impl_run_l (lnsT text) (by omega) (fun l hl => by have := hsz l hl; omega)
    refine ⟨⟨by rw [a.len]; omega, fun o ho => Nat.le_trans (a.sz o ho) (by omega)⟩, a.ok⟩
  · rw [if_neg hf]
    exact ⟨⟨by simp, by simp⟩, rfl⟩
theorem RunConsole_both (text : ByteArray) (h : text.size ≤ 1000000) : spec_RunConsole.f text = some ((conR text).1.1, (conR text).2) ∧ impl_RunConsole.f text = some ((conR text).1.1, (conR text).2) := by
  refine ⟨?_, ?_⟩
  · unfold spec_RunConsole.f spec_RunConsole.fn spec_RunConsole.top
    rw [spec_l34Fits_f text h, Option.bind_some]
    unfold conR
    by_cases hf : fitT text = true
    · have hf' := hf
      unfold fitT at hf'
      simp only [Bool.and_eq_true, decide_eq_true_eq] at hf'
      have hsz := lnsT_size text
      rw [if_pos hf, hf, if_neg (by simp), spec_l34Lines_f text h, Option.bind_some, spec_run_l (lnsT text) (by omega) (fun l hl => by have := hsz l hl; omega)]
      rfl
    · have hf' : fitT text = false := by simpa using hf
      rw [if_neg hf, hf', if_pos (by simp)]
  · unfold impl_RunConsole.f impl_RunConsole.fn impl_RunConsole.top
    rw [impl_runLines_f text h]; rfl
theorem RunConsole_core (text : ByteArray) (h : Sm text) : ∃ w, spec_RunConsole.f text = some w ∧ impl_RunConsole.f text = some w ∧ Lm Sm w.1 :=
  ⟨_, (RunConsole_both text h).1, (RunConsole_both text h).2, (con_ok text h).1⟩
end Go.Pl

namespace Go.Pl
open Go.Ev
set_option linter.unusedVariables false
set_option linter.unusedSimpArgs false
theorem FnExactRunConsole_true (aText : ByteArray) (hyp : Sz aText) : laws_FnExactRunConsole.f aText = some true := by
  have h_aText := hyp
  unfold laws_FnExactRunConsole.f laws_FnExactRunConsole.fn laws_FnExactRunConsole.top
  by_cases hn1 : (1000000 : Int) < (aText.size : Int)
  · simp [hn1]
  simp only [hn1, decide_false, Bool.false_eq_true, if_false]
  have o_aText : Sm aText := (by unfold Sm; omega)
  obtain ⟨⟨w0, w1⟩, c1, c2, c3⟩ := RunConsole_core aText o_aText
  have c4 := c3
  have c3_0 : Lm Sm w0 := c3
  have eq_0 := laws_eqStringS_self w0 (Nat.le_trans c3_0.1 (by omega))
  obtain ⟨m1, d1, x1, y1, z1, u1⟩ := laws_markStringS_ok w0 c3_0 101 (by omega) (by omega)
  have n1 : ¬ m1 < 0 := by omega
  simp [c1, c2, eq_0, x1, y1, n1]
end Go.Pl
