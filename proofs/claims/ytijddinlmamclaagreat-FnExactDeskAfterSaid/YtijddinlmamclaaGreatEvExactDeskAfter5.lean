/- Part 5 of what the law FnExactDeskAfter stands on: an evaluator of the model's code, proved sound; the functions as plain texts; their contracts. -/
import Derived.Test.YtijddinlmamclaaGreatEvExactDeskAfter4
namespace Go.Pl
open Go.Ev
set_option linter.unusedVariables false
set_option linter.unusedSimpArgs false
theorem mv_ok {xs : List Mov} (h : movesB xs = true) : Lm OkMove xs := by
 obtain ⟨m1, m2, m3⟩ := movesB_iff h
 refine ⟨by omega, fun m hm => ?_⟩
 obtain ⟨a, b, c⟩ := movB_iff (m3 m hm)
 exact ⟨wf64.2 (by omega), Nat.le_trans (wordB_size b).2 (by omega), wf64.2 (by omega)⟩
theorem desk_ok {d : Dsk} (h : deskB d = true) : OkDesk d := by
 obtain ⟨h1, h2, h3⟩ := desk_iff.1 h
 obtain ⟨s1, s2, s3⟩ := sigsB_iff h2
 refine ⟨mv_ok h1, ⟨by omega, fun m hm => ?_⟩, books_lm' h3⟩
 have := s3 m hm
 exact ⟨wf64.2 (by omega), wf64.2 (by omega)⟩
end Go.Pl

namespace Go.Pl
open Go.Ev
set_option linter.unusedVariables false
set_option linter.unusedSimpArgs false
theorem DeskAfter_core (text : ByteArray) (h : Sm text) : ∃ w, QaA.f text = some w ∧ Qax.f text = some w ∧ OkDesk w.1 :=
 ⟨_, (DeskAfter_both text h).1, (DeskAfter_both text h).2, desk_ok (con_ok text h).2⟩
end Go.Pl

namespace Go.Pl
open Go.Ev
set_option linter.unusedVariables false
set_option linter.unusedSimpArgs false
theorem FnExactDeskAfter_true (aText : ByteArray) (hyp : Sz aText) : Qah.f aText = some true := by
 have h_aText := hyp
 unfold Qah.f Qah.fn Qah.top
 by_cases hn1 : (1000000 : Int) < (aText.size : Int)
 ·simp [hn1]
 simp only [hn1, decide_false, Bool.false_eq_true, if_false]
 have o_aText : Sm aText := (by unfold Sm; omega)
 obtain ⟨⟨w0, w1⟩, c1, c2, c3⟩ := DeskAfter_core aText o_aText
 have c4 := c3
 have c3_0 : OkDesk w0 := c3
 have eq_0 := Qcd w0 ⟨Nat.le_trans c3_0.1.1 (by omega), Nat.le_trans c3_0.2.1.1 (by omega), Nat.le_trans c3_0.2.2.1 (by omega)⟩
 obtain ⟨m1, d1_0, d1_1, d1_2, x1, y1, z1, u1⟩ := Qce w0 c3_0 101 (by omega) (by omega)
 have n1 : ¬ m1 < 0 := by omega
 simp [c1, c2, eq_0, x1, y1, n1]
end Go.Pl
