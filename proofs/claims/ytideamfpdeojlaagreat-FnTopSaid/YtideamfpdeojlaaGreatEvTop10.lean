/- Part 10 of what the law FnTop stands on: an evaluator of the model's code, proved sound; the functions as plain texts; their contracts. -/
import Derived.Test.YtideamfpdeojlaaGreatEvTop9
namespace Go.Ev.Tryz
open Go.Proofs Go.Pl
set_option linter.unusedVariables false
noncomputable section
set_option maxRecDepth 100000 in
theorem Qg.body (n : Nat) (x : List Int) : bodyF Qg.E Qg.keep n Tryz.f3 Qg.con x = Qg.fn n x := by
 have h : bodyF Qg.E Qg.keep n Tryz.f3 Qg.con x = Qg.top (fun y b z a c u q r t i23 f7 x11 w12 s b19 p => Qg.LN15 n x n (Qg.st15 y b z a c u q r t i23 f7 x11 w12 s b19 p)) x := by kernel_rfl
 rw [h]
 simp only [Qg.lem15]
 rfl
set_option maxRecDepth 100000 in
theorem Qg.good : Good Tryz.prog 3 Qg.con :=
 Vg tabok (cs := Qg.cs) ⟨QaS.good,Qag.good,Qam.good,Qan.good,Qai.good,Qav.good,Qay.good,Qf.good,Qj.good,Qk.good,QL.good,QP.good,Qr.good,Qb.good,QaN.good,Qal.good,QaG.good,trivial⟩ 0 false (fn := Tryz.f3) Tryz.func3 rfl (by decide) (by simp [Qg.con]) Qg.keep NN (fun _ => rfl) (fun x => Qg.body NN x)
end
end Go.Ev.Tryz
