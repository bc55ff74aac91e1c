/- Part 9 of what the law FnTop stands on: an evaluator of the model's code, proved sound; the functions as plain texts; their contracts. -/
import Derived.Test.YtideamfpdeojlaaGreatEvTop8
namespace Go.Ev.Tryz
open Go.Proofs Go.Pl
set_option linter.unusedVariables false
noncomputable section
set_option maxRecDepth 100000 in
theorem Qg.lem15 (n : Nat) (x : List Int) : ∀ (k : Nat) (y : List Int) (b : List YC) (z : List YD) (a : List ByteArray) (c : Int) (u : Int) (q : List YD) (r : List Int) (t : Int) (i23 : Int) (f7 : List Int) (x11 : YF × YG × List YB) (w12 : List YQ) (s : List YQ) (b19 : List YD) (p : List YD),Qg.LN15 n x k (Qg.st15 y b z a c u q r t i23 f7 x11 w12 s b19 p) = Qg.l15 n k y b z a c u q r t i23 f7 x11 w12 s b19 p := by
 intro k
 induction k with
 | zero => intro y b z a c u q r t i23 f7 x11 w12 s b19 p; rfl
 | succ k ih =>
  intro y b z a c u q r t i23 f7 x11 w12 s b19 p
  have h : Qg.LN15 n x (k + 1) (Qg.st15 y b z a c u q r t i23 f7 x11 w12 s b19 p) = Qg.g15 (fun u q r t v k32 x11 w12 s b19 p => Qg.LN25 n x n (Qg.st25 u q r t v k32 x11 w12 s b19 p)) (fun y b z a c u q r t i23 f7 x11 w12 s b19 p => Qg.LN15 n x k (Qg.st15 y b z a c u q r t i23 f7 x11 w12 s b19 p)) y b z a c u q r t i23 f7 x11 w12 s b19 p := by kernel_rfl
  rw [h]
  simp only [ih,Qg.lem25]
  rfl
end
end Go.Ev.Tryz
