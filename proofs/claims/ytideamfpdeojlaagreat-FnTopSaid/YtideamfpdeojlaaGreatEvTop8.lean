/- Part 8 of what the law FnTop stands on: an evaluator of the model's code, proved sound; the functions as plain texts; their contracts. -/
import Derived.Test.YtideamfpdeojlaaGreatEvTop7
namespace Go.Ev.Tryz
open Go.Proofs Go.Pl
set_option linter.unusedVariables false
noncomputable section
set_option maxRecDepth 100000 in
theorem Qg.lem25 (n : Nat) (x : List Int) : ∀ (k : Nat) (u : Int) (q : List YD) (r : List Int) (t : Int) (v : Int) (k32 : Int) (x11 : YF × YG × List YB) (w12 : List YQ) (s : List YQ) (b19 : List YD) (p : List YD),Qg.LN25 n x k (Qg.st25 u q r t v k32 x11 w12 s b19 p) = Qg.l25 n k u q r t v k32 x11 w12 s b19 p := by
 intro k
 induction k with
 | zero => intro u q r t v k32 x11 w12 s b19 p; rfl
 | succ k ih =>
  intro u q r t v k32 x11 w12 s b19 p
  have h : Qg.LN25 n x (k + 1) (Qg.st25 u q r t v k32 x11 w12 s b19 p) = Qg.g25 (fun u q r t v k32 x11 w12 s b19 p => Qg.LN30 n x (Qg.LN25 n x k) n (Qg.st30 u q r t v k32 x11 w12 s b19 p)) (fun q r w i36 b19 p => Qg.LN36 n x n (Qg.st36 q r w i36 b19 p)) (fun u q r t v k32 x11 w12 s b19 p => Qg.LN25 n x k (Qg.st25 u q r t v k32 x11 w12 s b19 p)) u q r t v k32 x11 w12 s b19 p := by kernel_rfl
  rw [h]
  simp only [ih,Qg.lem30,Qg.lem36]
  rfl
end
end Go.Ev.Tryz
