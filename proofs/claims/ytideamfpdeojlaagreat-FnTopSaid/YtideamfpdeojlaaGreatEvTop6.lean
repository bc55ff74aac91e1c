/- Part 6 of what the law FnTop stands on: an evaluator of the model's code, proved sound; the functions as plain texts; their contracts. -/
import Derived.Test.YtideamfpdeojlaaGreatEvTop5
namespace Go.Ev.Tryz
open Go.Proofs Go.Pl
set_option linter.unusedVariables false
noncomputable section
set_option maxRecDepth 100000 in
theorem Qg.lem30 (n : Nat) (x : List Int) (M25 : St → Option (Bool)) : ∀ (k : Nat) (u : Int) (q : List YD) (r : List Int) (t : Int) (v : Int) (k32 : Int) (x11 : YF × YG × List YB) (w12 : List YQ) (s : List YQ) (b19 : List YD) (p : List YD),Qg.LN30 n x M25 k (Qg.st30 u q r t v k32 x11 w12 s b19 p) = Qg.l30 n (fun u q r t v k32 x11 w12 s b19 p => M25 (Qg.st25 u q r t v k32 x11 w12 s b19 p)) k u q r t v k32 x11 w12 s b19 p := by
 intro k
 induction k with
 | zero => intro u q r t v k32 x11 w12 s b19 p; rfl
 | succ k ih =>
  intro u q r t v k32 x11 w12 s b19 p
  have h : Qg.LN30 n x M25 (k + 1) (Qg.st30 u q r t v k32 x11 w12 s b19 p) = Qg.g30 (fun u q r t v k32 x11 w12 s b19 p => M25 (Qg.st25 u q r t v k32 x11 w12 s b19 p)) (fun u q r t v k32 x11 w12 s b19 p => Qg.LN30 n x M25 k (Qg.st30 u q r t v k32 x11 w12 s b19 p)) u q r t v k32 x11 w12 s b19 p := by kernel_rfl
  rw [h]
  simp only [ih]
  rfl
end
end Go.Ev.Tryz
