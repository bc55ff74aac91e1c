/- Part 7 of what the law FnTop stands on: an evaluator of the model's code, proved sound; the functions as plain texts; their contracts. -/
import Derived.Test.YtideamfpdeojlaaGreatEvTop6
namespace Go.Ev.Tryz
open Go.Proofs Go.Pl
set_option linter.unusedVariables false
noncomputable section
set_option maxRecDepth 100000 in
theorem Qg.lem36 (n : Nat) (x : List Int) : ∀ (k : Nat) (q : List YD) (r : List Int) (w : Int) (i36 : Int) (b19 : List YD) (p : List YD),Qg.LN36 n x k (Qg.st36 q r w i36 b19 p) = Qg.l36 n k q r w i36 b19 p := by
 intro k
 induction k with
 | zero => intro q r w i36 b19 p; rfl
 | succ k ih =>
  intro q r w i36 b19 p
  have h : Qg.LN36 n x (k + 1) (Qg.st36 q r w i36 b19 p) = Qg.g36 (fun q r w i36 b19 p => Qg.LN36 n x k (Qg.st36 q r w i36 b19 p)) q r w i36 b19 p := by kernel_rfl
  rw [h]
  simp only [ih]
  rfl
end
end Go.Ev.Tryz
