/- Part 6 of what the law FnPapers stands on: an evaluator of the model's code, proved sound; the functions as plain texts; their contracts. -/
import Derived.Test.YtgddpcjbjkbpcaaChecked
import Derived.Test.YtgddpcjbjkbpcaaProg
import Derived.Test.YtgddpcjbjkbpcaaRows
import Derived.Below
import Derived.Calls
import Derived.Carry
import Derived.ChangeArms
import Derived.ChangeKeysEq
import Derived.ChangeOld
import Derived.Deep.Quiet
import Derived.KernelRfl
import Derived.Laws.Append
import Derived.Laws.BytesString
import Derived.Laws.MakeOwn
import Derived.Laws.Strings
import Derived.Laws.StructEq
import Derived.OpenShut
import Derived.OrdersHeld
import Derived.ProofKit
import Derived.ShutString
import Derived.SizedLaws
import Derived.Tactics
import Derived.WalkKit
import Derived.WideShapes
import Derived.Test.YtgddpcjbjkbpcaaEvPapers5
namespace Go.Ev.Try
open Go.Proofs Go.Pl
set_option linter.unusedVariables false
noncomputable section
set_option maxRecDepth 100000 in
theorem laws_FnPapers.lem18 (n : Nat) (x : List Int) : ∀ (k : Nat) (name4 : ByteArray) (count5 : Int) (bad7 : Int) (one11 : Int) (n16 : Int) (three17 : Int) (total24 : Int) (i25 : Int) (p3a : ByteArray) (p3ba : Int) (a6a : ByteArray) (a6ba : Int) (c10a : ByteArray) (c10ba : Int) (q15a : ByteArray) (q15ba : Int) (b20 : List (Int × Int)) (w5 : List (ByteArray × Int)) (w6 : List (ByteArray × Int)) (w7 : List (ByteArray × Int)) (w8 : List (ByteArray × Int)), laws_FnPapers.LN18 n x k (laws_FnPapers.st18 name4 count5 bad7 one11 n16 three17 total24 i25 p3a p3ba a6a a6ba c10a c10ba q15a q15ba b20 w5 w6 w7 w8) = laws_FnPapers.l18 n k name4 count5 bad7 one11 n16 three17 total24 i25 p3a p3ba a6a a6ba c10a c10ba q15a q15ba b20 w5 w6 w7 w8 := by
  intro k
  induction k with
  | zero => intro name4 count5 bad7 one11 n16 three17 total24 i25 p3a p3ba a6a a6ba c10a c10ba q15a q15ba b20 w5 w6 w7 w8; rfl
  | succ k ih =>
    intro name4 count5 bad7 one11 n16 three17 total24 i25 p3a p3ba a6a a6ba c10a c10ba q15a q15ba b20 w5 w6 w7 w8
    have h : laws_FnPapers.LN18 n x (k + 1) (laws_FnPapers.st18 name4 count5 bad7 one11 n16 three17 total24 i25 p3a p3ba a6a a6ba c10a c10ba q15a q15ba b20 w5 w6 w7 w8) = laws_FnPapers.g18 (fun name4 count5 found28 i29 a6a a6ba w1 => laws_FnPapers.LN31 n x n (laws_FnPapers.st31 name4 count5 found28 i29 a6a a6ba w1)) (fun name4 count5 bad7 one11 n16 three17 total24 i25 p3a p3ba a6a a6ba c10a c10ba q15a q15ba b20 w5 w6 w7 w8 => laws_FnPapers.LN18 n x k (laws_FnPapers.st18 name4 count5 bad7 one11 n16 three17 total24 i25 p3a p3ba a6a a6ba c10a c10ba q15a q15ba b20 w5 w6 w7 w8)) name4 count5 bad7 one11 n16 three17 total24 i25 p3a p3ba a6a a6ba c10a c10ba q15a q15ba b20 w5 w6 w7 w8 := by kernel_rfl
    rw [h]
    simp only [ih, laws_FnPapers.lem31]
    rfl
end
end Go.Ev.Try
