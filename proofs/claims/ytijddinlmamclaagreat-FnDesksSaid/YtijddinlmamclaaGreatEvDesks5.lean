/- Part 5 of what the law FnDesks stands on: an evaluator of the model's code, proved sound; the functions as plain texts; their contracts. -/
import Derived.Test.YtijddinlmamclaaGreatChecked
import Derived.Test.YtijddinlmamclaaGreatProg
import Derived.Test.YtijddinlmamclaaGreatRows
import Derived.Below
import Derived.Calls
import Derived.Carry
import Derived.ChangeArms
import Derived.ChangeKeysEq
import Derived.ChangeOld
import Derived.Deep.Quiet
import Derived.KernelRfl
import Derived.Laws.Append
import Derived.Laws.BytesString
import Derived.Laws.MakeOwn
import Derived.Laws.Strings
import Derived.Laws.StructEq
import Derived.OpenShut
import Derived.OrdersHeld
import Derived.ProofKit
import Derived.ShutString
import Derived.SizedLaws
import Derived.Tactics
import Derived.WalkKit
import Derived.WideShapes
import Derived.Test.YtijddinlmamclaaGreatEvDesks4
namespace Go.Ev.Tryz
open Go.Proofs Go.Pl
set_option linter.unusedVariables false
noncomputable section
set_option maxRecDepth 100000 in
theorem Qbh.body (n : Nat) (x : List Int) : bodyF Qbh.E Qbh.keep n Tryz.f6 Qbh.con x = Qbh.fn n x := by
 have h : bodyF Qbh.E Qbh.keep n Tryz.f6 Qbh.con x = Qbh.top x := by kernel_rfl
 exact h
set_option maxRecDepth 100000 in
theorem Qbh.good : Good Tryz.prog 6 Qbh.con :=
 Vf tabok (cs := Qbh.cs) ⟨Qbo.good, QaC.good, QaK.good, Qat.good, QaE.good, QK.good, Qw.good, Qr.good, Qbg.good, Qbi.good, trivial⟩ 0 false (fn := Tryz.f6) Tryz.func6 rfl (by decide) (by simp [Qbh.con]) Qbh.keep NN (fun _ => rfl) (fun x => Qbh.body NN x)
end
end Go.Ev.Tryz
