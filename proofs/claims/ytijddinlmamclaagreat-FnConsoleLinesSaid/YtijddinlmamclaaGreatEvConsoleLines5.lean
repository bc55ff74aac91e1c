/- Part 5 of what the law FnConsoleLines stands on: an evaluator of the model's code, proved sound; the functions as plain texts; their contracts. -/
import Derived.Test.YtijddinlmamclaaGreatChecked
import Derived.Test.YtijddinlmamclaaGreatProg
import Derived.Test.YtijddinlmamclaaGreatRows
import Derived.Below
import Derived.Calls
import Derived.Carry
import Derived.ChangeArms
import Derived.ChangeKeysEq
import Derived.ChangeOld
import Derived.Deep.Quiet
import Derived.KernelRfl
import Derived.Laws.Append
import Derived.Laws.BytesString
import Derived.Laws.MakeOwn
import Derived.Laws.Strings
import Derived.Laws.StructEq
import Derived.OpenShut
import Derived.OrdersHeld
import Derived.ProofKit
import Derived.ShutString
import Derived.SizedLaws
import Derived.Tactics
import Derived.WalkKit
import Derived.WideShapes
import Derived.Test.YtijddinlmamclaaGreatEvConsoleLines4
namespace Go.Ev.Tryz
open Go.Proofs Go.Pl
set_option linter.unusedVariables false
noncomputable section
set_option maxRecDepth 100000 in
theorem Qao.body (n : Nat) (x : List Int) : bodyF Qao.E Qao.keep n Tryz.f4 Qao.con x = Qao.fn n x := by
 have h : bodyF Qao.E Qao.keep n Tryz.f4 Qao.con x = Qao.top x := by kernel_rfl
 exact h
set_option maxRecDepth 100000 in
theorem Qao.good : Good Tryz.prog 4 Qao.con :=
 good_of tabok (cs := Qao.cs) ⟨Qas.good, Qar.good, Qbe.good, Qag.good, Q7.good, Qw.good, Qam.good, Qan.good, trivial⟩ 0 false (fn := Tryz.f4) Tryz.func4 rfl (by decide) (by simp [Qao.con]) Qao.keep NN (fun _ => rfl) (fun x => Qao.body NN x)
end
end Go.Ev.Tryz
