/- Part 4 of what the law FnBookings stands on: an evaluator of the model's code, proved sound; the functions as plain texts; their contracts. -/
import Derived.Test.YtppfdipgaifhiabChecked
import Derived.Test.YtppfdipgaifhiabProg
import Derived.Test.YtppfdipgaifhiabRows
import Derived.Below
import Derived.Calls
import Derived.Carry
import Derived.ChangeArms
import Derived.ChangeKeysEq
import Derived.ChangeOld
import Derived.Deep.Quiet
import Derived.KernelRfl
import Derived.Laws.Append
import Derived.Laws.BytesString
import Derived.Laws.MakeOwn
import Derived.Laws.Strings
import Derived.Laws.StructEq
import Derived.OpenShut
import Derived.OrdersHeld
import Derived.ProofKit
import Derived.ShutString
import Derived.SizedLaws
import Derived.Tactics
import Derived.WalkKit
import Derived.WideShapes
import Derived.Test.YtppfdipgaifhiabEvBookings3
namespace Go.Ev.Try
open Go.Proofs Go.Pl
set_option linter.unusedVariables false
noncomputable section
set_option maxRecDepth 100000 in
theorem laws_FnBookings.body (n : Nat) (x : List Int) : bodyF laws_FnBookings.E laws_FnBookings.keep n Try.f11 laws_FnBookings.con x = laws_FnBookings.fn n x := by
  have h : bodyF laws_FnBookings.E laws_FnBookings.keep n Try.f11 laws_FnBookings.con x = laws_FnBookings.top x := by kernel_rfl
  exact h
set_option maxRecDepth 100000 in
theorem laws_FnBookings.good : Good Try.prog 11 laws_FnBookings.con :=
  good_of tabok (cs := laws_FnBookings.cs) ⟨spec_BookPieces.good, impl_BookPieces.good, spec_TotalsOf.good, impl_TotalsOf.good, laws_big.good, spec_DrawBookPieces.good, spec_DrawTotalsOf.good, impl_PiecesLeft.good, spec_PiecesLeft.good, impl_MostIn.good, spec_MostIn.good, laws_likeBookings.good, laws_likeInts.good, impl_AreBookings.good, trivial⟩ 0 false (fn := Try.f11) Try.func11 rfl (by decide) (by simp [laws_FnBookings.con]) laws_FnBookings.keep NN (fun _ => rfl) (fun x => laws_FnBookings.body NN x)
end
end Go.Ev.Try
