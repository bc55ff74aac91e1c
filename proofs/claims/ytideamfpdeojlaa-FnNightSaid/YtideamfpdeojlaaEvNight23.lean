/- Part 23 of what the law FnNight stands on: an evaluator of the model's code, proved sound; the functions as plain texts; their contracts. -/
import Derived.Test.YtideamfpdeojlaaChecked
import Derived.Test.YtideamfpdeojlaaProg
import Derived.Test.YtideamfpdeojlaaRows
import Derived.Below
import Derived.Calls
import Derived.Carry
import Derived.ChangeArms
import Derived.ChangeKeysEq
import Derived.ChangeOld
import Derived.Deep.Quiet
import Derived.KernelRfl
import Derived.Laws.Append
import Derived.Laws.BytesString
import Derived.Laws.MakeOwn
import Derived.Laws.Strings
import Derived.Laws.StructEq
import Derived.OpenShut
import Derived.OrdersHeld
import Derived.ProofKit
import Derived.ShutString
import Derived.SizedLaws
import Derived.Tactics
import Derived.WalkKit
import Derived.WideShapes
import Derived.Test.YtideamfpdeojlaaEvNight22
namespace Go.Ev.Try
open Go.Proofs Go.Pl
set_option linter.unusedVariables false
noncomputable section
set_option maxRecDepth 100000 in
theorem laws_FnNight.lem1000001 (n : Nat) (x : (List (Int × ByteArray × Int)) × ((List (Int × Int)) × (List (ByteArray × Int × Int × Int × Int × Int × Int × Int × Int)) × List (Int × Int × ByteArray × Int)) × (List (Int × Int)) × (List (Int × ByteArray × Int)) × List ByteArray) : ∀ (k : Nat) (books0 : List (Int × ByteArray × Int)) (list2 : List (Int × Int)) (moves3 : List (Int × ByteArray × Int)) (zones4 : List ByteArray) (x6 : (List (Int × Int)) × (List (ByteArray × Int × Int × Int × Int × Int × Int × Int × Int)) × List (Int × Int × ByteArray × Int)), laws_FnNight.LN1000001 n x k (laws_FnNight.st1000001 books0 list2 moves3 zones4 x6) = laws_FnNight.l1000001 n k books0 list2 moves3 zones4 x6 := by
  intro k
  induction k with
  | zero => intro books0 list2 moves3 zones4 x6; rfl
  | succ k ih =>
    intro books0 list2 moves3 zones4 x6
    have m1 : laws_FnNight.LN1000001 n x (k + 1) (laws_FnNight.st1000001 books0 list2 moves3 zones4 x6) = evOps laws_FnNight.E (laws_FnNight.R1000001 n x) (laws_FnNight.R1000001 n x).toList (laws_FnNight.st1000001 books0 list2 moves3 zones4 x6) ((ctx laws_FnNight.E laws_FnNight.keep n [.snd, .fst, .fst] (codeOf Try.f5) (kEnd laws_FnNight.E Try.f5 laws_FnNight.con x)).2 .normal) := by kernel_rfl
    have m2 : laws_FnNight.R1000001 n x = (laws_FnNight.R1000001 n x).map (laws_FnNight.low 65536) := by kernel_rfl
    have m3 : ∀ c : Int, evOps laws_FnNight.E ((laws_FnNight.R1000001 n x).map (laws_FnNight.low c)) ((laws_FnNight.R1000001 n x).map (laws_FnNight.low c)).toList (laws_FnNight.st1000001 books0 list2 moves3 zones4 x6) ((ctx laws_FnNight.E laws_FnNight.keep n [.snd, .fst, .fst] (codeOf Try.f5) (kEnd laws_FnNight.E Try.f5 laws_FnNight.con x)).2 .normal) = laws_FnNight.gb1000001 c (fun books0 list2 moves3 zones4 x6 => laws_FnNight.LN1000003 n x n (laws_FnNight.st1000003 books0 list2 moves3 zones4 x6)) (fun books0 list2 moves3 zones4 x6 => laws_FnNight.LN1000001 n x k (laws_FnNight.st1000001 books0 list2 moves3 zones4 x6)) books0 list2 moves3 zones4 x6 := by
      intro c
      kernel_rfl
    have h : laws_FnNight.LN1000001 n x (k + 1) (laws_FnNight.st1000001 books0 list2 moves3 zones4 x6) = laws_FnNight.g1000001 (fun books0 list2 moves3 zones4 x6 => laws_FnNight.LN1000003 n x n (laws_FnNight.st1000003 books0 list2 moves3 zones4 x6)) (fun books0 list2 moves3 zones4 x6 => laws_FnNight.LN1000001 n x k (laws_FnNight.st1000001 books0 list2 moves3 zones4 x6)) books0 list2 moves3 zones4 x6 := m1.trans ((congrArg (fun o => evOps laws_FnNight.E o o.toList (laws_FnNight.st1000001 books0 list2 moves3 zones4 x6) ((ctx laws_FnNight.E laws_FnNight.keep n [.snd, .fst, .fst] (codeOf Try.f5) (kEnd laws_FnNight.E Try.f5 laws_FnNight.con x)).2 .normal)) m2).trans (m3 65536))
    rw [h]
    simp only [ih, laws_FnNight.lem1000003]
    rfl
end
end Go.Ev.Try
