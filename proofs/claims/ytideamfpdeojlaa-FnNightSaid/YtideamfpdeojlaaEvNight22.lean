/- Part 22 of what the law FnNight stands on: an evaluator of the model's code, proved sound; the functions as plain texts; their contracts. -/
import Derived.Test.YtideamfpdeojlaaChecked
import Derived.Test.YtideamfpdeojlaaProg
import Derived.Test.YtideamfpdeojlaaRows
import Derived.Below
import Derived.Calls
import Derived.Carry
import Derived.ChangeArms
import Derived.ChangeKeysEq
import Derived.ChangeOld
import Derived.Deep.Quiet
import Derived.KernelRfl
import Derived.Laws.Append
import Derived.Laws.BytesString
import Derived.Laws.MakeOwn
import Derived.Laws.Strings
import Derived.Laws.StructEq
import Derived.OpenShut
import Derived.OrdersHeld
import Derived.ProofKit
import Derived.ShutString
import Derived.SizedLaws
import Derived.Tactics
import Derived.WalkKit
import Derived.WideShapes
import Derived.Test.YtideamfpdeojlaaEvNight21
namespace Go.Ev.Try
open Go.Proofs Go.Pl
set_option linter.unusedVariables false
noncomputable section
set_option maxRecDepth 100000 in
theorem laws_FnNight.lem1000003 (n : Nat) (x : (List (Int × ByteArray × Int)) × ((List (Int × Int)) × (List (ByteArray × Int × Int × Int × Int × Int × Int × Int × Int)) × List (Int × Int × ByteArray × Int)) × (List (Int × Int)) × (List (Int × ByteArray × Int)) × List ByteArray) : ∀ (k : Nat) (books0 : List (Int × ByteArray × Int)) (list2 : List (Int × Int)) (moves3 : List (Int × ByteArray × Int)) (zones4 : List ByteArray) (x6 : (List (Int × Int)) × (List (ByteArray × Int × Int × Int × Int × Int × Int × Int × Int)) × List (Int × Int × ByteArray × Int)), laws_FnNight.LN1000003 n x k (laws_FnNight.st1000003 books0 list2 moves3 zones4 x6) = laws_FnNight.l1000003 n k books0 list2 moves3 zones4 x6 := by
  intro k
  induction k with
  | zero => intro books0 list2 moves3 zones4 x6; rfl
  | succ k ih =>
    intro books0 list2 moves3 zones4 x6
    have h : laws_FnNight.LN1000003 n x (k + 1) (laws_FnNight.st1000003 books0 list2 moves3 zones4 x6) = laws_FnNight.g1000003 (fun books0 list2 moves3 zones4 bad12 x6 times11 => laws_FnNight.LN1000004 n x n (laws_FnNight.st1000004 books0 list2 moves3 zones4 bad12 x6 times11)) (fun books0 list2 moves3 zones4 x6 => laws_FnNight.LN1000003 n x k (laws_FnNight.st1000003 books0 list2 moves3 zones4 x6)) books0 list2 moves3 zones4 x6 := by kernel_rfl
    rw [h]
    simp only [ih, laws_FnNight.lem1000004]
    rfl
def laws_FnNight.R1000001 (n : Nat) (x : (List (Int × ByteArray × Int)) × ((List (Int × Int)) × (List (ByteArray × Int × Int × Int × Int × Int × Int × Int × Int)) × List (Int × Int × ByteArray × Int)) × (List (Int × Int)) × (List (Int × ByteArray × Int)) × List ByteArray) : Array Oper := match (ctx laws_FnNight.E laws_FnNight.keep n [.snd, .fst, .fst] (codeOf Try.f5) (kEnd laws_FnNight.E Try.f5 laws_FnNight.con x)).1 with
  | .region _ ops _ => ops
  | _ => #[]
def laws_FnNight.low (c : Int) (o : Oper) : Oper := match o.op with
  | .binOp a b y (.const _) u => { o with op := .binOp a b y (.const (.int .i64 c)) u }
  | _ => o
def laws_FnNight.gb1000001 (c : Int) (I1000003 : (List (Int × ByteArray × Int)) → (List (Int × Int)) → (List (Int × ByteArray × Int)) → List ByteArray → ((List (Int × Int)) × (List (ByteArray × Int × Int × Int × Int × Int × Int × Int × Int)) × List (Int × Int × ByteArray × Int)) → Option Bool) (L1000001 : (List (Int × ByteArray × Int)) → (List (Int × Int)) → (List (Int × ByteArray × Int)) → List ByteArray → ((List (Int × Int)) × (List (ByteArray × Int × Int × Int × Int × Int × Int × Int × Int)) × List (Int × Int × ByteArray × Int)) → Option Bool) (books0 : List (Int × ByteArray × Int)) (list2 : List (Int × Int)) (moves3 : List (Int × ByteArray × Int)) (zones4 : List ByteArray) (x6 : (List (Int × Int)) × (List (ByteArray × Int × Int × Int × Int × Int × Int × Int × Int)) × List (Int × Int × ByteArray × Int)) : Option Bool :=
  if (decide (c < (books0.length : Int))) = false then
    if (decide (c < (x6.2.2.length : Int))) = false then
      if (decide (c < (list2.length : Int))) = false then
        if (decide (c < (moves3.length : Int))) = false then
          if (decide (c < (zones4.length : Int))) = true then
            some true
          else
            I1000003 books0 list2 moves3 zones4 x6
        else
          some true
      else
        some true
    else
      some true
  else
    some true
end
end Go.Ev.Try
