/- Part 25 of what the law FnNight stands on: an evaluator of the model's code, proved sound; the functions as plain texts; their contracts. -/
import Derived.Test.YtideamfpdeojlaaChecked
import Derived.Test.YtideamfpdeojlaaProg
import Derived.Test.YtideamfpdeojlaaRows
import Derived.Below
import Derived.Calls
import Derived.Carry
import Derived.ChangeArms
import Derived.ChangeKeysEq
import Derived.ChangeOld
import Derived.Deep.Quiet
import Derived.KernelRfl
import Derived.Laws.Append
import Derived.Laws.BytesString
import Derived.Laws.MakeOwn
import Derived.Laws.Strings
import Derived.Laws.StructEq
import Derived.OpenShut
import Derived.OrdersHeld
import Derived.ProofKit
import Derived.ShutString
import Derived.SizedLaws
import Derived.Tactics
import Derived.WalkKit
import Derived.WideShapes
import Derived.Test.YtideamfpdeojlaaEvNight24
namespace Go.Pl
open Go.Ev
set_option linter.unusedVariables false
set_option linter.unusedSimpArgs false
def inB (n lo hi : Int) : Bool := decide (lo ≤ n) && decide (n ≤ hi)
theorem inB_iff {n lo hi : Int} : inB n lo hi = true ↔ lo ≤ n ∧ n ≤ hi := by unfold inB; simp
theorem impl_within_f (n lo hi : Int) : impl_within.f n lo hi = some (inB n lo hi) := by
  unfold impl_within.f impl_within.fn impl_within.top inB
  by_cases h : lo ≤ n <;> simp [h]
theorem spec_l01In_f (n lo hi : Int) : spec_l01In.f n lo hi = some (inB n lo hi) := by
  unfold spec_l01In.f spec_l01In.fn spec_l01In.top inB
  by_cases h : lo ≤ n <;> simp [h]
/-- a letter -/
def letB (c : UInt8) : Bool := !(decide ((c.toNat : Int) < 97)) && !(decide (122 < (c.toNat : Int)))
def wordB (s : ByteArray) : Bool := decide (1 ≤ s.size) && decide (s.size ≤ 16) && (bl s).all letB
theorem wordB_size {s : ByteArray} (h : wordB s = true) : 1 ≤ s.size ∧ s.size ≤ 16 := by
  unfold wordB at h; simp at h; exact h.1
theorem impl_IsWord_loop (s : ByteArray) (h : s.size ≤ 140737488355328) : impl_IsWord.l4 NN NN s 0 = if (bl s).all letB = true then some true else some false := by
  refine all_loop_str letB (fun s => some true) (fun k s i => impl_IsWord.l4 NN k s i) ?_ ?_ s h NN (NN_lt (by omega))
  · intro k p
    show impl_IsWord.g4 _ (ob p) p.length = _
    simp [impl_IsWord.g4, ob_size, spec_l01In_f]
  · intro k p a r c0 c1 cw
    show impl_IsWord.g4 (impl_IsWord.l4 NN k) (ob (p ++ a :: r)) p.length = _
    simp only [impl_IsWord.g4, c0, c1, cw, and_self, and_true, true_and, decide_true, decide_false, if_true, if_false, mid_get, mid_set, mid_getn, mid_setn, bt_mid, Option.bind_some, Bool.not_true, Bool.not_false, Bool.false_eq_true, Bool.true_eq_false, beq_self_eq_true, bne_self_eq_false, Int.toNat_natCast]
    unfold letB
    by_cases h1 : (a.toNat : Int) < 97 <;> by_cases h2 : (122 : Int) < (a.toNat : Int) <;> simp [h1, h2]
theorem spec_IsWord_loop (s : ByteArray) (h : s.size ≤ 140737488355328) : spec_IsWord.l2 NN NN s 0 = if (bl s).all letB = true then some (inB s.size 1 16) else some false := by
  refine all_loop_str letB (fun s => some (inB s.size 1 16)) (fun k s i => spec_IsWord.l2 NN k s i) ?_ ?_ s h NN (NN_lt (by omega))
  · intro k p
    show spec_IsWord.g2 _ (ob p) p.length = _
    simp [spec_IsWord.g2, ob_size, spec_l01In_f]
  · intro k p a r c0 c1 cw
    show spec_IsWord.g2 (spec_IsWord.l2 NN k) (ob (p ++ a :: r)) p.length = _
    simp only [spec_IsWord.g2, c0, c1, cw, and_self, and_true, true_and, decide_true, decide_false, if_true, if_false, mid_get, mid_set, mid_getn, mid_setn, bt_mid, Option.bind_some, Bool.not_true, Bool.not_false, Bool.false_eq_true, Bool.true_eq_false, beq_self_eq_true, bne_self_eq_false, Int.toNat_natCast]
    unfold letB
    by_cases h1 : (a.toNat : Int) < 97 <;> by_cases h2 : (122 : Int) < (a.toNat : Int) <;> simp [h1, h2]
theorem impl_IsWord_f (s : ByteArray) (h : s.size ≤ 140737488355328) : impl_IsWord.f s = some (wordB s) := by
  unfold impl_IsWord.f impl_IsWord.fn impl_IsWord.top
  rw [impl_IsWord_loop s h]
  unfold wordB
  by_cases h1 : (s.size : Int) < 1
  · have : ¬ 1 ≤ s.size := by omega
    simp [h1, this]
  · have e1 : 1 ≤ s.size := by omega
    by_cases h2 : (16 : Int) < s.size
    · have : ¬ s.size ≤ 16 := by omega
      simp [h1, h2, this]
    · have : s.size ≤ 16 := by omega
      cases h3 : (bl s).all letB <;> simp [h1, h2, this, h3, e1]
theorem spec_IsWord_f (s : ByteArray) (h : s.size ≤ 140737488355328) : spec_IsWord.f s = some (wordB s) := by
  unfold spec_IsWord.f spec_IsWord.fn spec_IsWord.top
  rw [spec_IsWord_loop s h]
  unfold wordB inB
  have e1 : decide ((1 : Int) ≤ s.size) = decide (1 ≤ s.size) := by congr 1; simp; omega
  have e2 : decide ((s.size : Int) ≤ 16) = decide (s.size ≤ 16) := by congr 1; simp; omega
  rw [e1, e2]
  cases h3 : (bl s).all letB <;> simp
end Go.Pl

namespace Go.Pl
open Go.Ev
set_option linter.unusedVariables false
set_option linter.unusedSimpArgs false
def PlRatio (x : Int × Int) : Prop := Rg .i64 x.1 ∧ Rg .i64 x.2
def OkRatio (x : Int × Int) : Prop := Rg .i64 x.1 ∧ Rg .i64 x.2
def PlArticle (x : ByteArray × Int × Int × Int × Int × Int × Int × Int × Int) : Prop := Sz x.1 ∧ Rg .i64 x.2.1 ∧ Rg .i64 x.2.2.1 ∧ Rg .i64 x.2.2.2.1 ∧ Rg .i64 x.2.2.2.2.1 ∧ Rg .i64 x.2.2.2.2.2.1 ∧ Rg .i64 x.2.2.2.2.2.2.1 ∧ Rg .i64 x.2.2.2.2.2.2.2.1 ∧ Rg .i64 x.2.2.2.2.2.2.2.2
def OkArticle (x : ByteArray × Int × Int × Int × Int × Int × Int × Int × Int) : Prop := Sm x.1 ∧ Rg .i64 x.2.1 ∧ Rg .i64 x.2.2.1 ∧ Rg .i64 x.2.2.2.1 ∧ Rg .i64 x.2.2.2.2.1 ∧ Rg .i64 x.2.2.2.2.2.1 ∧ Rg .i64 x.2.2.2.2.2.2.1 ∧ Rg .i64 x.2.2.2.2.2.2.2.1 ∧ Rg .i64 x.2.2.2.2.2.2.2.2
def PlLayer (x : Int × Int × Int) : Prop := Rg .i64 x.1 ∧ Rg .i64 x.2.1 ∧ Rg .i64 x.2.2
def OkLayer (x : Int × Int × Int) : Prop := Rg .i64 x.1 ∧ Rg .i64 x.2.1 ∧ Rg .i64 x.2.2
def PlShot (x : Int × Int × Int × Int) : Prop := Rg .i64 x.1 ∧ Rg .i64 x.2.1 ∧ Rg .i64 x.2.2.1 ∧ Rg .i64 x.2.2.2
def OkShot (x : Int × Int × Int × Int) : Prop := Rg .i64 x.1 ∧ Rg .i64 x.2.1 ∧ Rg .i64 x.2.2.1 ∧ Rg .i64 x.2.2.2
def PlBar (x : Int × Int) : Prop := Rg .i64 x.1 ∧ Rg .i64 x.2
def OkBar (x : Int × Int) : Prop := Rg .i64 x.1 ∧ Rg .i64 x.2
def PlCue (x : Int × Int × ByteArray × Int) : Prop := Rg .i64 x.1 ∧ Rg .i64 x.2.1 ∧ Sz x.2.2.1 ∧ Rg .i64 x.2.2.2
def OkCue (x : Int × Int × ByteArray × Int) : Prop := Rg .i64 x.1 ∧ Rg .i64 x.2.1 ∧ Sm x.2.2.1 ∧ Rg .i64 x.2.2.2
def PlShow (x : (List (Int × Int)) × (List (ByteArray × Int × Int × Int × Int × Int × Int × Int × Int)) × (List (Int × Int × ByteArray × Int))) : Prop := Ls PlBar x.1 ∧ Ls PlArticle x.2.1 ∧ Ls PlCue x.2.2
def OkShow (x : (List (Int × Int)) × (List (ByteArray × Int × Int × Int × Int × Int × Int × Int × Int)) × (List (Int × Int × ByteArray × Int))) : Prop := Lm OkBar x.1 ∧ Lm OkArticle x.2.1 ∧ Lm OkCue x.2.2
def PlFuse (x : Int × Int × Int × Int) : Prop := Rg .i64 x.1 ∧ Rg .i64 x.2.1 ∧ Rg .i64 x.2.2.1 ∧ Rg .i64 x.2.2.2
def OkFuse (x : Int × Int × Int × Int) : Prop := Rg .i64 x.1 ∧ Rg .i64 x.2.1 ∧ Rg .i64 x.2.2.1 ∧ Rg .i64 x.2.2.2
def PlLink (x : Int × Int) : Prop := Rg .i64 x.1 ∧ Rg .i64 x.2
def OkLink (x : Int × Int) : Prop := Rg .i64 x.1 ∧ Rg .i64 x.2
def PlModule (x : Int × Int) : Prop := Rg .i64 x.1 ∧ Rg .i64 x.2
def OkModule (x : Int × Int) : Prop := Rg .i64 x.1 ∧ Rg .i64 x.2
def PlWire (x : Int × Int × Int) : Prop := Rg .i64 x.1 ∧ Rg .i64 x.2.1 ∧ Rg .i64 x.2.2
def OkWire (x : Int × Int × Int) : Prop := Rg .i64 x.1 ∧ Rg .i64 x.2.1 ∧ Rg .i64 x.2.2
def PlCircuit (x : Int × List Int) : Prop := Rg .i64 x.1 ∧ Ls (Rg .i64) x.2
def OkCircuit (x : Int × List Int) : Prop := Rg .i64 x.1 ∧ Lm (Rg .i64) x.2
def PlArea (x : Int × Int × Int × Int × Int) : Prop := Rg .i64 x.1 ∧ Rg .i64 x.2.1 ∧ Rg .i64 x.2.2.1 ∧ Rg .i64 x.2.2.2.1 ∧ Rg .i64 x.2.2.2.2
def OkArea (x : Int × Int × Int × Int × Int) : Prop := Rg .i64 x.1 ∧ Rg .i64 x.2.1 ∧ Rg .i64 x.2.2.1 ∧ Rg .i64 x.2.2.2.1 ∧ Rg .i64 x.2.2.2.2
def PlDemand (x : Int × Int × Int) : Prop := Rg .i64 x.1 ∧ Rg .i64 x.2.1 ∧ Rg .i64 x.2.2
def OkDemand (x : Int × Int × Int) : Prop := Rg .i64 x.1 ∧ Rg .i64 x.2.1 ∧ Rg .i64 x.2.2
def PlRack (x : Int × Int × List Int × List ByteArray) : Prop := Rg .i64 x.1 ∧ Rg .i64 x.2.1 ∧ Ls (Rg .i64) x.2.2.1 ∧ Ls Sz x.2.2.2
def OkRack (x : Int × Int × List Int × List ByteArray) : Prop := Rg .i64 x.1 ∧ Rg .i64 x.2.1 ∧ Lm (Rg .i64) x.2.2.1 ∧ Lm Sm x.2.2.2
def PlField (x : (List (Int × Int × Int)) × (List (Int × Int × Int × Int × Int)) × List Int × List Int × List Int × Int) : Prop := Ls PlDemand x.1 ∧ Ls PlArea x.2.1 ∧ Ls (Rg .i64) x.2.2.1 ∧ Ls (Rg .i64) x.2.2.2.1 ∧ Ls (Rg .i64) x.2.2.2.2.1 ∧ Rg .i64 x.2.2.2.2.2
def OkField (x : (List (Int × Int × Int)) × (List (Int × Int × Int × Int × Int)) × List Int × List Int × List Int × Int) : Prop := Lm OkDemand x.1 ∧ Lm OkArea x.2.1 ∧ Lm (Rg .i64) x.2.2.1 ∧ Lm (Rg .i64) x.2.2.2.1 ∧ Lm (Rg .i64) x.2.2.2.2.1 ∧ Rg .i64 x.2.2.2.2.2
def PlMove (x : Int × ByteArray × Int) : Prop := Rg .i64 x.1 ∧ Sz x.2.1 ∧ Rg .i64 x.2.2
def OkMove (x : Int × ByteArray × Int) : Prop := Rg .i64 x.1 ∧ Sm x.2.1 ∧ Rg .i64 x.2.2
def PlController (x : Bool × Bool × Bool × Bool × Bool × Int) : Prop := True ∧ True ∧ True ∧ True ∧ True ∧ Rg .i64 x.2.2.2.2.2
def OkController (x : Bool × Bool × Bool × Bool × Bool × Int) : Prop := True ∧ True ∧ True ∧ True ∧ True ∧ Rg .i64 x.2.2.2.2.2
def PlSignal (x : Int × Int) : Prop := Rg .i64 x.1 ∧ Rg .i64 x.2
def OkSignal (x : Int × Int) : Prop := Rg .i64 x.1 ∧ Rg .i64 x.2
def PlTry (x : Int × Int × Bool) : Prop := Rg .i64 x.1 ∧ Rg .i64 x.2.1 ∧ True
def OkTry (x : Int × Int × Bool) : Prop := Rg .i64 x.1 ∧ Rg .i64 x.2.1 ∧ True
def PlMagazine (x : Int × List Int) : Prop := Rg .i64 x.1 ∧ Ls (Rg .i64) x.2
def OkMagazine (x : Int × List Int) : Prop := Rg .i64 x.1 ∧ Lm (Rg .i64) x.2
def PlDepot (x : Int × Int × Int) : Prop := Rg .i64 x.1 ∧ Rg .i64 x.2.1 ∧ Rg .i64 x.2.2
def OkDepot (x : Int × Int × Int) : Prop := Rg .i64 x.1 ∧ Rg .i64 x.2.1 ∧ Rg .i64 x.2.2
def PlBox (x : Int × Int) : Prop := Rg .i64 x.1 ∧ Rg .i64 x.2
def OkBox (x : Int × Int) : Prop := Rg .i64 x.1 ∧ Rg .i64 x.2
def PlLine (x : ByteArray × Int) : Prop := Sz x.1 ∧ Rg .i64 x.2
def OkLine (x : ByteArray × Int) : Prop := Sm x.1 ∧ Rg .i64 x.2
def PlPaper (x : ByteArray × Int × (List (ByteArray × Int))) : Prop := Sz x.1 ∧ Rg .i64 x.2.1 ∧ Ls PlLine x.2.2
def OkPaper (x : ByteArray × Int × (List (ByteArray × Int))) : Prop := Sm x.1 ∧ Rg .i64 x.2.1 ∧ Lm OkLine x.2.2
def PlPermit (x : Int × Int × Int × Int × List Int × Int) : Prop := Rg .i64 x.1 ∧ Rg .i64 x.2.1 ∧ Rg .i64 x.2.2.1 ∧ Rg .i64 x.2.2.2.1 ∧ Ls (Rg .i64) x.2.2.2.2.1 ∧ Rg .i64 x.2.2.2.2.2
def OkPermit (x : Int × Int × Int × Int × List Int × Int) : Prop := Rg .i64 x.1 ∧ Rg .i64 x.2.1 ∧ Rg .i64 x.2.2.1 ∧ Rg .i64 x.2.2.2.1 ∧ Lm (Rg .i64) x.2.2.2.2.1 ∧ Rg .i64 x.2.2.2.2.2
def PlGrid (x : Int × Int × List Bool) : Prop := Rg .i64 x.1 ∧ Rg .i64 x.2.1 ∧ Ls (fun _ => True) x.2.2
def OkGrid (x : Int × Int × List Bool) : Prop := Rg .i64 x.1 ∧ Rg .i64 x.2.1 ∧ Lm (fun _ => True) x.2.2
def PlBooking (x : Int × ByteArray × Int) : Prop := Rg .i64 x.1 ∧ Sz x.2.1 ∧ Rg .i64 x.2.2
def OkBooking (x : Int × ByteArray × Int) : Prop := Rg .i64 x.1 ∧ Sm x.2.1 ∧ Rg .i64 x.2.2
def PlEntry (x : Int × ByteArray) : Prop := Rg .u8 x.1 ∧ Sz x.2
def OkEntry (x : Int × ByteArray) : Prop := Rg .u8 x.1 ∧ Sm x.2
def PlDesk (x : (List (Int × ByteArray × Int)) × (List (Int × Int)) × (List (Int × ByteArray × Int))) : Prop := Ls PlMove x.1 ∧ Ls PlSignal x.2.1 ∧ Ls PlBooking x.2.2
def OkDesk (x : (List (Int × ByteArray × Int)) × (List (Int × Int)) × (List (Int × ByteArray × Int))) : Prop := Lm OkMove x.1 ∧ Lm OkSignal x.2.1 ∧ Lm OkBooking x.2.2
end Go.Pl

namespace Go.Pl
open Go.Ev
set_option linter.unusedVariables false
set_option linter.unusedSimpArgs false
abbrev Mov := Int × ByteArray × Int
def movB (m : Mov) : Bool := inB m.1 0 10000000 && wordB m.2.1 && inB m.2.2 (-1000) 1000 && !decide (m.2.2 = 0)
theorem movB_iff {m : Mov} (h : movB m = true) : (0 ≤ m.1 ∧ m.1 ≤ 10000000) ∧ wordB m.2.1 = true ∧ (-1000 ≤ m.2.2 ∧ m.2.2 ≤ 1000) := by
  unfold movB at h
  simp only [Bool.and_eq_true, inB_iff] at h
  exact ⟨h.1.1.1, h.1.1.2, h.1.2⟩
theorem impl_isTime_f (t : Int) : impl_isTime.f t = some (inB t 0 10000000) := by
  unfold impl_isTime.f impl_isTime.fn impl_isTime.top
  rw [impl_within_f]; rfl
theorem impl_isTick_f (t : Int) : impl_isTick.f t = some (inB t 0 100000) := by
  unfold impl_isTick.f impl_isTick.fn impl_isTick.top
  rw [impl_within_f]; rfl
theorem spec_l01IsTime_f (t : Int) : spec_l01IsTime.f t = some (inB t 0 10000000) := by
  unfold spec_l01IsTime.f spec_l01IsTime.fn spec_l01IsTime.top
  rw [spec_l01In_f]; rfl
def addP (z : ByteArray) (s : Int) (m : Mov) : Int := if m.2.1 = z then s + m.2.2 else s
def peopS (xs : List Mov) (z : ByteArray) : Int := xs.foldl (addP z) 0
theorem peop_bd (z : ByteArray) : ∀ (xs : List Mov) (s : Int), (∀ m ∈ xs, movB m = true) → s - 1000 * (xs.length : Int) ≤ xs.foldl (addP z) s ∧ xs.foldl (addP z) s ≤ s + 1000 * (xs.length : Int) := by
  intro xs
  induction xs with
  | nil => intro s _; simp
  | cons m r ih =>
    intro s h
    have h1 := movB_iff (h m (by simp))
    have h2 := ih (addP z s m) (fun x hx => h x (by simp [hx]))
    have h3 : s - 1000 ≤ addP z s m ∧ addP z s m ≤ s + 1000 := by unfold addP; split <;> omega
    simp only [List.foldl_cons, List.length_cons]
    omega
theorem impl_peopleIn_f (xs : List Mov) (z : ByteArray) (t : Int) (h : ∀ m ∈ xs, movB m = true) (ht : ∀ m ∈ xs, m.1 ≤ t) (hl : xs.length ≤ 1000000) : impl_peopleIn.f xs z t = some (peopS xs z) := by
  have := (fold_fix (E := fun m : Mov => movB m = true ∧ m.1 ≤ t) (fun p st => -(1000 * (p.length : Int)) ≤ st ∧ st ≤ 1000 * (p.length : Int)) (fun _ => addP z) (fun st => some st) (fun k i st => impl_peopleIn.l3 NN k z t st xs xs.length i) xs ?_ ?_ 0 (fun m hm => ⟨h m hm, ht m hm⟩) (by simp) (by omega) NN (NN_lt (by omega))).2
  · rw [foldi_foldl] at this
    exact this
  · intro k st _
    simp [impl_peopleIn.l3, impl_peopleIn.g3]
  · intro k p m r st hx hm hI c0 c1 c2 cw g
    have hb := movB_iff hm.1
    have hp : p.length ≤ 1000000 := by omega
    have w1 := w64 (n := st + m.2.2) (by omega) (by omega)
    have q := hm.2
    refine ⟨by unfold addP; rw [List.length_append, List.length_singleton]; split <;> omega, ?_⟩
    simp only [impl_peopleIn.l3, impl_peopleIn.g3, c0, c1, cw, and_self, and_true, true_and, decide_true, decide_false, if_true, if_false, mid_get, mid_set, mid_getn, mid_setn, bt_mid, Option.bind_some, Bool.not_true, Bool.not_false, Bool.false_eq_true, Bool.true_eq_false, beq_self_eq_true, bne_self_eq_false, Int.toNat_natCast, g, ba_beq, q, w1]
    unfold addP
    by_cases e : m.2.1 = z <;> simp [e]
theorem spec_l20People_f (xs rest : List Mov) (z : ByteArray) (h : ∀ m ∈ xs, movB m = true) (hl : xs.length ≤ 1000000) : spec_l20People.f (xs ++ rest) z xs.length = some (peopS xs z) := by
  have := (fold_fix (E := fun m : Mov => movB m = true) (fun p st => -(1000 * (p.length : Int)) ≤ st ∧ st ≤ 1000 * (p.length : Int)) (fun _ => addP z) (fun st => some st) (fun k i st => spec_l20People.l3 NN k (xs ++ rest) z xs.length st i) xs ?_ ?_ 0 h (by simp) (by omega) NN (NN_lt (by omega))).2
  · rw [foldi_foldl] at this
    exact this
  · intro k st _
    simp [spec_l20People.l3, spec_l20People.g3]
  · intro k p m r st hx hm hI c0 c1 c2 cw g
    have hb := movB_iff hm
    have hp : p.length ≤ 1000000 := by omega
    have w1 := w64 (n := st + m.2.2) (by omega) (by omega)
    have c3 : (p.length : Int) < ((xs ++ rest).length : Int) := by simp; omega
    have g2 : ∀ w, (xs ++ rest).getD p.length w = m := fun w => by rw [hx, List.append_assoc, List.cons_append, mid_getn]
    refine ⟨by unfold addP; rw [List.length_append, List.length_singleton]; split <;> omega, ?_⟩
    simp only [spec_l20People.l3, spec_l20People.g3, c0, c1, c3, cw, and_self, and_true, true_and, decide_true, decide_false, if_true, if_false, mid_get, mid_set, mid_getn, mid_setn, bt_mid, Option.bind_some, Bool.not_true, Bool.not_false, Bool.false_eq_true, Bool.true_eq_false, beq_self_eq_true, bne_self_eq_false, Int.toNat_natCast, g2, ba_beq, w1]
    unfold addP
    by_cases e : m.2.1 = z <;> simp [e]
def prevM (p : List Mov) (t : Int) : Bool := match p.getLast? with | none => true | some y => !decide (t < y.1)
def movF (p : List Mov) : List Mov → Bool
  | [] => true
  | m :: r => movB m && (prevM p m.1 && (!decide (peopS (p ++ [m]) m.2.1 < 0) && movF (p ++ [m]) r))
def movesB (xs : List Mov) : Bool := decide (xs.length ≤ 40) && movF [] xs
structure MvI (p : List Mov) : Prop where
  ok : ∀ m ∈ p, movB m = true
  le : ∀ m ∈ p, ∀ y, p.getLast? = some y → m.1 ≤ y.1
theorem mvi_snoc {p : List Mov} {m : Mov} (h : MvI p) (hm : movB m = true) (hp : prevM p m.1 = true) : MvI (p ++ [m]) ∧ ∀ x ∈ p ++ [m], x.1 ≤ m.1 := by
  have key : ∀ x ∈ p ++ [m], x.1 ≤ m.1 := fun x hx => by
    rcases List.mem_append.1 hx with h1 | h1
    · unfold prevM at hp
      cases e : p.getLast? with
      | none => rw [List.getLast?_eq_none_iff.1 e] at h1; cases h1
      | some y =>
        rw [e] at hp
        simp only [Bool.not_eq_true', decide_eq_false_iff_not] at hp
        have := h.le x h1 y e
        omega
    · rw [List.mem_singleton.1 h1]; omega
  refine ⟨⟨fun x hx => ?_, fun x hx y hy => ?_⟩, key⟩
  · rcases List.mem_append.1 hx with h1 | h1
    · exact h.ok x h1
    · rw [List.mem_singleton.1 h1]; exact hm
  · rw [List.getLast?_append] at hy
    simp at hy
    rw [← hy]; exact key x hx
theorem last_cases {α : Type} (p : List α) : p = [] ∨ ∃ q y, p = q ++ [y] := by
  rcases List.eq_nil_or_concat p with h | ⟨q, y, h⟩
  · exact .inl h
  · exact .inr ⟨q, y, by rw [h]; simp⟩
theorem last_snoc {α : Type} (q : List α) (y : α) : (q ++ [y]).getLast? = some y := by simp
theorem impl_AreMoves_l : ∀ (r p : List Mov) (k : Nat), MvI p → (∀ m ∈ r, Sz m.2.1) → p.length + r.length ≤ 1000000 → r.length < k → impl_AreMoves.l4 NN k (p ++ r) (p ++ r) (p ++ r).length p.length = some (movF p r) := by
  intro r
  induction r with
  | nil =>
    intro p k _ _ _ hk
    obtain ⟨k, rfl⟩ : ∃ j, k = j + 1 := ⟨k - 1, by omega⟩
    simp [impl_AreMoves.l4, impl_AreMoves.g4, movF]
  | cons m r ih =>
    intro p k hI hs hb hk
    simp only [List.length_cons] at hb hk
    obtain ⟨k, rfl⟩ : ∃ j, k = j + 1 := ⟨k - 1, by omega⟩
    have hl := mid_len p r m
    have c0 : (0 : Int) ≤ (p.length : Int) := by omega
    have c1 : (p.length : Int) < ((p ++ m :: r).length : Int) := by omega
    have cw := w64 (n := (p.length : Int) + 1) (by omega) (by omega)
    have c3 : (0 : Int) ≤ (p.length : Int) + 1 := by omega
    have c4 : (p.length : Int) + 1 ≤ ((p ++ m :: r).length : Int) := by omega
    have t1 : ((p.length : Int) + 1).toNat = (p ++ [m]).length := by simp
    have htk : (p ++ m :: r).take (p ++ [m]).length = p ++ [m] := by rw [← mid_snoc p r m, List.take_left]
    simp only [impl_AreMoves.l4, impl_AreMoves.g4, c0, c1, c3, c4, cw, t1, htk, and_self, and_true, true_and, decide_true, decide_false, if_true, if_false, mid_get, mid_set, mid_getn, mid_setn, bt_mid, Option.bind_some, Bool.not_true, Bool.not_false, Bool.false_eq_true, Bool.true_eq_false, beq_self_eq_true, bne_self_eq_false, Int.toNat_natCast, impl_isTime_f, impl_IsWord_f _ (hs m (by simp)), impl_within_f]
    by_cases hm : movB m = true
    rotate_left
    · have e : movF p (m :: r) = false := by simp only [movF]; cases q : movB m; rfl; exact absurd q hm
      rw [e]
      unfold movB at hm
      simp only [Bool.and_eq_true, Bool.not_eq_true', decide_eq_false_iff_not, not_and] at hm
      by_cases h1 : inB m.1 0 10000000 = true
      · by_cases h2 : wordB m.2.1 = true
        · by_cases h3 : inB m.2.2 (-1000) 1000 = true
          · have h4 : m.2.2 = 0 := by have := hm ⟨⟨h1, h2⟩, h3⟩; omega
            simp [h1, h2, h3, h4]
          · simp [h1, h2, h3]
        · simp [h1, h2]
      · simp [h1]
    have hm' := hm
    unfold movB at hm'
    simp only [Bool.and_eq_true, Bool.not_eq_true', decide_eq_false_iff_not] at hm'
    obtain ⟨⟨⟨h1, h2⟩, h3⟩, h4⟩ := hm'
    have h4' : (m.2.2 == 0) = false := by simpa using h4
    simp only [h1, h2, h3, h4', and_self, and_true, true_and, decide_true, decide_false, if_true, if_false, mid_get, mid_set, mid_getn, mid_setn, bt_mid, Option.bind_some, Bool.not_true, Bool.not_false, Bool.false_eq_true, Bool.true_eq_false, beq_self_eq_true, bne_self_eq_false, Int.toNat_natCast]
    have fin : prevM p m.1 = true → ((impl_peopleIn.f (p ++ [m]) m.2.1 m.1).bind fun r4 => if (decide (r4 < 0)) = true then some false else impl_AreMoves.l4 NN k (p ++ m :: r) (p ++ m :: r) (p ++ m :: r).length ((p.length : Int) + 1)) = some (movF p (m :: r)) := fun hp => by
      obtain ⟨q1, q2⟩ := mvi_snoc hI hm hp
      rw [impl_peopleIn_f _ _ _ q1.ok q2 (by simp; omega)]
      have := ih (p ++ [m]) k q1 (fun x hx => hs x (by simp [hx])) (by simp; omega) (by omega)
      rw [mid_snoc, snoc_len] at this
      simp only [movF, hm, hp, Bool.true_and, Option.bind_some, this]
      by_cases e : peopS (p ++ [m]) m.2.1 < 0 <;> simp [e]
    rcases last_cases p with hp | ⟨q, y, hp⟩
    · have n1 : ¬ (0 : Int) < (p.length : Int) := by rw [hp]; simp
      simp only [n1, and_self, and_true, true_and, decide_true, decide_false, if_true, if_false, mid_get, mid_set, mid_getn, mid_setn, bt_mid, Option.bind_some, Bool.not_true, Bool.not_false, Bool.false_eq_true, Bool.true_eq_false, beq_self_eq_true, bne_self_eq_false, Int.toNat_natCast]
      exact fin (by rw [hp]; rfl)
    · have hpl : (p.length : Int) - 1 = (q.length : Int) := by rw [hp]; simp
      have n1 : (0 : Int) < (p.length : Int) := by rw [hp]; simp
      have w1 := w64 (n := (q.length : Int)) (by omega) (by omega)
      have q0 : (0 : Int) ≤ (q.length : Int) := by omega
      have q1 : (q.length : Int) < ((p ++ m :: r).length : Int) := by omega
      have g2 : ∀ z, (p ++ m :: r).getD q.length z = y := fun z => by rw [hp, List.append_assoc, List.singleton_append, mid_getn]
      simp only [n1, hpl, w1, q0, q1, g2, and_self, and_true, true_and, decide_true, decide_false, if_true, if_false, mid_get, mid_set, mid_getn, mid_setn, bt_mid, Option.bind_some, Bool.not_true, Bool.not_false, Bool.false_eq_true, Bool.true_eq_false, beq_self_eq_true, bne_self_eq_false, Int.toNat_natCast]
      have hpr : prevM p m.1 = !decide (m.1 < y.1) := by unfold prevM; rw [hp, last_snoc]
      by_cases e : m.1 < y.1
      · have : movF p (m :: r) = false := by simp [movF, hpr, e]
        simp [e, this]
      · simp only [e, and_self, and_true, true_and, decide_true, decide_false, if_true, if_false, mid_get, mid_set, mid_getn, mid_setn, bt_mid, Option.bind_some, Bool.not_true, Bool.not_false, Bool.false_eq_true, Bool.true_eq_false, beq_self_eq_true, bne_self_eq_false, Int.toNat_natCast]
        exact fin (by rw [hpr]; simp [e])
theorem spec_AreMoves_l : ∀ (r p : List Mov) (k : Nat), MvI p → (∀ m ∈ r, Sz m.2.1) → p.length + r.length ≤ 1000000 → r.length < k → spec_AreMoves.l2 NN k (p ++ r) p.length = some (movF p r && decide ((p ++ r).length ≤ 40)) := by
  intro r
  induction r with
  | nil =>
    intro p k _ _ _ hk
    obtain ⟨k, rfl⟩ : ∃ j, k = j + 1 := ⟨k - 1, by omega⟩
    have e : decide ((p.length : Int) ≤ 40) = decide (p.length ≤ 40) := by congr 1; exact propext (by omega)
    simp [spec_AreMoves.l2, spec_AreMoves.g2, movF, e]
  | cons m r ih =>
    intro p k hI hs hb hk
    simp only [List.length_cons] at hb hk
    obtain ⟨k, rfl⟩ : ∃ j, k = j + 1 := ⟨k - 1, by omega⟩
    have hl := mid_len p r m
    have c0 : (0 : Int) ≤ (p.length : Int) := by omega
    have c1 : (p.length : Int) < ((p ++ m :: r).length : Int) := by omega
    have cw := w64 (n := (p.length : Int) + 1) (by omega) (by omega)
    simp only [spec_AreMoves.l2, spec_AreMoves.g2, c0, c1, cw, and_self, and_true, true_and, decide_true, decide_false, if_true, if_false, mid_get, mid_set, mid_getn, mid_setn, bt_mid, Option.bind_some, Bool.not_true, Bool.not_false, Bool.false_eq_true, Bool.true_eq_false, beq_self_eq_true, bne_self_eq_false, Int.toNat_natCast, spec_l01IsTime_f, spec_IsWord_f _ (hs m (by simp)), spec_l01In_f]
    by_cases hm : movB m = true
    rotate_left
    · have e : movF p (m :: r) = false := by simp only [movF]; cases q : movB m; rfl; exact absurd q hm
      rw [e]
      unfold movB at hm
      simp only [Bool.and_eq_true, Bool.not_eq_true', decide_eq_false_iff_not, not_and] at hm
      by_cases h1 : inB m.1 0 10000000 = true
      · by_cases h2 : wordB m.2.1 = true
        · by_cases h3 : inB m.2.2 (-1000) 1000 = true
          · have h4 : m.2.2 = 0 := by have := hm ⟨⟨h1, h2⟩, h3⟩; omega
            simp [h1, h2, h3, h4]
          · simp [h1, h2, h3]
        · simp [h1, h2]
      · simp [h1]
    have hm' := hm
    unfold movB at hm'
    simp only [Bool.and_eq_true, Bool.not_eq_true', decide_eq_false_iff_not] at hm'
    obtain ⟨⟨⟨h1, h2⟩, h3⟩, h4⟩ := hm'
    have h4' : (m.2.2 == 0) = false := by simpa using h4
    simp only [h1, h2, h3, h4', and_self, and_true, true_and, decide_true, decide_false, if_true, if_false, mid_get, mid_set, mid_getn, mid_setn, bt_mid, Option.bind_some, Bool.not_true, Bool.not_false, Bool.false_eq_true, Bool.true_eq_false, beq_self_eq_true, bne_self_eq_false, Int.toNat_natCast]
    have fin : prevM p m.1 = true → ((spec_l20People.f (p ++ m :: r) m.2.1 ((p.length : Int) + 1)).bind fun r4 => if (decide (r4 < 0)) = true then some false else spec_AreMoves.l2 NN k (p ++ m :: r) ((p.length : Int) + 1)) = some (movF p (m :: r) && decide ((p ++ m :: r).length ≤ 40)) := fun hp => by
      obtain ⟨q1, q2⟩ := mvi_snoc hI hm hp
      have hpe := spec_l20People_f (p ++ [m]) r m.2.1 q1.ok (by simp; omega)
      rw [mid_snoc, snoc_len] at hpe
      rw [hpe]
      have := ih (p ++ [m]) k q1 (fun x hx => hs x (by simp [hx])) (by simp; omega) (by omega)
      rw [mid_snoc, snoc_len] at this
      simp only [movF, hm, hp, Bool.true_and, Option.bind_some, this]
      by_cases e : peopS (p ++ [m]) m.2.1 < 0 <;> simp [e]
    rcases last_cases p with hp | ⟨q, y, hp⟩
    · have n1 : ¬ (0 : Int) < (p.length : Int) := by rw [hp]; simp
      simp only [n1, and_self, and_true, true_and, decide_true, decide_false, if_true, if_false, mid_get, mid_set, mid_getn, mid_setn, bt_mid, Option.bind_some, Bool.not_true, Bool.not_false, Bool.false_eq_true, Bool.true_eq_false, beq_self_eq_true, bne_self_eq_false, Int.toNat_natCast]
      exact fin (by rw [hp]; rfl)
    · have hpl : (p.length : Int) - 1 = (q.length : Int) := by rw [hp]; simp
      have n1 : (0 : Int) < (p.length : Int) := by rw [hp]; simp
      have w1 := w64 (n := (q.length : Int)) (by omega) (by omega)
      have q0 : (0 : Int) ≤ (q.length : Int) := by omega
      have q1 : (q.length : Int) < ((p ++ m :: r).length : Int) := by omega
      have g2 : ∀ z, (p ++ m :: r).getD q.length z = y := fun z => by rw [hp, List.append_assoc, List.singleton_append, mid_getn]
      simp only [n1, hpl, w1, q0, q1, g2, and_self, and_true, true_and, decide_true, decide_false, if_true, if_false, mid_get, mid_set, mid_getn, mid_setn, bt_mid, Option.bind_some, Bool.not_true, Bool.not_false, Bool.false_eq_true, Bool.true_eq_false, beq_self_eq_true, bne_self_eq_false, Int.toNat_natCast]
      have hpr : prevM p m.1 = !decide (m.1 < y.1) := by unfold prevM; rw [hp, last_snoc]
      by_cases e : m.1 < y.1
      · have : movF p (m :: r) = false := by simp [movF, hpr, e]
        simp [e, this]
      · simp only [e, and_self, and_true, true_and, decide_true, decide_false, if_true, if_false, mid_get, mid_set, mid_getn, mid_setn, bt_mid, Option.bind_some, Bool.not_true, Bool.not_false, Bool.false_eq_true, Bool.true_eq_false, beq_self_eq_true, bne_self_eq_false, Int.toNat_natCast]
        exact fin (by rw [hpr]; simp [e])
theorem mvi_nil : MvI [] := ⟨by simp, by simp⟩
theorem impl_AreMoves_f (xs : List Mov) (hl : xs.length ≤ 1000000) (hs : ∀ m ∈ xs, Sz m.2.1) : impl_AreMoves.f xs = some (movesB xs) := by
  unfold impl_AreMoves.f impl_AreMoves.fn impl_AreMoves.top movesB
  have := impl_AreMoves_l xs [] NN mvi_nil hs (by simpa using hl) (NN_lt (by omega))
  rw [List.nil_append] at this
  by_cases h8 : (40 : Int) < (xs.length : Int)
  · have : ¬ xs.length ≤ 40 := by omega
    simp [h8, this]
  · have e8 : xs.length ≤ 40 := by omega
    simp only [h8, e8, and_self, and_true, true_and, decide_true, decide_false, if_true, if_false, mid_get, mid_set, mid_getn, mid_setn, bt_mid, Option.bind_some, Bool.not_true, Bool.not_false, Bool.false_eq_true, Bool.true_eq_false, beq_self_eq_true, bne_self_eq_false, Int.toNat_natCast, Bool.true_and]
    exact this
theorem spec_AreMoves_f (xs : List Mov) (hl : xs.length ≤ 1000000) (hs : ∀ m ∈ xs, Sz m.2.1) : spec_AreMoves.f xs = some (movesB xs) := by
  unfold spec_AreMoves.f spec_AreMoves.fn spec_AreMoves.top movesB
  have := spec_AreMoves_l xs [] NN mvi_nil hs (by simpa using hl) (NN_lt (by omega))
  rw [List.nil_append] at this
  rw [Bool.and_comm]
  exact this
end Go.Pl

namespace Go.Pl
open Go.Ev
set_option linter.unusedVariables false
set_option linter.unusedSimpArgs false
/-- a booking that stands -/
def valB (b : Int × ByteArray × Int) : Bool := inB b.1 0 3 && wordB b.2.1 && inB b.2.2 1 1000
def addL (a : ByteArray) (s : Int) (b : Int × ByteArray × Int) : Int := if b.2.1 = a then (if b.1 = 0 then s + b.2.2 else s - b.2.2) else s
def leftOf (xs : List (Int × ByteArray × Int)) (a : ByteArray) : Int := xs.foldl (addL a) 0
theorem leftOf_snoc (p : List (Int × ByteArray × Int)) (b : Int × ByteArray × Int) (a : ByteArray) : leftOf (p ++ [b]) a = addL a (leftOf p a) b := by
  unfold leftOf; rw [List.foldl_append]; rfl
theorem valB_count {b : Int × ByteArray × Int} (h : valB b = true) : 1 ≤ b.2.2 ∧ b.2.2 ≤ 1000 ∧ 0 ≤ b.1 ∧ b.1 ≤ 3 := by
  unfold valB at h
  simp only [Bool.and_eq_true, inB_iff] at h
  omega
theorem leftOf_le (a : ByteArray) (xs : List (Int × ByteArray × Int)) (h : ∀ b ∈ xs, valB b = true) : -(1000 * (xs.length : Int)) ≤ leftOf xs a ∧ leftOf xs a ≤ 1000 * (xs.length : Int) := by
  have key : ∀ (ys : List (Int × ByteArray × Int)) (s : Int), (∀ b ∈ ys, valB b = true) → s - 1000 * (ys.length : Int) ≤ ys.foldl (addL a) s ∧ ys.foldl (addL a) s ≤ s + 1000 * (ys.length : Int) := by
    intro ys
    induction ys with
    | nil => intro s _; simp
    | cons b r ih =>
      intro s hb
      have h1 := ih (addL a s b) (fun x hx => hb x (by simp [hx]))
      have h2 := valB_count (hb b (by simp))
      simp only [List.foldl_cons, List.length_cons]
      have : s - 1000 ≤ addL a s b ∧ addL a s b ≤ s + 1000 := by
        unfold addL; split <;> (try split) <;> omega
      omega
  have := key xs 0 h
  unfold leftOf; omega
theorem spec_l32Left_f (xs rest : List (Int × ByteArray × Int)) (a : ByteArray) (h : ∀ b ∈ xs, valB b = true) (hl : xs.length ≤ 1000000) : spec_l32Left.f (xs ++ rest) a xs.length = some (leftOf xs a) := by
  have := (fold_fix (E := fun b => valB b = true) (fun p s => (∀ b ∈ p, valB b = true) ∧ s = leftOf p a) (fun _ => addL a) some (fun k i s => spec_l32Left.l3 NN k (xs ++ rest) a xs.length s i) xs ?_ ?_ 0 h ⟨by simp, rfl⟩ (by omega) NN (NN_lt (by omega))).2
  · rw [foldi_foldl] at this
    exact this
  · intro k st _
    simp [spec_l32Left.l3, spec_l32Left.g3]
  · intro k p b r st hx hb hI c0 c1 c2 cw g
    obtain ⟨h1, rfl⟩ := hI
    have h2 : ∀ x ∈ p ++ [b], valB x = true := fun x hx => by
      rcases List.mem_append.1 hx with h | h
      · exact h1 x h
      · rw [List.mem_singleton.1 h]; exact hb
    refine ⟨⟨h2, (leftOf_snoc p b a).symm⟩, ?_⟩
    have c3 : (p.length : Int) < ((xs ++ rest).length : Int) := by rw [List.length_append]; omega
    have g' : ∀ z, (xs ++ rest).getD p.length z = b := fun z => by rw [hx]; simp
    have bd := leftOf_le a (p ++ [b]) h2
    rw [leftOf_snoc] at bd
    have hpl : p.length ≤ 1000000 := by omega
    simp only [List.length_append, List.length_cons, List.length_nil] at bd
    simp only [spec_l32Left.l3, spec_l32Left.g3, c0, c1, c3, cw, and_self, and_true, true_and, decide_true, decide_false, if_true, if_false, mid_get, mid_set, mid_getn, mid_setn, bt_mid, Option.bind_some, Bool.not_true, Bool.not_false, Bool.false_eq_true, Bool.true_eq_false, beq_self_eq_true, bne_self_eq_false, Int.toNat_natCast, g', ba_beq]
    unfold addL at bd ⊢
    by_cases ha : b.2.1 = a
    · by_cases hz : b.1 = 0
      · have e := w64 (n := leftOf p a + b.2.2) (by simp only [ha, hz, if_true] at bd; omega) (by simp only [ha, hz, if_true] at bd; omega)
        simp [ha, hz, e]
      · have e := w64 (n := leftOf p a - b.2.2) (by simp only [ha, hz, if_true, if_false] at bd; omega) (by simp only [ha, hz, if_true, if_false] at bd; omega)
        simp [ha, hz, e]
    · simp [ha]
/-- how many of each kind -/
def addT (a : ByteArray) (s : List Int) (b : Int × ByteArray × Int) : List Int := if b.2.1 = a then s.set b.1.toNat (s.getD b.1.toNat 0 + b.2.2) else s
def totL (xs : List (Int × ByteArray × Int)) (a : ByteArray) : List Int := xs.foldl (addT a) [0, 0, 0, 0]
theorem totL_snoc (p : List (Int × ByteArray × Int)) (b : Int × ByteArray × Int) (a : ByteArray) : totL (p ++ [b]) a = addT a (totL p a) b := by
  unfold totL; rw [List.foldl_append]; rfl
theorem totL_shape (a : ByteArray) (xs : List (Int × ByteArray × Int)) (h : ∀ b ∈ xs, valB b = true) : ∃ t0 t1 t2 t3, totL xs a = [t0, t1, t2, t3] ∧ t0 - t1 - t2 - t3 = leftOf xs a ∧ 0 ≤ t0 ∧ 0 ≤ t1 ∧ 0 ≤ t2 ∧ 0 ≤ t3 ∧ t0 + t1 + t2 + t3 ≤ 1000 * (xs.length : Int) := by
  have key : ∀ (n : Nat) (xs : List (Int × ByteArray × Int)), xs.length = n → (∀ b ∈ xs, valB b = true) → ∃ t0 t1 t2 t3, totL xs a = [t0, t1, t2, t3] ∧ t0 - t1 - t2 - t3 = leftOf xs a ∧ 0 ≤ t0 ∧ 0 ≤ t1 ∧ 0 ≤ t2 ∧ 0 ≤ t3 ∧ t0 + t1 + t2 + t3 ≤ 1000 * (xs.length : Int) := by
    intro n
    induction n with
    | zero => intro xs hn _; obtain rfl := List.length_eq_zero_iff.1 hn; exact ⟨0, 0, 0, 0, rfl, rfl, by omega, by omega, by omega, by omega, by simp⟩
    | succ n ih =>
      intro xs hn hb
      rcases List.eq_nil_or_concat xs with rfl | ⟨p, b, rfl⟩
      · simp at hn
      simp only [List.concat_eq_append] at hn hb ⊢
      obtain ⟨t0, t1, t2, t3, e1, e2, e3, e4, e5, e6, e7⟩ := ih p (by simpa using hn) (fun x hx => hb x (by simp [hx]))
      have hv := valB_count (hb b (by simp))
      rw [totL_snoc, leftOf_snoc, e1]
      simp only [List.length_append, List.length_cons, List.length_nil]
      unfold addT addL
      by_cases ha : b.2.1 = a
      · simp only [ha, if_true]
        obtain h | h | h | h : b.1 = 0 ∨ b.1 = 1 ∨ b.1 = 2 ∨ b.1 = 3 := by omega
        · exact ⟨t0 + b.2.2, t1, t2, t3, by simp [h], by simp [h]; omega, by omega, by omega, by omega, by omega, by omega⟩
        · exact ⟨t0, t1 + b.2.2, t2, t3, by simp [h], by simp [h]; omega, by omega, by omega, by omega, by omega, by omega⟩
        · exact ⟨t0, t1, t2 + b.2.2, t3, by simp [h], by simp [h]; omega, by omega, by omega, by omega, by omega, by omega⟩
        · exact ⟨t0, t1, t2, t3 + b.2.2, by simp [h], by simp [h]; omega, by omega, by omega, by omega, by omega, by omega⟩
      · simp only [ha, if_false]
        exact ⟨t0, t1, t2, t3, rfl, by omega, by omega, by omega, by omega, by omega, by omega⟩
  exact key _ xs rfl h
theorem impl_totalsOf_f (xs : List (Int × ByteArray × Int)) (a : ByteArray) (h : ∀ b ∈ xs, valB b = true) (hl : xs.length ≤ 1000000) : impl_totalsOf.f xs a = some (totL xs a) := by
  have := (fold_fix (E := fun b => valB b = true) (fun p s => (∀ b ∈ p, valB b = true) ∧ s = totL p a) (fun _ => addT a) some (fun k i s => impl_totalsOf.l3 NN k a xs xs.length i s) xs ?_ ?_ [0, 0, 0, 0] h ⟨by simp, rfl⟩ (by omega) NN (NN_lt (by omega))).2
  · rw [foldi_foldl] at this
    unfold impl_totalsOf.f impl_totalsOf.fn impl_totalsOf.top
    rw [if_pos (by rw [room8]; omega)]
    exact this
  · intro k st _
    simp [impl_totalsOf.l3, impl_totalsOf.g3]
  · intro k p b r st hx hb hI c0 c1 c2 cw g
    obtain ⟨h1, rfl⟩ := hI
    have h2 : ∀ x ∈ p ++ [b], valB x = true := fun x hx => by
      rcases List.mem_append.1 hx with h | h
      · exact h1 x h
      · rw [List.mem_singleton.1 h]; exact hb
    refine ⟨⟨h2, (totL_snoc p b a).symm⟩, ?_⟩
    obtain ⟨t0, t1, t2, t3, e1, e2, e3, e4, e5, e6, e7⟩ := totL_shape a p h1
    have hpl : p.length ≤ 1000000 := by omega
    have hv := valB_count hb
    simp only [impl_totalsOf.l3, impl_totalsOf.g3, c0, c1, cw, and_self, and_true, true_and, decide_true, decide_false, if_true, if_false, mid_get, mid_set, mid_getn, mid_setn, bt_mid, Option.bind_some, Bool.not_true, Bool.not_false, Bool.false_eq_true, Bool.true_eq_false, beq_self_eq_true, bne_self_eq_false, Int.toNat_natCast, g, ba_beq]
    unfold addT
    by_cases ha : b.2.1 = a
    · have k1 : b.1 < ((totL p a).length : Int) := by rw [e1]; simp; omega
      have k2 : 0 ≤ (totL p a).getD b.1.toNat 0 ∧ (totL p a).getD b.1.toNat 0 ≤ 1000000000 := by
        rw [e1]
        obtain h | h | h | h : b.1 = 0 ∨ b.1 = 1 ∨ b.1 = 2 ∨ b.1 = 3 := by omega
        all_goals (rw [h]; simp; omega)
      have e := w64 (n := (totL p a).getD b.1.toNat 0 + b.2.2) (by omega) (by omega)
      simp only [ha, decide_true, if_true, hv.2.2.1, k1, and_self, e]
    · simp [ha]
theorem impl_piecesLeft_f (xs : List (Int × ByteArray × Int)) (a : ByteArray) (h : ∀ b ∈ xs, valB b = true) (hl : xs.length ≤ 1000000) : impl_piecesLeft.f xs a = some (leftOf xs a) := by
  unfold impl_piecesLeft.f impl_piecesLeft.fn impl_piecesLeft.top
  rw [impl_totalsOf_f xs a h hl]
  obtain ⟨t0, t1, t2, t3, e1, e2, e3, e4, e5, e6, e7⟩ := totL_shape a xs h
  have w1 := w64 (n := t0 - t1) (by omega) (by omega)
  have w2 := w64 (n := t0 - t1 - t2) (by omega) (by omega)
  have w3 := w64 (n := t0 - t1 - t2 - t3) (by omega) (by omega)
  have w4 : IntKind.i64.wrap (leftOf xs a) = leftOf xs a := by rw [← e2]; exact w3
  rw [e1]
  simp [w1, w2, w3, e2, w4]
/-- no article short at any time -/
def okFrom (p : List (Int × ByteArray × Int)) : List (Int × ByteArray × Int) → Bool
  | [] => true
  | b :: r => valB b && decide (0 ≤ leftOf (p ++ [b]) b.2.1) && okFrom (p ++ [b]) r
def booksB (xs : List (Int × ByteArray × Int)) : Bool := decide (xs.length ≤ 60) && okFrom [] xs
theorem okFrom_val : ∀ (r p : List (Int × ByteArray × Int)), okFrom p r = true → ∀ b ∈ r, valB b = true := by
  intro r
  induction r with
  | nil => intro p _ b hb; cases hb
  | cons x r ih =>
    intro p h b hb
    simp only [okFrom, Bool.and_eq_true] at h
    rcases List.mem_cons.1 hb with rfl | hb
    · exact h.1.1
    · exact ih _ h.2 b hb
theorem booksB_val {xs : List (Int × ByteArray × Int)} (h : booksB xs = true) : (∀ b ∈ xs, valB b = true) ∧ xs.length ≤ 60 := by
  unfold booksB at h
  simp only [Bool.and_eq_true, decide_eq_true_eq] at h
  exact ⟨okFrom_val _ _ h.2, h.1⟩
theorem val_snoc {p : List (Int × ByteArray × Int)} {b : Int × ByteArray × Int} (h1 : ∀ x ∈ p, valB x = true) (hb : valB b = true) : ∀ x ∈ p ++ [b], valB x = true := fun x hx => by
  rcases List.mem_append.1 hx with h | h
  · exact h1 x h
  · rw [List.mem_singleton.1 h]; exact hb
theorem spec_AreBookings_loop : ∀ (r p : List (Int × ByteArray × Int)) (k : Nat), (∀ b ∈ p, valB b = true) → (∀ b ∈ r, Sz b.2.1) → p.length + r.length ≤ 1000000 → r.length < k →
    spec_AreBookings.l2 NN k (p ++ r) p.length = some (okFrom p r && decide ((p ++ r).length ≤ 60)) := by
  intro r
  induction r with
  | nil =>
    intro p k _ _ _ hk
    obtain ⟨k, rfl⟩ : ∃ j, k = j + 1 := ⟨k - 1, by omega⟩
    simp [spec_AreBookings.l2, spec_AreBookings.g2, okFrom]
    omega
  | cons b r ih =>
    intro p k hp hr hb hk
    simp only [List.length_cons] at hk hb
    obtain ⟨k, rfl⟩ : ∃ j, k = j + 1 := ⟨k - 1, by omega⟩
    have hm := mid_len p r b
    have c0 : (0 : Int) ≤ (p.length : Int) := by omega
    have c1 : (p.length : Int) < ((p ++ b :: r).length : Int) := by omega
    have cw := w64 (n := (p.length : Int) + 1) (by omega) (by omega)
    simp only [spec_AreBookings.l2, spec_AreBookings.g2, c0, c1, cw, and_self, and_true, true_and, decide_true, decide_false, if_true, if_false, mid_get, mid_set, mid_getn, mid_setn, bt_mid, Option.bind_some, Bool.not_true, Bool.not_false, Bool.false_eq_true, Bool.true_eq_false, beq_self_eq_true, bne_self_eq_false, Int.toNat_natCast, spec_l01In_f, spec_IsWord_f _ (hr b (by simp))]
    have hv : valB b = (inB b.1 0 3 && wordB b.2.1 && inB b.2.2 1 1000) := rfl
    simp only [okFrom]
    cases h1 : inB b.1 0 3
    · simp [hv, h1]
    cases h2 : wordB b.2.1
    · simp [hv, h2]
    cases h3 : inB b.2.2 1 1000
    · simp [hv, h3]
    have hvt : valB b = true := by rw [hv, h1, h2, h3]; rfl
    have hl := spec_l32Left_f (p ++ [b]) r b.2.1 (val_snoc hp hvt) (by simp; omega)
    rw [mid_snoc, snoc_len] at hl
    have := ih (p ++ [b]) k (val_snoc hp hvt) (fun x hx => hr x (by simp [hx])) (by simp; omega) (by omega)
    rw [mid_snoc, snoc_len] at this
    simp only [hl, this, hvt, and_self, and_true, true_and, decide_true, decide_false, if_true, if_false, mid_get, mid_set, mid_getn, mid_setn, bt_mid, Option.bind_some, Bool.not_true, Bool.not_false, Bool.false_eq_true, Bool.true_eq_false, beq_self_eq_true, bne_self_eq_false, Int.toNat_natCast, decide_eq_true_eq]
    by_cases hn : leftOf (p ++ [b]) b.2.1 < 0
    · have : ¬ 0 ≤ leftOf (p ++ [b]) b.2.1 := by omega
      simp [hn, this]
    · have h4 : 0 ≤ leftOf (p ++ [b]) b.2.1 := by omega
      simp [hn, h4]
theorem spec_AreBookings_f (xs : List (Int × ByteArray × Int)) (h : Lm OkBooking xs) : spec_AreBookings.f xs = some (booksB xs) := by
  have := spec_AreBookings_loop xs [] NN (by simp) (fun b hb => Nat.le_trans (h.2 b hb).2.1 (by omega)) (by simpa using h.1) (NN_lt (by have := h.1; omega))
  unfold spec_AreBookings.f spec_AreBookings.fn spec_AreBookings.top booksB
  rw [Bool.and_comm]
  simpa using this
theorem impl_AreBookings_loop : ∀ (r p : List (Int × ByteArray × Int)) (k : Nat), (∀ b ∈ p, valB b = true) → (∀ b ∈ r, Sz b.2.1) → p.length + r.length ≤ 1000000 → r.length < k →
    impl_AreBookings.l4 NN k (p ++ r) (p ++ r) (p ++ r).length p.length = some (okFrom p r) := by
  intro r
  induction r with
  | nil =>
    intro p k _ _ _ hk
    obtain ⟨k, rfl⟩ : ∃ j, k = j + 1 := ⟨k - 1, by omega⟩
    simp [impl_AreBookings.l4, impl_AreBookings.g4, okFrom]
  | cons b r ih =>
    intro p k hp hr hb hk
    simp only [List.length_cons] at hk hb
    obtain ⟨k, rfl⟩ : ∃ j, k = j + 1 := ⟨k - 1, by omega⟩
    have hm := mid_len p r b
    have c0 : (0 : Int) ≤ (p.length : Int) := by omega
    have c1 : (p.length : Int) < ((p ++ b :: r).length : Int) := by omega
    have cw := w64 (n := (p.length : Int) + 1) (by omega) (by omega)
    have c2 : (0 : Int) ≤ (p.length : Int) + 1 := by omega
    have c3 : (p.length : Int) + 1 ≤ ((p ++ b :: r).length : Int) := by omega
    have ct : (p ++ b :: r).take ((p.length : Int) + 1).toNat = p ++ [b] := by
      rw [show ((p.length : Int) + 1).toNat = (p ++ [b]).length by simp, show p ++ b :: r = (p ++ [b]) ++ r by simp, List.take_left' rfl]
    simp only [impl_AreBookings.l4, impl_AreBookings.g4, c0, c1, c2, c3, cw, ct, and_self, and_true, true_and, decide_true, decide_false, if_true, if_false, mid_get, mid_set, mid_getn, mid_setn, bt_mid, Option.bind_some, Bool.not_true, Bool.not_false, Bool.false_eq_true, Bool.true_eq_false, beq_self_eq_true, bne_self_eq_false, Int.toNat_natCast, impl_within_f, impl_IsWord_f _ (hr b (by simp))]
    have hv : valB b = (inB b.1 0 3 && wordB b.2.1 && inB b.2.2 1 1000) := rfl
    simp only [okFrom]
    cases h1 : inB b.1 0 3
    · simp [hv, h1]
    cases h2 : wordB b.2.1
    · simp [hv, h2]
    cases h3 : inB b.2.2 1 1000
    · simp [hv, h3]
    have hvt : valB b = true := by rw [hv, h1, h2, h3]; rfl
    have hl := impl_piecesLeft_f (p ++ [b]) b.2.1 (val_snoc hp hvt) (by simp; omega)
    have := ih (p ++ [b]) k (val_snoc hp hvt) (fun x hx => hr x (by simp [hx])) (by simp; omega) (by omega)
    rw [mid_snoc, snoc_len] at this
    simp only [hl, this, hvt, and_self, and_true, true_and, decide_true, decide_false, if_true, if_false, mid_get, mid_set, mid_getn, mid_setn, bt_mid, Option.bind_some, Bool.not_true, Bool.not_false, Bool.false_eq_true, Bool.true_eq_false, beq_self_eq_true, bne_self_eq_false, Int.toNat_natCast, decide_eq_true_eq]
    by_cases hn : leftOf (p ++ [b]) b.2.1 < 0
    · have : ¬ 0 ≤ leftOf (p ++ [b]) b.2.1 := by omega
      simp [hn, this]
    · have h4 : 0 ≤ leftOf (p ++ [b]) b.2.1 := by omega
      simp [hn, h4]
theorem impl_AreBookings_f (xs : List (Int × ByteArray × Int)) (h : Lm OkBooking xs) : impl_AreBookings.f xs = some (booksB xs) := by
  have := impl_AreBookings_loop xs [] NN (by simp) (fun b hb => Nat.le_trans (h.2 b hb).2.1 (by omega)) (by simpa using h.1) (NN_lt (by have := h.1; omega))
  unfold impl_AreBookings.f impl_AreBookings.fn impl_AreBookings.top booksB
  simp only [List.nil_append, List.length_nil] at this
  by_cases h1 : (60 : Int) < xs.length
  · have h2 : ¬ xs.length ≤ 60 := by omega
    simp [h1, h2]
  · have h2 : xs.length ≤ 60 := by omega
    simp only [h1, h2, decide_false, Bool.false_eq_true, if_false, decide_true, Bool.true_and]
    exact this
theorem AreBookings_core (xs : List (Int × ByteArray × Int)) (h : Lm OkBooking xs) : ∃ w, spec_AreBookings.f xs = some w ∧ impl_AreBookings.f xs = some w ∧ True :=
  ⟨_, spec_AreBookings_f xs h, impl_AreBookings_f xs h, trivial⟩
end Go.Pl

namespace Go.Pl
open Go.Ev
set_option linter.unusedVariables false
noncomputable section
def spec_PiecesLeft.top (list0 : List (Int × ByteArray × Int)) (article1 : ByteArray) : Option (Int × Int) :=
  (spec_AreBookings.f list0).bind fun r1 =>
  if (!r1) = false then
    (spec_IsWord.f article1).bind fun r2 =>
    if (!r2) = true then
      some (0, 1)
    else
      (spec_l32Left.f list0 article1 (list0.length : Int)).bind fun r3 =>
      some (r3, 0)
  else
    some (0, 1)
def spec_PiecesLeft.fn (n : Nat) (list0 : List (Int × ByteArray × Int)) (article1 : ByteArray) : Option (Int × Int) := spec_PiecesLeft.top list0 article1
def spec_PiecesLeft.f (list0 : List (Int × ByteArray × Int)) (article1 : ByteArray) : Option (Int × Int) := spec_PiecesLeft.fn NN list0 article1
end
end Go.Pl

namespace Go.Pl
open Go.Ev
set_option linter.unusedVariables false
noncomputable section
def impl_MostIn.g5 (L5 : (List (Int × ByteArray × Int)) → ByteArray → Int → Int → Int → Option (Int × Int)) (list0 : List (Int × ByteArray × Int)) (article1 : ByteArray) (most6 : Int) (v17 : Int) (v18 : Int) : Option (Int × Int) :=
  if (decide ((v18 : Int) < v17)) = true then
    if (0 : Int) ≤ (IntKind.i64.wrap (v18 + 1)) ∧ ((IntKind.i64.wrap (v18 + 1)) : Int) ≤ list0.length then
      (impl_piecesLeft.f (list0.take ((IntKind.i64.wrap (v18 + 1)) : Int).toNat) article1).bind fun r3 =>
      L5 list0 article1 (if r3 > most6 then r3 else most6) v17 (IntKind.i64.wrap (v18 + 1))
    else
      none
  else
    some (most6, 0)
def impl_MostIn.l5 (n : Nat) : Nat → (List (Int × ByteArray × Int)) → ByteArray → Int → Int → Int → Option (Int × Int)
  | 0 => fun _ _ _ _ _ => none
  | k + 1 => impl_MostIn.g5 (impl_MostIn.l5 n k)
def impl_MostIn.top (I5 : (List (Int × ByteArray × Int)) → ByteArray → Int → Int → Int → Option (Int × Int)) (list0 : List (Int × ByteArray × Int)) (article1 : ByteArray) : Option (Int × Int) :=
  (impl_AreBookings.f list0).bind fun r1 =>
  if (!r1) = false then
    (impl_IsWord.f article1).bind fun r2 =>
    if (!r2) = true then
      some (0, 1)
    else
      I5 list0 article1 0 (list0.length : Int) 0
  else
    some (0, 1)
def impl_MostIn.fn (n : Nat) (list0 : List (Int × ByteArray × Int)) (article1 : ByteArray) : Option (Int × Int) := impl_MostIn.top (impl_MostIn.l5 n n) list0 article1
def impl_MostIn.f (list0 : List (Int × ByteArray × Int)) (article1 : ByteArray) : Option (Int × Int) := impl_MostIn.fn NN list0 article1
end
end Go.Pl

namespace Go.Pl
open Go.Ev
set_option linter.unusedVariables false
noncomputable section
def spec_MostIn.g5 (L5 : (List (Int × ByteArray × Int)) → ByteArray → Int → Int → Option (Int × Int)) (list0 : List (Int × ByteArray × Int)) (article1 : ByteArray) (most6 : Int) (n7 : Int) : Option (Int × Int) :=
  if (decide ((n7 : Int) ≤ (list0.length : Int))) = true then
    (spec_l32Left.f list0 article1 n7).bind fun r3 =>
    L5 list0 article1 (if r3 > most6 then r3 else most6) (IntKind.i64.wrap (n7 + 1))
  else
    some (most6, 0)
def spec_MostIn.l5 (n : Nat) : Nat → (List (Int × ByteArray × Int)) → ByteArray → Int → Int → Option (Int × Int)
  | 0 => fun _ _ _ _ => none
  | k + 1 => spec_MostIn.g5 (spec_MostIn.l5 n k)
def spec_MostIn.top (I5 : (List (Int × ByteArray × Int)) → ByteArray → Int → Int → Option (Int × Int)) (list0 : List (Int × ByteArray × Int)) (article1 : ByteArray) : Option (Int × Int) :=
  (spec_AreBookings.f list0).bind fun r1 =>
  if (!r1) = false then
    (spec_IsWord.f article1).bind fun r2 =>
    if (!r2) = true then
      some (0, 1)
    else
      I5 list0 article1 0 0
  else
    some (0, 1)
def spec_MostIn.fn (n : Nat) (list0 : List (Int × ByteArray × Int)) (article1 : ByteArray) : Option (Int × Int) := spec_MostIn.top (spec_MostIn.l5 n n) list0 article1
def spec_MostIn.f (list0 : List (Int × ByteArray × Int)) (article1 : ByteArray) : Option (Int × Int) := spec_MostIn.fn NN list0 article1
end
end Go.Pl

namespace Go.Pl
open Go.Ev
set_option linter.unusedVariables false
set_option linter.unusedSimpArgs false
theorem l32Left_all (xs : List (Int × ByteArray × Int)) (a : ByteArray) (h : ∀ b ∈ xs, valB b = true) (hl : xs.length ≤ 1000000) : spec_l32Left.f xs a xs.length = some (leftOf xs a) := by
  have := spec_l32Left_f xs [] a h hl
  rwa [List.append_nil] at this
theorem l32Left_take (xs : List (Int × ByteArray × Int)) (a : ByteArray) (n : Nat) (hn : n ≤ xs.length) (h : ∀ b ∈ xs, valB b = true) (hl : xs.length ≤ 1000000) : spec_l32Left.f xs a n = some (leftOf (xs.take n) a) := by
  have := spec_l32Left_f (xs.take n) (xs.drop n) a (fun b hb => h b (List.mem_of_mem_take hb)) (by rw [List.length_take]; omega)
  rwa [List.take_append_drop, List.length_take, Nat.min_eq_left hn] at this
def leftR (xs : List (Int × ByteArray × Int)) (a : ByteArray) : Int × Int := if booksB xs = true ∧ wordB a = true then (leftOf xs a, 0) else (0, 1)
theorem PiecesLeft_both (xs : List (Int × ByteArray × Int)) (a : ByteArray) (h : Lm OkBooking xs) (ha : Sm a) : spec_PiecesLeft.f xs a = some (leftR xs a) ∧ impl_PiecesLeft.f xs a = some (leftR xs a) := by
  unfold leftR
  refine ⟨?_, ?_⟩
  · unfold spec_PiecesLeft.f spec_PiecesLeft.fn spec_PiecesLeft.top
    rw [spec_AreBookings_f xs h, spec_IsWord_f a (Nat.le_trans ha (by omega))]
    cases hb : booksB xs
    · rfl
    cases hw : wordB a
    · rfl
    have hv := booksB_val hb
    simp only [and_self, and_true, true_and, decide_true, decide_false, if_true, if_false, mid_get, mid_set, mid_getn, mid_setn, bt_mid, Option.bind_some, Bool.not_true, Bool.not_false, Bool.false_eq_true, Bool.true_eq_false, beq_self_eq_true, bne_self_eq_false, Int.toNat_natCast]
    rw [l32Left_all xs a hv.1 (by omega)]; rfl
  · unfold impl_PiecesLeft.f impl_PiecesLeft.fn impl_PiecesLeft.top
    rw [impl_AreBookings_f xs h, impl_IsWord_f a (Nat.le_trans ha (by omega))]
    cases hb : booksB xs
    · rfl
    cases hw : wordB a
    · rfl
    have hv := booksB_val hb
    simp only [and_self, and_true, true_and, decide_true, decide_false, if_true, if_false, mid_get, mid_set, mid_getn, mid_setn, bt_mid, Option.bind_some, Bool.not_true, Bool.not_false, Bool.false_eq_true, Bool.true_eq_false, beq_self_eq_true, bne_self_eq_false, Int.toNat_natCast]
    rw [impl_piecesLeft_f xs a hv.1 (by omega)]; rfl
theorem PiecesLeft_core (xs : List (Int × ByteArray × Int)) (a : ByteArray) (h : Lm OkBooking xs) (ha : Sm a) : ∃ w, spec_PiecesLeft.f xs a = some w ∧ impl_PiecesLeft.f xs a = some w ∧ True :=
  ⟨_, (PiecesLeft_both xs a h ha).1, (PiecesLeft_both xs a h ha).2, trivial⟩
def mostF (xs : List (Int × ByteArray × Int)) (a : ByteArray) (i : Nat) (st : Int) : Int := if leftOf (xs.take (i + 1)) a > st then leftOf (xs.take (i + 1)) a else st
def mostL (xs : List (Int × ByteArray × Int)) (a : ByteArray) : Int := foldi (fun i st (_ : Int × ByteArray × Int) => mostF xs a i st) 0 0 xs
theorem impl_MostIn_l (xs : List (Int × ByteArray × Int)) (a : ByteArray) (h : ∀ b ∈ xs, valB b = true) (hl : xs.length ≤ 60) : impl_MostIn.l5 NN NN xs a 0 xs.length 0 = some (mostL xs a, 0) := by
  have := (fold_fix (E := fun _ => True) (fun _ _ => True) (fun i st (_ : Int × ByteArray × Int) => mostF xs a i st) (fun st => some (st, (0 : Int))) (fun k i st => impl_MostIn.l5 NN k xs a st xs.length i) xs ?_ ?_ 0 (fun _ _ => trivial) trivial (by omega) NN (NN_lt (by omega))).2
  · exact this
  · intro k st _
    simp [impl_MostIn.l5, impl_MostIn.g5]
  · intro k p b r st hx _ _ c0 c1 c2 cw g
    refine ⟨trivial, ?_⟩
    have c3 : (0 : Int) ≤ (p.length : Int) + 1 := by omega
    have c4 : (p.length : Int) + 1 ≤ (xs.length : Int) := by omega
    have e : ((p.length : Int) + 1).toNat = p.length + 1 := by omega
    simp only [impl_MostIn.l5, impl_MostIn.g5, c1, c3, c4, cw, e, and_self, and_true, true_and, decide_true, decide_false, if_true, if_false, mid_get, mid_set, mid_getn, mid_setn, bt_mid, Option.bind_some, Bool.not_true, Bool.not_false, Bool.false_eq_true, Bool.true_eq_false, beq_self_eq_true, bne_self_eq_false, Int.toNat_natCast]
    rw [impl_piecesLeft_f (xs.take (p.length + 1)) a (fun b hb => h b (List.mem_of_mem_take hb)) (by rw [List.length_take]; omega)]
    rfl
theorem spec_MostIn_l (xs : List (Int × ByteArray × Int)) (a : ByteArray) (h : ∀ b ∈ xs, valB b = true) (hl : xs.length ≤ 60) : spec_MostIn.l5 NN NN xs a 0 0 = some (mostL xs a, 0) := by
  obtain ⟨k, hk⟩ : ∃ j, NN = j + 1 := ⟨NN - 1, by have := NNb; omega⟩
  have hkb : 1000 < k := by rw [NN_eq] at hk; omega
  have := (fold_fix (E := fun _ => True) (fun _ _ => True) (fun i st (_ : Int × ByteArray × Int) => mostF xs a i st) (fun st => some (st, (0 : Int))) (fun k i st => spec_MostIn.l5 NN k xs a st (i + 1)) xs ?_ ?_ 0 (fun _ _ => trivial) trivial (by omega) k (by omega)).2
  · rw [show spec_MostIn.l5 NN NN = spec_MostIn.l5 NN (k + 1) by rw [← hk]]
    have c0 : (0 : Int) ≤ (xs.length : Int) := by omega
    have z := l32Left_take xs a 0 (by omega) h (by omega)
    have w := w64 (n := 0 + 1) (by omega) (by omega)
    simp only [spec_MostIn.l5, spec_MostIn.g5, c0, and_self, and_true, true_and, decide_true, decide_false, if_true, if_false, mid_get, mid_set, mid_getn, mid_setn, bt_mid, Option.bind_some, Bool.not_true, Bool.not_false, Bool.false_eq_true, Bool.true_eq_false, beq_self_eq_true, bne_self_eq_false, Int.toNat_natCast, w]
    rw [show ((0 : Nat) : Int) = 0 from rfl] at z
    rw [z]
    exact this
  · intro k st _
    simp [spec_MostIn.l5, spec_MostIn.g5]
    omega
  · intro k p b r st hx _ _ c0 c1 c2 cw g
    refine ⟨trivial, ?_⟩
    have c4 : (p.length : Int) + 1 ≤ (xs.length : Int) := by omega
    have z := l32Left_take xs a (p.length + 1) (by omega) h (by omega)
    rw [show ((p.length + 1 : Nat) : Int) = (p.length : Int) + 1 by omega] at z
    have w := w64 (n := (p.length : Int) + 1 + 1) (by omega) (by omega)
    simp only [spec_MostIn.l5, spec_MostIn.g5, c4, w, z, and_self, and_true, true_and, decide_true, decide_false, if_true, if_false, mid_get, mid_set, mid_getn, mid_setn, bt_mid, Option.bind_some, Bool.not_true, Bool.not_false, Bool.false_eq_true, Bool.true_eq_false, beq_self_eq_true, bne_self_eq_false, Int.toNat_natCast]
    rfl
def mostR (xs : List (Int × ByteArray × Int)) (a : ByteArray) : Int × Int := if booksB xs = true ∧ wordB a = true then (mostL xs a, 0) else (0, 1)
theorem MostIn_both (xs : List (Int × ByteArray × Int)) (a : ByteArray) (h : Lm OkBooking xs) (ha : Sm a) : spec_MostIn.f xs a = some (mostR xs a) ∧ impl_MostIn.f xs a = some (mostR xs a) := by
  unfold mostR
  refine ⟨?_, ?_⟩
  · unfold spec_MostIn.f spec_MostIn.fn spec_MostIn.top
    rw [spec_AreBookings_f xs h, spec_IsWord_f a (Nat.le_trans ha (by omega))]
    cases hb : booksB xs
    · rfl
    cases hw : wordB a
    · rfl
    have hv := booksB_val hb
    exact spec_MostIn_l xs a hv.1 hv.2
  · unfold impl_MostIn.f impl_MostIn.fn impl_MostIn.top
    rw [impl_AreBookings_f xs h, impl_IsWord_f a (Nat.le_trans ha (by omega))]
    cases hb : booksB xs
    · rfl
    cases hw : wordB a
    · rfl
    have hv := booksB_val hb
    exact impl_MostIn_l xs a hv.1 hv.2
theorem MostIn_core (xs : List (Int × ByteArray × Int)) (a : ByteArray) (h : Lm OkBooking xs) (ha : Sm a) : ∃ w, spec_MostIn.f xs a = some w ∧ impl_MostIn.f xs a = some w ∧ True :=
  ⟨_, (MostIn_both xs a h ha).1, (MostIn_both xs a h ha).2, trivial⟩
end Go.Pl

namespace Go.Pl
open Go.Ev
set_option linter.unusedVariables false
noncomputable section
def impl_IsDesk.top (d0 : (List (Int × ByteArray × Int)) × (List (Int × Int)) × List (Int × ByteArray × Int)) : Option Bool :=
  (impl_AreMoves.f d0.1).bind fun r1 =>
  if r1 = true then
    (impl_AreSignals.f d0.2.1).bind fun r2 =>
    if r2 = true then
      (impl_AreBookings.f d0.2.2).bind fun r3 =>
      some r3
    else
      some false
  else
    some false
def impl_IsDesk.fn (n : Nat) (d0 : (List (Int × ByteArray × Int)) × (List (Int × Int)) × List (Int × ByteArray × Int)) : Option Bool := impl_IsDesk.top d0
def impl_IsDesk.f (d0 : (List (Int × ByteArray × Int)) × (List (Int × Int)) × List (Int × ByteArray × Int)) : Option Bool := impl_IsDesk.fn NN d0
end
end Go.Pl

namespace Go.Pl
open Go.Ev
set_option linter.unusedVariables false
noncomputable section
def spec_IsDesk.top (d0 : (List (Int × ByteArray × Int)) × (List (Int × Int)) × List (Int × ByteArray × Int)) : Option Bool :=
  (spec_AreMoves.f d0.1).bind fun r1 =>
  if r1 = true then
    (spec_AreSignals.f d0.2.1).bind fun r2 =>
    if r2 = true then
      (spec_AreBookings.f d0.2.2).bind fun r3 =>
      some r3
    else
      some false
  else
    some false
def spec_IsDesk.fn (n : Nat) (d0 : (List (Int × ByteArray × Int)) × (List (Int × Int)) × List (Int × ByteArray × Int)) : Option Bool := spec_IsDesk.top d0
def spec_IsDesk.f (d0 : (List (Int × ByteArray × Int)) × (List (Int × Int)) × List (Int × ByteArray × Int)) : Option Bool := spec_IsDesk.fn NN d0
end
end Go.Pl

namespace Go.Pl
open Go.Ev
set_option linter.unusedVariables false
set_option linter.unusedSimpArgs false
abbrev Sig := Int × Int
def sigB (m : Sig) : Bool := inB m.1 0 100000 && inB m.2 0 9 && !decide (m.2 = 8)
def prevS (p : List Sig) (t : Int) : Bool := match p.getLast? with | none => true | some y => !decide (t < y.1)
def sigF (p : List Sig) : List Sig → Bool
  | [] => true
  | m :: r => sigB m && (prevS p m.1 && sigF (p ++ [m]) r)
def sigsB (xs : List Sig) : Bool := decide (xs.length ≤ 40) && sigF [] xs
theorem impl_AreSignals_l : ∀ (r p : List Sig) (k : Nat), p.length + r.length ≤ 1000000 → r.length < k → impl_AreSignals.l4 NN k (p ++ r) (p ++ r) (p ++ r).length p.length = some (sigF p r) := by
  intro r
  induction r with
  | nil =>
    intro p k _ hk
    obtain ⟨k, rfl⟩ : ∃ j, k = j + 1 := ⟨k - 1, by omega⟩
    have e : decide ((p.length : Int) ≤ 40) = decide (p.length ≤ 40) := by congr 1; exact propext (by omega)
    simp [impl_AreSignals.l4, impl_AreSignals.g4, sigF, e]
  | cons m r ih =>
    intro p k hb hk
    simp only [List.length_cons] at hb hk
    obtain ⟨k, rfl⟩ : ∃ j, k = j + 1 := ⟨k - 1, by omega⟩
    have hl := mid_len p r m
    have c0 : (0 : Int) ≤ (p.length : Int) := by omega
    have c1 : (p.length : Int) < ((p ++ m :: r).length : Int) := by omega
    have cw := w64 (n := (p.length : Int) + 1) (by omega) (by omega)
    have i1 := ih (p ++ [m]) k (by simp; omega) (by omega)
    rw [mid_snoc, snoc_len] at i1
    simp only [impl_AreSignals.l4, impl_AreSignals.g4, c0, c1, cw, and_self, and_true, true_and, decide_true, decide_false, if_true, if_false, mid_get, mid_set, mid_getn, mid_setn, bt_mid, Option.bind_some, Bool.not_true, Bool.not_false, Bool.false_eq_true, Bool.true_eq_false, beq_self_eq_true, bne_self_eq_false, Int.toNat_natCast, impl_isTick_f, impl_within_f]
    by_cases hm : sigB m = true
    rotate_left
    · have e : sigF p (m :: r) = false := by simp only [sigF]; cases q : sigB m; rfl; exact absurd q hm
      rw [e]
      unfold sigB at hm
      simp only [Bool.and_eq_true, Bool.not_eq_true', decide_eq_false_iff_not, not_and] at hm
      by_cases h1 : inB m.1 0 100000 = true
      · by_cases h3 : inB m.2 0 9 = true
        · have h4 : m.2 = 8 := by have := hm ⟨h1, h3⟩; omega
          simp [h1, h3, h4]
        · simp [h1, h3]
      · simp [h1]
    have hm' := hm
    unfold sigB at hm'
    simp only [Bool.and_eq_true, Bool.not_eq_true', decide_eq_false_iff_not] at hm'
    obtain ⟨⟨h1, h3⟩, h4⟩ := hm'
    have h4' : (m.2 == 8) = false := by simpa using h4
    simp only [h1, h3, h4', and_self, and_true, true_and, decide_true, decide_false, if_true, if_false, mid_get, mid_set, mid_getn, mid_setn, bt_mid, Option.bind_some, Bool.not_true, Bool.not_false, Bool.false_eq_true, Bool.true_eq_false, beq_self_eq_true, bne_self_eq_false, Int.toNat_natCast]
    rcases last_cases p with hp | ⟨q, y, hp⟩
    · have n1 : ¬ (0 : Int) < (p.length : Int) := by rw [hp]; simp
      have hpr : prevS p m.1 = true := by rw [hp]; rfl
      simp only [n1, and_self, and_true, true_and, decide_true, decide_false, if_true, if_false, mid_get, mid_set, mid_getn, mid_setn, bt_mid, Option.bind_some, Bool.not_true, Bool.not_false, Bool.false_eq_true, Bool.true_eq_false, beq_self_eq_true, bne_self_eq_false, Int.toNat_natCast, i1, sigF, hm, hpr, Bool.true_and]
    · have hpl : (p.length : Int) - 1 = (q.length : Int) := by rw [hp]; simp
      have n1 : (0 : Int) < (p.length : Int) := by rw [hp]; simp
      have w1 := w64 (n := (q.length : Int)) (by omega) (by omega)
      have q0 : (0 : Int) ≤ (q.length : Int) := by omega
      have q1 : (q.length : Int) < ((p ++ m :: r).length : Int) := by omega
      have g2 : ∀ z, (p ++ m :: r).getD q.length z = y := fun z => by rw [hp, List.append_assoc, List.singleton_append, mid_getn]
      have hpr : prevS p m.1 = !decide (m.1 < y.1) := by unfold prevS; rw [hp, last_snoc]
      simp only [n1, hpl, w1, q0, q1, g2, and_self, and_true, true_and, decide_true, decide_false, if_true, if_false, mid_get, mid_set, mid_getn, mid_setn, bt_mid, Option.bind_some, Bool.not_true, Bool.not_false, Bool.false_eq_true, Bool.true_eq_false, beq_self_eq_true, bne_self_eq_false, Int.toNat_natCast, i1, sigF, hm, hpr, Bool.true_and]
      by_cases e : m.1 < y.1 <;> simp [e]
theorem spec_AreSignals_l : ∀ (r p : List Sig) (k : Nat), p.length + r.length ≤ 1000000 → r.length < k → spec_AreSignals.l2 NN k (p ++ r) p.length = some (sigF p r && decide ((p ++ r).length ≤ 40)) := by
  intro r
  induction r with
  | nil =>
    intro p k _ hk
    obtain ⟨k, rfl⟩ : ∃ j, k = j + 1 := ⟨k - 1, by omega⟩
    have e : decide ((p.length : Int) ≤ 40) = decide (p.length ≤ 40) := by congr 1; exact propext (by omega)
    simp [spec_AreSignals.l2, spec_AreSignals.g2, sigF, e]
  | cons m r ih =>
    intro p k hb hk
    simp only [List.length_cons] at hb hk
    obtain ⟨k, rfl⟩ : ∃ j, k = j + 1 := ⟨k - 1, by omega⟩
    have hl := mid_len p r m
    have c0 : (0 : Int) ≤ (p.length : Int) := by omega
    have c1 : (p.length : Int) < ((p ++ m :: r).length : Int) := by omega
    have cw := w64 (n := (p.length : Int) + 1) (by omega) (by omega)
    have i1 := ih (p ++ [m]) k (by simp; omega) (by omega)
    rw [mid_snoc, snoc_len] at i1
    simp only [spec_AreSignals.l2, spec_AreSignals.g2, c0, c1, cw, and_self, and_true, true_and, decide_true, decide_false, if_true, if_false, mid_get, mid_set, mid_getn, mid_setn, bt_mid, Option.bind_some, Bool.not_true, Bool.not_false, Bool.false_eq_true, Bool.true_eq_false, beq_self_eq_true, bne_self_eq_false, Int.toNat_natCast, spec_l01In_f]
    by_cases hm : sigB m = true
    rotate_left
    · have e : sigF p (m :: r) = false := by simp only [sigF]; cases q : sigB m; rfl; exact absurd q hm
      rw [e]
      unfold sigB at hm
      simp only [Bool.and_eq_true, Bool.not_eq_true', decide_eq_false_iff_not, not_and] at hm
      by_cases h1 : inB m.1 0 100000 = true
      · by_cases h3 : inB m.2 0 9 = true
        · have h4 : m.2 = 8 := by have := hm ⟨h1, h3⟩; omega
          simp [h1, h3, h4]
        · simp [h1, h3]
      · simp [h1]
    have hm' := hm
    unfold sigB at hm'
    simp only [Bool.and_eq_true, Bool.not_eq_true', decide_eq_false_iff_not] at hm'
    obtain ⟨⟨h1, h3⟩, h4⟩ := hm'
    have h4' : (m.2 == 8) = false := by simpa using h4
    simp only [h1, h3, h4', and_self, and_true, true_and, decide_true, decide_false, if_true, if_false, mid_get, mid_set, mid_getn, mid_setn, bt_mid, Option.bind_some, Bool.not_true, Bool.not_false, Bool.false_eq_true, Bool.true_eq_false, beq_self_eq_true, bne_self_eq_false, Int.toNat_natCast]
    rcases last_cases p with hp | ⟨q, y, hp⟩
    · have n1 : ¬ (0 : Int) < (p.length : Int) := by rw [hp]; simp
      have hpr : prevS p m.1 = true := by rw [hp]; rfl
      simp only [n1, and_self, and_true, true_and, decide_true, decide_false, if_true, if_false, mid_get, mid_set, mid_getn, mid_setn, bt_mid, Option.bind_some, Bool.not_true, Bool.not_false, Bool.false_eq_true, Bool.true_eq_false, beq_self_eq_true, bne_self_eq_false, Int.toNat_natCast, i1, sigF, hm, hpr, Bool.true_and]
    · have hpl : (p.length : Int) - 1 = (q.length : Int) := by rw [hp]; simp
      have n1 : (0 : Int) < (p.length : Int) := by rw [hp]; simp
      have w1 := w64 (n := (q.length : Int)) (by omega) (by omega)
      have q0 : (0 : Int) ≤ (q.length : Int) := by omega
      have q1 : (q.length : Int) < ((p ++ m :: r).length : Int) := by omega
      have g2 : ∀ z, (p ++ m :: r).getD q.length z = y := fun z => by rw [hp, List.append_assoc, List.singleton_append, mid_getn]
      have hpr : prevS p m.1 = !decide (m.1 < y.1) := by unfold prevS; rw [hp, last_snoc]
      simp only [n1, hpl, w1, q0, q1, g2, and_self, and_true, true_and, decide_true, decide_false, if_true, if_false, mid_get, mid_set, mid_getn, mid_setn, bt_mid, Option.bind_some, Bool.not_true, Bool.not_false, Bool.false_eq_true, Bool.true_eq_false, beq_self_eq_true, bne_self_eq_false, Int.toNat_natCast, i1, sigF, hm, hpr, Bool.true_and]
      by_cases e : m.1 < y.1 <;> simp [e]
theorem impl_AreSignals_f (xs : List Sig) (hl : xs.length ≤ 1000000) : impl_AreSignals.f xs = some (sigsB xs) := by
  unfold impl_AreSignals.f impl_AreSignals.fn impl_AreSignals.top sigsB
  have := impl_AreSignals_l xs [] NN (by simpa using hl) (NN_lt (by omega))
  rw [List.nil_append] at this
  by_cases h8 : (40 : Int) < (xs.length : Int)
  · have : ¬ xs.length ≤ 40 := by omega
    simp [h8, this]
  · have e8 : xs.length ≤ 40 := by omega
    simp only [h8, e8, and_self, and_true, true_and, decide_true, decide_false, if_true, if_false, mid_get, mid_set, mid_getn, mid_setn, bt_mid, Option.bind_some, Bool.not_true, Bool.not_false, Bool.false_eq_true, Bool.true_eq_false, beq_self_eq_true, bne_self_eq_false, Int.toNat_natCast, Bool.true_and]
    exact this
theorem spec_AreSignals_f (xs : List Sig) (hl : xs.length ≤ 1000000) : spec_AreSignals.f xs = some (sigsB xs) := by
  unfold spec_AreSignals.f spec_AreSignals.fn spec_AreSignals.top sigsB
  have := spec_AreSignals_l xs [] NN (by simpa using hl) (NN_lt (by omega))
  rw [List.nil_append] at this
  rw [Bool.and_comm]
  exact this
abbrev Dsk := List Mov × List Sig × List (Int × ByteArray × Int)
def deskB (d : Dsk) : Bool := movesB d.1 && (sigsB d.2.1 && booksB d.2.2)
theorem IsDesk_both (d : Dsk) (h : OkDesk d) : spec_IsDesk.f d = some (deskB d) ∧ impl_IsDesk.f d = some (deskB d) := by
  have hs : ∀ m ∈ d.1, Sz m.2.1 := fun m hm => Nat.le_trans (h.1.2 m hm).2.1 (by omega)
  unfold spec_IsDesk.f spec_IsDesk.fn spec_IsDesk.top impl_IsDesk.f impl_IsDesk.fn impl_IsDesk.top deskB
  rw [spec_AreMoves_f _ h.1.1 hs, impl_AreMoves_f _ h.1.1 hs, spec_AreSignals_f _ h.2.1.1, impl_AreSignals_f _ h.2.1.1, spec_AreBookings_f _ h.2.2, impl_AreBookings_f _ h.2.2]
  cases movesB d.1
  · exact ⟨rfl, rfl⟩
  cases sigsB d.2.1
  · exact ⟨rfl, rfl⟩
  cases booksB d.2.2 <;> exact ⟨rfl, rfl⟩
theorem IsDesk_core (d : Dsk) (h : OkDesk d) : ∃ w, spec_IsDesk.f d = some w ∧ impl_IsDesk.f d = some w ∧ True :=
  ⟨_, (IsDesk_both d h).1, (IsDesk_both d h).2, trivial⟩
end Go.Pl

namespace Go.Pl
open Go.Ev
set_option linter.unusedVariables false
set_option linter.unusedSimpArgs false
abbrev Ctl := Bool × Bool × Bool × Bool × Bool × Int
def giveC : Ctl → Int → Option Ctl
  | (a, b, r, h, s, d), i =>
    if i = 0 then some (if a = true then (false, b, false, false, s, d) else (true, b, r, h, s, d))
    else if i = 1 then some (if b = true then (a, false, false, false, s, d) else (a, true, r, h, s, d))
    else if i = 2 then (if (a && b && !s) = true then some (a, b, true, false, s, 0) else none)
    else if i = 3 then some (a, b, false, false, s, d)
    else if i = 4 then (if (r && !h) = true then some (a, b, r, true, s, d) else none)
    else if i = 5 then (if h = true then some (a, b, r, false, s, d) else none)
    else if i = 6 then some (a, b, false, false, true, d)
    else if i = 7 then some (a, b, r, h, s, 0)
    else if i = 8 then some (if 3 < d + 1 then (a, b, false, false, s, 4) else (a, b, r, h, s, d + 1))
    else (if (s && !a && !b) = true then some (a, b, r, h, false, d) else none)
def tkC : Ctl → Ctl
  | (a, b, r, h, s, d) => if 3 < d + 1 then (a, b, false, false, s, 4) else (a, b, r, h, s, d + 1)
theorem give_tk (c : Ctl) : giveC c 8 = some (tkC c) := rfl
def giveB (c : Ctl) (i : Int) : Ctl := (giveC c i).getD c
def DeadOk (c : Ctl) : Prop := 0 ≤ c.2.2.2.2.2 ∧ c.2.2.2.2.2 ≤ 4
def mayC (c : Ctl) : Bool := c.2.2.1 && !c.2.2.2.1
theorem tk_dead {c : Ctl} (h : DeadOk c) : DeadOk (tkC c) := by
  obtain ⟨a, b, r, e, s, d⟩ := c
  unfold DeadOk at h ⊢
  simp only at h
  simp only [tkC]
  by_cases h3 : 3 < d + 1
  · rw [if_pos h3]; simp
  · rw [if_neg h3]; simp only; omega
theorem give_dead {c : Ctl} (h : DeadOk c) (i : Int) : DeadOk (giveB c i) := by
  obtain ⟨a, b, r, e, s, d⟩ := c
  unfold DeadOk at h ⊢
  simp only at h
  unfold giveB giveC
  simp only
  repeat' split
  all_goals simp only [Option.getD_some, Option.getD_none]
  all_goals omega
def tkN : Nat → Ctl → Ctl
  | 0, c => c
  | n + 1, c => tkN n (tkC c)
theorem tkN_add : ∀ (m n : Nat) (c : Ctl), tkN (m + n) c = tkN n (tkN m c) := by
  intro m
  induction m with
  | zero => intro n c; rw [Nat.zero_add]; rfl
  | succ m ih => intro n c; rw [Nat.succ_add]; exact ih n (tkC c)
theorem tkN_dead : ∀ (n : Nat) {c : Ctl}, DeadOk c → DeadOk (tkN n c) := by
  intro n
  induction n with
  | zero => intro c h; exact h
  | succ n ih => intro c h; exact ih (tk_dead h)
theorem tk4 {a b r e s : Bool} {d : Int} (h0 : 0 ≤ d) (h1 : d ≤ 4) : tkN 4 (a, b, r, e, s, d) = (a, b, false, false, s, 4) := by
  have : d = 0 ∨ d = 1 ∨ d = 2 ∨ d = 3 ∨ d = 4 := by omega
  rcases this with rfl | rfl | rfl | rfl | rfl <;> rfl
theorem tk_off (a b s : Bool) : ∀ n : Nat, tkN n (a, b, false, false, s, 4) = (a, b, false, false, s, 4) := by
  intro n
  induction n with
  | zero => rfl
  | succ n ih => exact ih
theorem tkN_min {c : Ctl} (h : DeadOk c) (n : Nat) : tkN (min n 5) c = tkN n c := by
  by_cases hn : n ≤ 5
  · rw [Nat.min_eq_left hn]
  · obtain ⟨a, b, r, e, s, d⟩ := c
    rw [Nat.min_eq_right (by omega), show n = 4 + (n - 4) by omega, tkN_add, tk4 h.1 h.2, tk_off, show (5 : Nat) = 4 + 1 from rfl, tkN_add, tk4 h.1 h.2, tk_off]
def SrtF : Int → List Sig → Prop
  | _, [] => True
  | t, x :: r => t ≤ x.1 ∧ SrtF x.1 r
theorem srtF_le {t u : Int} (h : t ≤ u) : ∀ {l : List Sig}, SrtF u l → SrtF t l := by
  intro l hl
  cases l with
  | nil => trivial
  | cons x r => exact ⟨by have := hl.1; omega, hl.2⟩
def atR : List Sig → Ctl → Int → Int → Ctl
  | [], c, now, t => tkN (t - now).toNat c
  | x :: r, c, now, t => if x.1 ≤ t then atR r (giveB (tkN (x.1 - now).toNat c) x.2) x.1 t else tkN (t - now).toNat c
theorem atR_step {l : List Sig} {T t : Int} (c : Ctl) (h : SrtF (T + 1) l) (ht : T + 1 ≤ t) : atR l c T t = atR l (tkC c) (T + 1) t := by
  have key : ∀ u : Int, T + 1 ≤ u → tkN (u - T).toNat c = tkN (u - (T + 1)).toNat (tkC c) := by
    intro u hu
    rw [show (u - T).toNat = (u - (T + 1)).toNat + 1 by omega]; rfl
  cases l with
  | nil => exact key t ht
  | cons x r => simp only [atR]; rw [key t ht, key x.1 h.1]
theorem atR_give (T i : Int) (r : List Sig) (c : Ctl) {t : Int} (ht : T ≤ t) : atR ((T, i) :: r) c T t = atR r (giveB c i) T t := by
  simp only [atR, ht, if_true]
  rw [show (T - T).toNat = 0 by omega]; rfl
theorem atR_now {l : List Sig} {T : Int} (c : Ctl) (h : SrtF (T + 1) l) : atR l c T T = c := by
  have h0 : (T - T).toNat = 0 := by omega
  cases l with
  | nil => simp only [atR, h0]; rfl
  | cons x r =>
    have : ¬ x.1 ≤ T := by have := h.1; omega
    simp only [atR, this, if_false, h0]; rfl
/-- the controller after the signals up to a tick -/
def ctlAt (l : List Sig) (t : Int) : Ctl := atR l (false, false, false, false, false, 0) 0 t
theorem sigF_srt : ∀ {r p : List Sig} {t : Int}, sigF p r = true → (∀ y, p.getLast? = some y → t ≤ y.1) → (p = [] → ∀ y r', r = y :: r' → t ≤ y.1) → SrtF t r := by
  intro r
  induction r with
  | nil => intro p t _ _ _; trivial
  | cons x r ih =>
    intro p t h hp hn
    simp only [sigF, Bool.and_eq_true] at h
    have hx : t ≤ x.1 := by
      rcases last_cases p with e | ⟨q, y, e⟩
      · exact hn e x r rfl
      · have h1 := h.2.1
        unfold prevS at h1
        rw [e, last_snoc] at h1
        simp only [Bool.not_eq_true', decide_eq_false_iff_not] at h1
        have := hp y (by rw [e, last_snoc])
        omega
    refine ⟨hx, ih h.2.2 (fun y hy => ?_) (fun e => absurd e (by simp))⟩
    rw [last_snoc] at hy
    rw [← Option.some.inj hy]; omega
theorem sigF_mem : ∀ {r p : List Sig}, sigF p r = true → ∀ m ∈ r, sigB m = true := by
  intro r
  induction r with
  | nil => intro p _ m hm; cases hm
  | cons x r ih =>
    intro p h m hm
    simp only [sigF, Bool.and_eq_true] at h
    rcases List.mem_cons.1 hm with rfl | hm
    · exact h.1
    · exact ih h.2.2 m hm
theorem sigsB_iff {l : List Sig} (h : sigsB l = true) : l.length ≤ 40 ∧ SrtF 0 l ∧ ∀ m ∈ l, (0 ≤ m.1 ∧ m.1 ≤ 100000) ∧ (0 ≤ m.2 ∧ m.2 ≤ 9) ∧ m.2 ≠ 8 := by
  unfold sigsB at h
  simp only [Bool.and_eq_true, decide_eq_true_eq] at h
  have hm := sigF_mem h.2
  have hk : ∀ m ∈ l, (0 ≤ m.1 ∧ m.1 ≤ 100000) ∧ (0 ≤ m.2 ∧ m.2 ≤ 9) ∧ m.2 ≠ 8 := fun m h1 => by
    have := hm m h1
    unfold sigB at this
    simp only [Bool.and_eq_true, inB_iff, Bool.not_eq_true', decide_eq_false_iff_not] at this
    exact ⟨this.1.1, this.1.2, this.2⟩
  refine ⟨h.1, sigF_srt h.2 (fun y hy => by simp at hy) (fun _ y r' e => ?_), hk⟩
  exact (hk y (by rw [e]; simp)).1.1
/- moves -/
def addZ (z : ByteArray) (t s : Int) (m : Mov) : Int := if m.2.1 = z ∧ m.1 ≤ t then s + m.2.2 else s
def peopT (xs : List Mov) (z : ByteArray) (t : Int) : Int := xs.foldl (addZ z t) 0
def nearB (z : ByteArray) (t : Int) (m : Mov) : Bool := decide (m.2.1 = z) && (decide (m.1 ≤ t) && decide (t - m.1 < 30000))
def clrB (xs : List Mov) (z : ByteArray) (t : Int) : Bool := xs.all (fun m => !nearB z t m) && decide (peopT xs z t = 0)
def upN (t : Int) : List Mov → Nat
  | [] => 0
  | m :: r => if m.1 ≤ t then upN t r + 1 else 0
theorem upN_le (t : Int) : ∀ xs : List Mov, upN t xs ≤ xs.length := by
  intro xs
  induction xs with
  | nil => simp [upN]
  | cons m r ih => simp only [upN, List.length_cons]; split <;> omega
def SrtM (xs : List Mov) : Prop := xs.Pairwise fun a b => a.1 ≤ b.1
theorem upN_split (t : Int) : ∀ (xs : List Mov), SrtM xs → (∀ m ∈ xs.take (upN t xs), m.1 ≤ t) ∧ ∀ m ∈ xs.drop (upN t xs), t < m.1 := by
  intro xs
  induction xs with
  | nil => intro _; simp
  | cons m r ih =>
    intro h
    have h' := List.pairwise_cons.1 h
    have i := ih h'.2
    by_cases hm : m.1 ≤ t
    · simp only [upN, hm, if_true, List.take_succ_cons, List.drop_succ_cons]
      refine ⟨fun x hx => ?_, i.2⟩
      rcases List.mem_cons.1 hx with rfl | hx
      · exact hm
      · exact i.1 x hx
    · simp only [upN, hm, if_false, List.take_zero, List.drop_zero]
      refine ⟨by simp, fun x hx => ?_⟩
      rcases List.mem_cons.1 hx with rfl | hx
      · omega
      · have := h'.1 x hx; omega
theorem addZ_in (z : ByteArray) (t : Int) : ∀ (xs : List Mov) (s : Int), (∀ m ∈ xs, m.1 ≤ t) → xs.foldl (addZ z t) s = xs.foldl (addP z) s := by
  intro xs
  induction xs with
  | nil => intro s _; rfl
  | cons m r ih =>
    intro s h
    have := h m (by simp)
    simp only [List.foldl_cons]
    rw [show addZ z t s m = addP z s m by unfold addZ addP; simp [this]]
    exact ih _ (fun x hx => h x (by simp [hx]))
theorem addZ_out (z : ByteArray) (t : Int) : ∀ (xs : List Mov) (s : Int), (∀ m ∈ xs, t < m.1) → xs.foldl (addZ z t) s = s := by
  intro xs
  induction xs with
  | nil => intro s _; rfl
  | cons m r ih =>
    intro s h
    have := h m (by simp)
    have n : ¬ m.1 ≤ t := by omega
    simp only [List.foldl_cons]
    rw [show addZ z t s m = s by unfold addZ; simp [n]]
    exact ih _ (fun x hx => h x (by simp [hx]))
theorem peopT_up {xs : List Mov} (h : SrtM xs) (z : ByteArray) (t : Int) : peopT xs z t = peopS (xs.take (upN t xs)) z := by
  obtain ⟨h1, h2⟩ := upN_split t xs h
  unfold peopT peopS
  conv => lhs; rw [← List.take_append_drop (upN t xs) xs]
  rw [List.foldl_append, addZ_in z t _ _ h1, addZ_out z t _ _ h2]
theorem near_up {xs : List Mov} (h : SrtM xs) (z : ByteArray) (t : Int) : xs.all (fun m => !nearB z t m) = (xs.take (upN t xs)).all (fun m => !(decide (m.2.1 = z) && decide (t < m.1 + 30000))) := by
  obtain ⟨h1, h2⟩ := upN_split t xs h
  conv => lhs; rw [← List.take_append_drop (upN t xs) xs]
  rw [List.all_append]
  have e2 : (xs.drop (upN t xs)).all (fun m => !nearB z t m) = true := by
    rw [List.all_eq_true]
    intro m hm
    have n : ¬ m.1 ≤ t := by have := h2 m hm; omega
    simp [nearB, n]
  rw [e2, Bool.and_true, Bool.eq_iff_iff, List.all_eq_true, List.all_eq_true]
  refine forall_congr' fun m => forall_congr' fun hm => ?_
  have a1 := h1 m hm
  have e : decide (t - m.1 < 30000) = decide (t < m.1 + 30000) := by congr 1; exact propext (by omega)
  unfold nearB
  rw [e, decide_eq_true a1, Bool.true_and]
theorem movF_srt : ∀ {r p : List Mov}, MvI p → SrtM p → movF p r = true → SrtM (p ++ r) ∧ ∀ m ∈ r, movB m = true := by
  intro r
  induction r with
  | nil => intro p _ hs _; rw [List.append_nil]; exact ⟨hs, fun m hm => by cases hm⟩
  | cons m r ih =>
    intro p hI hs h
    simp only [movF, Bool.and_eq_true] at h
    obtain ⟨j1, j2⟩ := mvi_snoc hI h.1 h.2.1
    have hs' : SrtM (p ++ [m]) := by
      unfold SrtM
      rw [List.pairwise_append]
      refine ⟨hs, by simp, fun a ha b hb => ?_⟩
      rw [List.mem_singleton.1 hb]; exact j2 a (by simp [ha])
    have i := ih j1 hs' h.2.2.2
    rw [List.append_assoc, List.singleton_append] at i
    refine ⟨i.1, fun x hx => ?_⟩
    rcases List.mem_cons.1 hx with rfl | hx
    · exact h.1
    · exact i.2 x hx
theorem movesB_iff {xs : List Mov} (h : movesB xs = true) : xs.length ≤ 40 ∧ SrtM xs ∧ ∀ m ∈ xs, movB m = true := by
  unfold movesB at h
  simp only [Bool.and_eq_true, decide_eq_true_eq] at h
  have := movF_srt mvi_nil (by simp [SrtM]) h.2
  rw [List.nil_append] at this
  exact ⟨h.1, this⟩
theorem peopT_bd (z : ByteArray) (t : Int) : ∀ (xs : List Mov) (s : Int), (∀ m ∈ xs, movB m = true) → s - 1000 * (xs.length : Int) ≤ xs.foldl (addZ z t) s ∧ xs.foldl (addZ z t) s ≤ s + 1000 * (xs.length : Int) := by
  intro xs
  induction xs with
  | nil => intro s _; simp
  | cons m r ih =>
    intro s h
    have h1 := movB_iff (h m (by simp))
    have h2 := ih (addZ z t s m) (fun x hx => h x (by simp [hx]))
    have h3 : s - 1000 ≤ addZ z t s m ∧ addZ z t s m ≤ s + 1000 := by unfold addZ; split <;> omega
    simp only [List.foldl_cons, List.length_cons]
    omega
end Go.Pl

namespace Go.Pl
open Go.Ev
set_option linter.unusedVariables false
set_option linter.unusedSimpArgs false
theorem impl_giveInput_f (c : Ctl) (i : Int) (h : DeadOk c) (h0 : 0 ≤ i ∧ i ≤ 9) : impl_giveInput.f c i = some (match giveC c i with | some y => (y, 0) | none => ((false, false, false, false, false, 0), 5)) := by
  obtain ⟨a, b, r, e, s, d⟩ := c
  have hd : 0 ≤ d ∧ d ≤ 4 := h
  have w := w64 (n := d + 1) (by omega) (by omega)
  have hi : i = 0 ∨ i = 1 ∨ i = 2 ∨ i = 3 ∨ i = 4 ∨ i = 5 ∨ i = 6 ∨ i = 7 ∨ i = 8 ∨ i = 9 := by omega
  unfold impl_giveInput.f impl_giveInput.fn impl_giveInput.top impl_safe.f impl_safe.fn impl_safe.top giveC
  rcases hi with rfl | rfl | rfl | rfl | rfl | rfl | rfl | rfl | rfl | rfl
  case inr.inr.inr.inr.inr.inr.inr.inr.inl =>
    simp only [w]
    by_cases h3 : 3 < d + 1
    · have h4 : d + 1 = 4 ∨ d + 1 = 5 := by omega
      rcases h4 with h4 | h4 <;> simp [h4]
    · have h4 : ¬ 4 < d + 1 := by omega
      simp [h3, h4]
  all_goals cases a <;> cases b <;> cases r <;> cases e <;> cases s <;> rfl
theorem spec_l21Give_f (c : Ctl) (i : Int) (h : DeadOk c) (h0 : 0 ≤ i ∧ i ≤ 9) : ∃ y : Ctl × Bool, spec_l21Give.f c i = some y ∧ y.2 = (giveC c i).isSome ∧ y.1 = giveB c i := by
  obtain ⟨a, b, r, e, s, d⟩ := c
  have hd : 0 ≤ d ∧ d ≤ 4 := h
  have w := w64 (n := d + 1) (by omega) (by omega)
  have hi : i = 0 ∨ i = 1 ∨ i = 2 ∨ i = 3 ∨ i = 4 ∨ i = 5 ∨ i = 6 ∨ i = 7 ∨ i = 8 ∨ i = 9 := by omega
  unfold spec_l21Give.f spec_l21Give.fn spec_l21Give.top spec_l21Off.f spec_l21Off.fn spec_l21Off.top giveB giveC
  rcases hi with rfl | rfl | rfl | rfl | rfl | rfl | rfl | rfl | rfl | rfl
  case inr.inr.inr.inr.inr.inr.inr.inr.inl =>
    simp only [w]
    have hd5 : d = 0 ∨ d = 1 ∨ d = 2 ∨ d = 3 ∨ d = 4 := by omega
    rcases hd5 with rfl | rfl | rfl | rfl | rfl <;> exact ⟨_, rfl, rfl, rfl⟩
  all_goals cases a <;> cases b <;> cases r <;> cases e <;> cases s <;> exact ⟨_, rfl, rfl, rfl⟩
theorem impl_mayFire_f (c : Ctl) : impl_mayFire.f c = some (mayC c) := by
  obtain ⟨a, b, r, e, s, d⟩ := c
  cases r <;> rfl
theorem spec_l22Ticks_l (a1 a2 a3 a4 a5 : Bool) (a6 : Int) : ∀ (n : Nat) (c : Ctl) (k : Nat), DeadOk c → n ≤ 1000 → n < k → spec_l22Ticks.l2 NN k n c a1 a2 a3 a4 a5 a6 = some (tkN n c) := by
  intro n
  induction n with
  | zero =>
    intro c k _ _ hk
    obtain ⟨k, rfl⟩ : ∃ j, k = j + 1 := ⟨k - 1, by omega⟩
    simp [spec_l22Ticks.l2, spec_l22Ticks.g2, tkN]
  | succ n ih =>
    intro c k hc hn hk
    obtain ⟨k, rfl⟩ : ∃ j, k = j + 1 := ⟨k - 1, by omega⟩
    obtain ⟨y, e1, e2, e3⟩ := spec_l21Give_f c 8 hc (by omega)
    have c0 : (0 : Int) < ((n + 1 : Nat) : Int) := by omega
    have w := w64 (n := ((n + 1 : Nat) : Int) - 1) (by omega) (by omega)
    have e4 : giveB c 8 = tkC c := rfl
    rw [e4] at e3
    simp only [spec_l22Ticks.l2, spec_l22Ticks.g2, c0, w, e1, e3, and_self, and_true, true_and, decide_true, decide_false, if_true, if_false, mid_get, mid_set, mid_getn, mid_setn, bt_mid, Option.bind_some, Bool.not_true, Bool.not_false, Bool.false_eq_true, Bool.true_eq_false, beq_self_eq_true, bne_self_eq_false, Int.toNat_natCast]
    rw [show ((n + 1 : Nat) : Int) - 1 = (n : Int) by omega]
    exact ih _ k (tk_dead hc) (by omega) (by omega)
theorem spec_l22Ticks_f (c : Ctl) {n : Int} (hc : DeadOk c) (h0 : 0 ≤ n) : spec_l22Ticks.f c n = some (tkN n.toNat c) := by
  unfold spec_l22Ticks.f spec_l22Ticks.fn spec_l22Ticks.top
  have e : (if 5 < n then 5 else n) = ((min n.toNat 5 : Nat) : Int) := by split <;> omega
  rw [e, spec_l22Ticks_l _ _ _ _ _ _ _ _ _ hc (by omega) (NN_lt (by omega)), tkN_min hc]
/-- the signals that are refused are counted only -/
theorem spec_l22At_l (t : Int) (ht : 0 ≤ t ∧ t ≤ 1000000) (a1 a2 a3 a4 a5 : Bool) (a6 : Int) : ∀ (r p : List Sig) (now : Int) (c : Ctl) (ref : List Int) (k : Nat), p.length + r.length ≤ 1000000 → r.length < k → DeadOk c → 0 ≤ now → now ≤ t → SrtF now r → (∀ m ∈ r, (0 ≤ m.1 ∧ m.1 ≤ 100000) ∧ (0 ≤ m.2 ∧ m.2 ≤ 9)) → ref.length ≤ p.length →
    ∃ q, spec_l22At.l4 NN k (p ++ r) t now p.length a1 a2 a3 a4 a5 a6 c ref = some (atR r c now t, q) := by
  intro r
  induction r with
  | nil =>
    intro p now c ref k _ hk hc hn hnt _ _ _
    obtain ⟨k, rfl⟩ : ∃ j, k = j + 1 := ⟨k - 1, by omega⟩
    have w := w64 (n := t - now) (by omega) (by omega)
    refine ⟨ref, ?_⟩
    simp only [List.append_nil, spec_l22At.l4, spec_l22At.g4, Int.lt_irrefl, w, and_self, and_true, true_and, decide_true, decide_false, if_true, if_false, mid_get, mid_set, mid_getn, mid_setn, bt_mid, Option.bind_some, Bool.not_true, Bool.not_false, Bool.false_eq_true, Bool.true_eq_false, beq_self_eq_true, bne_self_eq_false, Int.toNat_natCast]
    rw [spec_l22Ticks_f c hc (by omega)]; rfl
  | cons m r ih =>
    intro p now c ref k hl hk hc hn hnt hs hm hr
    simp only [List.length_cons] at hl hk
    obtain ⟨k, rfl⟩ : ∃ j, k = j + 1 := ⟨k - 1, by omega⟩
    have hmm := hm m (by simp)
    have hln := mid_len p r m
    have c0 : (0 : Int) ≤ (p.length : Int) := by omega
    have c1 : (p.length : Int) < ((p ++ m :: r).length : Int) := by omega
    have cw := w64 (n := (p.length : Int) + 1) (by omega) (by omega)
    have w := w64 (n := t - now) (by omega) (by omega)
    have w2 := w64 (n := m.1 - now) (by omega) (by omega)
    have hs1 := hs.1
    by_cases h : m.1 ≤ t
    · have hd := tkN_dead (m.1 - now).toNat hc
      obtain ⟨y, e1, e2, e3⟩ := spec_l21Give_f (tkN (m.1 - now).toNat c) m.2 hd hmm.2
      have st : ∀ ref' : List Int, ref'.length ≤ (p ++ [m]).length → ∃ q, spec_l22At.l4 NN k (p ++ m :: r) t m.1 ((p.length : Int) + 1) a1 a2 a3 a4 a5 a6 (giveB (tkN (m.1 - now).toNat c) m.2) ref' = some (atR r (giveB (tkN (m.1 - now).toNat c) m.2) m.1 t, q) := by
        intro ref' hr'
        have i := ih (p ++ [m]) m.1 (giveB (tkN (m.1 - now).toNat c) m.2) ref' k (by simp; omega) (by omega) (give_dead hd _) (by omega) h hs.2 (fun x hx => hm x (by simp [hx])) hr'
        rwa [mid_snoc, snoc_len] at i
      simp only [spec_l22At.l4, spec_l22At.g4, c0, c1, cw, w2, h, and_self, and_true, true_and, decide_true, decide_false, if_true, if_false, mid_get, mid_set, mid_getn, mid_setn, bt_mid, Option.bind_some, Bool.not_true, Bool.not_false, Bool.false_eq_true, Bool.true_eq_false, beq_self_eq_true, bne_self_eq_false, Int.toNat_natCast, atR]
      rw [spec_l22Ticks_f c hc (by omega)]
      simp only [Option.bind_some, e1]
      by_cases hy : y.2 = true
      · rw [if_pos hy, e3]
        exact st ref (by simp; omega)
      · rw [if_neg hy]
        have hg : giveB (tkN (m.1 - now).toNat c) m.2 = tkN (m.1 - now).toNat c := by
          unfold giveB
          rw [e2] at hy
          cases hq : giveC (tkN (m.1 - now).toNat c) m.2 with
          | none => rfl
          | some z => rw [hq] at hy; simp at hy
        have i := st (ref ++ [(p.length : Int)]) (by simp; omega)
        rw [hg] at i ⊢
        rw [if_pos (by rw [room8]; simp; omega)]
        exact i
    · refine ⟨ref, ?_⟩
      simp only [spec_l22At.l4, spec_l22At.g4, c0, c1, w, h, and_self, and_true, true_and, decide_true, decide_false, if_true, if_false, mid_get, mid_set, mid_getn, mid_setn, bt_mid, Option.bind_some, Bool.not_true, Bool.not_false, Bool.false_eq_true, Bool.true_eq_false, beq_self_eq_true, bne_self_eq_false, Int.toNat_natCast, atR]
      rw [spec_l22Ticks_f c hc (by omega)]; rfl
theorem ctl0_dead : DeadOk ((false, false, false, false, false, 0) : Ctl) := by simp [DeadOk]
theorem spec_l22At_f {l : List Sig} (h : sigsB l = true) {t : Int} (ht : 0 ≤ t ∧ t ≤ 1000000) : ∃ q, spec_l22At.f l t = some (ctlAt l t, q) := by
  obtain ⟨h1, h2, h3⟩ := sigsB_iff h
  have := spec_l22At_l t ht false false false false false 0 l [] 0 (false, false, false, false, false, 0) [] NN (by simp; omega) (NN_lt (by omega)) ctl0_dead (by omega) ht.1 h2 (fun m hm => ⟨(h3 m hm).1, (h3 m hm).2.1⟩) (by simp)
  exact this
/- moves -/
theorem impl_peopleIn_t (xs : List Mov) (z : ByteArray) (t : Int) (h : ∀ m ∈ xs, movB m = true) (hl : xs.length ≤ 1000000) : impl_peopleIn.f xs z t = some (peopT xs z t) := by
  have := (fold_fix (E := fun m : Mov => movB m = true) (fun p st => -(1000 * (p.length : Int)) ≤ st ∧ st ≤ 1000 * (p.length : Int)) (fun _ => addZ z t) (fun st => some st) (fun k i st => impl_peopleIn.l3 NN k z t st xs xs.length i) xs ?_ ?_ 0 h (by simp) (by omega) NN (NN_lt (by omega))).2
  · rw [foldi_foldl] at this
    exact this
  · intro k st _
    simp [impl_peopleIn.l3, impl_peopleIn.g3]
  · intro k p m r st hx hm hI c0 c1 c2 cw g
    have hb := movB_iff hm
    have hp : p.length ≤ 1000000 := by omega
    have w1 := w64 (n := st + m.2.2) (by omega) (by omega)
    refine ⟨by unfold addZ; rw [List.length_append, List.length_singleton]; split <;> omega, ?_⟩
    simp only [impl_peopleIn.l3, impl_peopleIn.g3, c0, c1, cw, and_self, and_true, true_and, decide_true, decide_false, if_true, if_false, mid_get, mid_set, mid_getn, mid_setn, bt_mid, Option.bind_some, Bool.not_true, Bool.not_false, Bool.false_eq_true, Bool.true_eq_false, beq_self_eq_true, bne_self_eq_false, Int.toNat_natCast, g, ba_beq, w1]
    unfold addZ
    by_cases e : m.2.1 = z <;> by_cases q : m.1 ≤ t <;> simp [e, q]
theorem impl_isClear_f (xs : List Mov) (z : ByteArray) {t : Int} (ht : 0 ≤ t ∧ t ≤ 1000000000) (h : ∀ m ∈ xs, movB m = true) (hl : xs.length ≤ 1000000) : impl_isClear.f xs z t = some (clrB xs z t) := by
  have := all_loop (E := fun m : Mov => movB m = true) (fun m => !nearB z t m) (fun v => some (decide (peopT xs z t = 0))) (fun k v i => impl_isClear.l2 NN k xs z t v v.length i) ?_ ?_ xs h (by omega) NN (NN_lt (by omega))
  · unfold impl_isClear.f impl_isClear.fn impl_isClear.top clrB
    rw [this]
    cases xs.all (fun m => !nearB z t m) <;> rfl
  · intro k p
    simp only [impl_isClear.l2, impl_isClear.g2, Int.lt_irrefl, and_self, and_true, true_and, decide_true, decide_false, if_true, if_false, mid_get, mid_set, mid_getn, mid_setn, bt_mid, Option.bind_some, Bool.not_true, Bool.not_false, Bool.false_eq_true, Bool.true_eq_false, beq_self_eq_true, bne_self_eq_false, Int.toNat_natCast]
    rw [impl_peopleIn_t xs z t h hl]
    rfl
  · intro k p m r hm c0 c1 cw
    have hb := movB_iff hm
    have w1 := w64 (n := t - m.1) (by omega) (by omega)
    simp only [impl_isClear.l2, impl_isClear.g2, c0, c1, cw, and_self, and_true, true_and, decide_true, decide_false, if_true, if_false, mid_get, mid_set, mid_getn, mid_setn, bt_mid, Option.bind_some, Bool.not_true, Bool.not_false, Bool.false_eq_true, Bool.true_eq_false, beq_self_eq_true, bne_self_eq_false, Int.toNat_natCast, w1, ba_beq, nearB]
    by_cases e : m.2.1 = z <;> by_cases q : m.1 ≤ t <;> by_cases q2 : t - m.1 < 30000 <;> simp [e, q, q2]
theorem impl_areAllClear_f (xs : List Mov) (zs : List ByteArray) {t : Int} (ht : 0 ≤ t ∧ t ≤ 1000000000) (h : ∀ m ∈ xs, movB m = true) (hl : xs.length ≤ 1000000) (hz : zs.length ≤ 1000000) : impl_areAllClear.f xs zs t = some (zs.all (clrB xs · t)) := by
  have := all_loop (E := fun _ : ByteArray => True) (clrB xs · t) (fun v => some true) (fun k v i => impl_areAllClear.l2 NN k xs t v v.length i) ?_ ?_ zs (fun _ _ => trivial) (by omega) NN (NN_lt (by omega))
  · unfold impl_areAllClear.f impl_areAllClear.fn impl_areAllClear.top
    rw [this]
    cases zs.all (clrB xs · t) <;> rfl
  · intro k p
    simp [impl_areAllClear.l2, impl_areAllClear.g2]
  · intro k p z r _ c0 c1 cw
    simp only [impl_areAllClear.l2, impl_areAllClear.g2, c0, c1, cw, and_self, and_true, true_and, decide_true, decide_false, if_true, if_false, mid_get, mid_set, mid_getn, mid_setn, bt_mid, Option.bind_some, Bool.not_true, Bool.not_false, Bool.false_eq_true, Bool.true_eq_false, beq_self_eq_true, bne_self_eq_false, Int.toNat_natCast]
    rw [impl_isClear_f xs z ht h hl]
    cases clrB xs z t <;> rfl
theorem spec_l20Upto_l (t : Int) : ∀ (r p : List Mov) (k : Nat), p.length + r.length ≤ 1000000 → r.length < k → spec_l20Upto.l2 NN k (p ++ r) t p.length = some ((p.length + upN t r : Nat) : Int) := by
  intro r
  induction r with
  | nil =>
    intro p k _ hk
    obtain ⟨k, rfl⟩ : ∃ j, k = j + 1 := ⟨k - 1, by omega⟩
    simp [spec_l20Upto.l2, spec_l20Upto.g2, upN]
  | cons m r ih =>
    intro p k hl hk
    simp only [List.length_cons] at hl hk
    obtain ⟨k, rfl⟩ : ∃ j, k = j + 1 := ⟨k - 1, by omega⟩
    have hln := mid_len p r m
    have c0 : (0 : Int) ≤ (p.length : Int) := by omega
    have c1 : (p.length : Int) < ((p ++ m :: r).length : Int) := by omega
    have cw := w64 (n := (p.length : Int) + 1) (by omega) (by omega)
    have i := ih (p ++ [m]) k (by simp; omega) (by omega)
    rw [mid_snoc, snoc_len] at i
    by_cases h : m.1 ≤ t
    · simp only [spec_l20Upto.l2, spec_l20Upto.g2, c0, c1, cw, h, and_self, and_true, true_and, decide_true, decide_false, if_true, if_false, mid_get, mid_set, mid_getn, mid_setn, bt_mid, Option.bind_some, Bool.not_true, Bool.not_false, Bool.false_eq_true, Bool.true_eq_false, beq_self_eq_true, bne_self_eq_false, Int.toNat_natCast, i, upN]
      congr 1
      simp only [List.length_append, List.length_singleton]; omega
    · simp only [spec_l20Upto.l2, spec_l20Upto.g2, c0, c1, cw, h, and_self, and_true, true_and, decide_true, decide_false, if_true, if_false, mid_get, mid_set, mid_getn, mid_setn, bt_mid, Option.bind_some, Bool.not_true, Bool.not_false, Bool.false_eq_true, Bool.true_eq_false, beq_self_eq_true, bne_self_eq_false, Int.toNat_natCast, upN]
      rfl
theorem spec_l20Upto_f (xs : List Mov) (t : Int) (hl : xs.length ≤ 1000000) : spec_l20Upto.f xs t = some (upN t xs : Int) := by
  have := spec_l20Upto_l t xs [] NN (by simpa using hl) (NN_lt (by omega))
  rw [List.nil_append] at this
  unfold spec_l20Upto.f spec_l20Upto.fn spec_l20Upto.top
  refine this.trans ?_
  simp
theorem spec_l20Clear_l (z : ByteArray) (t : Int) (ht : 0 ≤ t ∧ t ≤ 1000000000) (rest : List Mov) (n : Nat) (v : Int) : ∀ (r p : List Mov) (k : Nat), p.length + r.length = n → (∀ m ∈ r, movB m = true) → spec_l20People.f (p ++ (r ++ rest)) z n = some v → n ≤ 1000000 → r.length < k → spec_l20Clear.l3 NN k (p ++ (r ++ rest)) z t n p.length = if r.all (fun m => !(decide (m.2.1 = z) && decide (t < m.1 + 30000))) = true then some (decide (v = 0)) else some false := by
  intro r
  induction r with
  | nil =>
    intro p k hn _ hv _ hk
    obtain ⟨k, rfl⟩ : ∃ j, k = j + 1 := ⟨k - 1, by omega⟩
    have c1 : ¬ (p.length : Int) < (n : Int) := by simp at hn; omega
    rw [List.nil_append] at hv ⊢
    simp only [spec_l20Clear.l3, spec_l20Clear.g3, c1, and_self, and_true, true_and, decide_true, decide_false, if_true, if_false, mid_get, mid_set, mid_getn, mid_setn, bt_mid, Option.bind_some, Bool.not_true, Bool.not_false, Bool.false_eq_true, Bool.true_eq_false, beq_self_eq_true, bne_self_eq_false, Int.toNat_natCast, hv, List.all_nil]
    rfl
  | cons m r ih =>
    intro p k hn hm hv hl hk
    simp only [List.length_cons] at hn hk
    obtain ⟨k, rfl⟩ : ∃ j, k = j + 1 := ⟨k - 1, by omega⟩
    rw [List.cons_append] at hv ⊢
    have hln := mid_len p (r ++ rest) m
    have hb := movB_iff (hm m (by simp))
    have c0 : (0 : Int) ≤ (p.length : Int) := by omega
    have c1 : (p.length : Int) < ((p ++ m :: (r ++ rest)).length : Int) := by omega
    have c2 : (p.length : Int) < (n : Int) := by omega
    have cw := w64 (n := (p.length : Int) + 1) (by omega) (by omega)
    have w1 := w64 (n := m.1 + 30000) (by omega) (by omega)
    have i := ih (p ++ [m]) k (by simp; omega) (fun x hx => hm x (by simp [hx])) (by rw [mid_snoc]; exact hv) hl (by omega)
    rw [mid_snoc, snoc_len] at i
    simp only [spec_l20Clear.l3, spec_l20Clear.g3, c0, c1, c2, cw, and_self, and_true, true_and, decide_true, decide_false, if_true, if_false, mid_get, mid_set, mid_getn, mid_setn, bt_mid, Option.bind_some, Bool.not_true, Bool.not_false, Bool.false_eq_true, Bool.true_eq_false, beq_self_eq_true, bne_self_eq_false, Int.toNat_natCast, w1, ba_beq, List.all_cons]
    by_cases e : m.2.1 = z
    · by_cases q : t < m.1 + 30000
      · simp [e, q]
      · simp only [e, q, and_self, and_true, true_and, decide_true, decide_false, if_true, if_false, mid_get, mid_set, mid_getn, mid_setn, bt_mid, Option.bind_some, Bool.not_true, Bool.not_false, Bool.false_eq_true, Bool.true_eq_false, beq_self_eq_true, bne_self_eq_false, Int.toNat_natCast, Bool.and_false]
        exact i
    · simp only [e, and_self, and_true, true_and, decide_true, decide_false, if_true, if_false, mid_get, mid_set, mid_getn, mid_setn, bt_mid, Option.bind_some, Bool.not_true, Bool.not_false, Bool.false_eq_true, Bool.true_eq_false, beq_self_eq_true, bne_self_eq_false, Int.toNat_natCast, Bool.false_and]
      exact i
theorem spec_l20Clear_f (xs : List Mov) (z : ByteArray) {t : Int} (ht : 0 ≤ t ∧ t ≤ 1000000000) (hs : SrtM xs) (h : ∀ m ∈ xs, movB m = true) (hl : xs.length ≤ 1000000) : spec_l20Clear.f xs z t = some (clrB xs z t) := by
  have hu := upN_le t xs
  have hpl : (xs.take (upN t xs)).length = upN t xs := by rw [List.length_take]; omega
  have hin : ∀ m ∈ xs.take (upN t xs), movB m = true := fun m hm => h m (List.mem_of_mem_take hm)
  have hsp := spec_l20People_f (xs.take (upN t xs)) (xs.drop (upN t xs)) z hin (by omega)
  rw [List.take_append_drop, hpl, ← peopT_up hs] at hsp
  have := spec_l20Clear_l z t ht (xs.drop (upN t xs)) (upN t xs) (peopT xs z t) (xs.take (upN t xs)) [] NN (by rw [hpl]; simp) hin (by rw [List.nil_append, List.take_append_drop]; exact hsp) (by omega) (NN_lt (by omega))
  rw [List.nil_append, List.take_append_drop] at this
  unfold spec_l20Clear.f spec_l20Clear.fn spec_l20Clear.top clrB
  rw [spec_l20Upto_f xs t hl, Option.bind_some, near_up hs]
  refine this.trans ?_
  cases (xs.take (upN t xs)).all (fun m => !(decide (m.2.1 = z) && decide (t < m.1 + 30000))) <;> rfl
end Go.Pl

namespace Go.Pl
open Go.Ev
set_option linter.unusedVariables false
set_option linter.unusedSimpArgs false
def tkT (t : Int) : Int := Int.tdiv t 100
theorem tkT_bd {t : Int} (h : 0 ≤ t ∧ t ≤ 10000000) : 0 ≤ tkT t ∧ tkT t ≤ 100000 := by
  unfold tkT
  rw [Int.tdiv_eq_ediv_of_nonneg h.1]; omega
def firT (l : List Sig) (ms : List Mov) (zs : List ByteArray) (t : Int) : Int := if (mayC (ctlAt l (tkT t)) && zs.all (clrB ms · (tkT t * 100))) = true then tkT t else -1
def firF (l : List Sig) (ms : List Mov) (zs : List ByteArray) (T t : Int) : Int := if tkT t < T then firT l ms zs t else -1
abbrev LF := List Int → List Mov → List ByteArray → Int → List Int → List Sig → Int → Int → Ctl → List Int → Option (List Int)
theorem nn0 : 0 < NN := NN_lt (by omega)
theorem fired_begin (L10 : LF) (times : List Int) (ms : List Mov) (zs : List ByteArray) (last : Int) (o1 : List Int) (b1 : List Sig) (b2 b3 : Int) (b4 : Ctl) (b5 : List Int) (out : List Int) (T : Int) : ∀ (r p : List Sig) (c : Ctl) (ref : List Int) (k : Nat), p.length + r.length ≤ 1000000 → r.length < k → DeadOk c → SrtF T r → (∀ m ∈ r, 0 ≤ m.2 ∧ m.2 ≤ 9) → ref.length ≤ p.length →
    ∃ (p' r' : List Sig) (c' : Ctl) (ref' : List Int), p' ++ r' = p ++ r ∧ SrtF (T + 1) r' ∧ DeadOk c' ∧ ref'.length ≤ p'.length ∧ (∀ t, T ≤ t → atR r' c' T t = atR r c T t) ∧ (∀ m ∈ r', 0 ≤ m.2 ∧ m.2 ≤ 9) ∧
      impl_firedTicks.l120000001 NN L10 k times ms zs last o1 b1 b2 b3 b4 b5 out (p ++ r) p.length T c ref = impl_firedTicks.l1000012 NN L10 NN times ms zs last out (p ++ r) p'.length T c' ref' := by
  intro r
  induction r with
  | nil =>
    intro p c ref k _ hk hc _ _ hr
    obtain ⟨k, rfl⟩ : ∃ j, k = j + 1 := ⟨k - 1, by omega⟩
    refine ⟨p, [], c, ref, rfl, trivial, hc, hr, fun _ _ => rfl, by simp, ?_⟩
    simp only [List.append_nil, impl_firedTicks.l120000001, impl_firedTicks.g120000001, Int.lt_irrefl, and_self, and_true, true_and, decide_true, decide_false, if_true, if_false, mid_get, mid_set, mid_getn, mid_setn, bt_mid, Option.bind_some, Bool.not_true, Bool.not_false, Bool.false_eq_true, Bool.true_eq_false, beq_self_eq_true, bne_self_eq_false, Int.toNat_natCast]
  | cons m r ih =>
    intro p c ref k hl hk hc hs hm hr
    simp only [List.length_cons] at hl hk
    obtain ⟨k, rfl⟩ : ∃ j, k = j + 1 := ⟨k - 1, by omega⟩
    have hln := mid_len p r m
    have c0 : (0 : Int) ≤ (p.length : Int) := by omega
    have c1 : (p.length : Int) < ((p ++ m :: r).length : Int) := by omega
    have cw := w64 (n := (p.length : Int) + 1) (by omega) (by omega)
    have hs1 := hs.1
    by_cases h : m.1 = T
    · have st : ∀ (c1 : Ctl) (ref1 : List Int), c1 = giveB c m.2 → ref1.length ≤ p.length + 1 → ∃ (p' r' : List Sig) (c' : Ctl) (ref' : List Int), p' ++ r' = p ++ m :: r ∧ SrtF (T + 1) r' ∧ DeadOk c' ∧ ref'.length ≤ p'.length ∧ (∀ t, T ≤ t → atR r' c' T t = atR (m :: r) c T t) ∧ (∀ m ∈ r', 0 ≤ m.2 ∧ m.2 ≤ 9) ∧
          impl_firedTicks.l120000001 NN L10 k times ms zs last o1 b1 b2 b3 b4 b5 out (p ++ m :: r) ((p.length : Int) + 1) T c1 ref1 = impl_firedTicks.l1000012 NN L10 NN times ms zs last out (p ++ m :: r) p'.length T c' ref' := by
        intro c1 ref1 e1 hr1
        have i := ih (p ++ [m]) c1 ref1 k (by simp; omega) (by omega) (by rw [e1]; exact give_dead hc _) (by rw [← h]; exact hs.2) (fun x hx => hm x (by simp [hx])) (by simp; omega)
        rw [mid_snoc, snoc_len] at i
        obtain ⟨p', r', c', ref', i1, i2, i3, i4, i5, i6, i7⟩ := i
        refine ⟨p', r', c', ref', i1, i2, i3, i4, fun t ht => ?_, i6, i7⟩
        rw [i5 t ht, e1, show m = (T, m.2) by rw [← h], atR_give T m.2 r c ht]
      have hg := impl_giveInput_f c m.2 hc (hm m (by simp))
      have e0 : (m.1 == T) = true := by rw [h]; simp
      simp only [impl_firedTicks.l120000001, impl_firedTicks.g120000001, c0, c1, cw, e0, hg, and_self, and_true, true_and, decide_true, decide_false, if_true, if_false, mid_get, mid_set, mid_getn, mid_setn, bt_mid, Option.bind_some, Bool.not_true, Bool.not_false, Bool.false_eq_true, Bool.true_eq_false, beq_self_eq_true, bne_self_eq_false, Int.toNat_natCast]
      cases hq : giveC c m.2 with
      | some y =>
        simp only [and_self, and_true, true_and, decide_true, decide_false, if_true, if_false, mid_get, mid_set, mid_getn, mid_setn, bt_mid, Option.bind_some, Bool.not_true, Bool.not_false, Bool.false_eq_true, Bool.true_eq_false, beq_self_eq_true, bne_self_eq_false, Int.toNat_natCast]
        exact st y ref (by unfold giveB; rw [hq]; rfl) (by omega)
      | none =>
        have n5 : ((5 : Int) == 0) = false := rfl
        have hro : ref.length + [(p.length : Int)].length < room 8 := by rw [room8]; simp; omega
        simp only [n5, hro, and_self, and_true, true_and, decide_true, decide_false, if_true, if_false, mid_get, mid_set, mid_getn, mid_setn, bt_mid, Option.bind_some, Bool.not_true, Bool.not_false, Bool.false_eq_true, Bool.true_eq_false, beq_self_eq_true, bne_self_eq_false, Int.toNat_natCast]
        exact st c (ref ++ [(p.length : Int)]) (by unfold giveB; rw [hq]; rfl) (by simp; omega)
    · have e0 : (m.1 == T) = false := by simpa using h
      refine ⟨p, m :: r, c, ref, rfl, ⟨by omega, hs.2⟩, hc, hr, fun _ _ => rfl, hm, ?_⟩
      simp only [impl_firedTicks.l120000001, impl_firedTicks.g120000001, c0, c1, e0, and_self, and_true, true_and, decide_true, decide_false, if_true, if_false, mid_get, mid_set, mid_getn, mid_setn, bt_mid, Option.bind_some, Bool.not_true, Bool.not_false, Bool.false_eq_true, Bool.true_eq_false, beq_self_eq_true, bne_self_eq_false, Int.toNat_natCast]
theorem fired_fill (L10 : LF) (l : List Sig) (ms : List Mov) (zs : List ByteArray) (hms : ∀ m ∈ ms, movB m = true) (hml : ms.length ≤ 1000000) (hzl : zs.length ≤ 1000000) (last : Int) (T : Int) (hT : 0 ≤ T ∧ T ≤ 1000000) (hmay : mayC (ctlAt l T) = true) (ls : List Sig) (nx : Int) (c : Ctl) (ref : List Int) : ∀ (r p : List Int) (k : Nat), p.length + r.length ≤ 1000000 → r.length < k → (∀ t ∈ r, 0 ≤ t ∧ t ≤ 10000000) →
    impl_firedTicks.l14 NN L10 k (p ++ r) ms zs last (p ++ r) (p ++ r).length p.length (p.map (firF l ms zs (T + 1)) ++ r.map (firF l ms zs T)) ls nx T c ref = impl_firedTicks.l1000019 NN L10 NN (p ++ r) ms zs last ((p ++ r).map (firF l ms zs (T + 1))) ls nx T c ref := by
  intro r
  induction r with
  | nil =>
    intro p k _ hk _
    obtain ⟨k, rfl⟩ : ∃ j, k = j + 1 := ⟨k - 1, by omega⟩
    simp only [List.append_nil, List.map_nil, impl_firedTicks.l14, impl_firedTicks.g14, Int.lt_irrefl, and_self, and_true, true_and, decide_true, decide_false, if_true, if_false, mid_get, mid_set, mid_getn, mid_setn, bt_mid, Option.bind_some, Bool.not_true, Bool.not_false, Bool.false_eq_true, Bool.true_eq_false, beq_self_eq_true, bne_self_eq_false, Int.toNat_natCast]
  | cons t r ih =>
    intro p k hl hk ht
    simp only [List.length_cons] at hl hk
    obtain ⟨k, rfl⟩ : ∃ j, k = j + 1 := ⟨k - 1, by omega⟩
    have hln := mid_len p r t
    have htt := ht t (by simp)
    have hb := tkT_bd htt
    have c0 : (0 : Int) ≤ (p.length : Int) := by omega
    have c1 : (p.length : Int) < ((p ++ t :: r).length : Int) := by omega
    have cw := w64 (n := (p.length : Int) + 1) (by omega) (by omega)
    have w1 := w64 (n := Int.tdiv t 100) (by unfold tkT at hb; omega) (by unfold tkT at hb; omega)
    have w2 := w64 (n := T * 100) (by omega) (by omega)
    have i := ih (p ++ [t]) k (by simp; omega) (by omega) (fun x hx => ht x (by simp [hx]))
    rw [mid_snoc, snoc_len] at i
    have cl : (p.length : Int) < ((p.map (firF l ms zs (T + 1)) ++ firF l ms zs T t :: r.map (firF l ms zs T)).length : Int) := by
      rw [mid_len, List.length_map]; omega
    have hpm : ((p.map (firF l ms zs (T + 1))).length : Int) = (p.length : Int) := by rw [List.length_map]
    rw [List.map_append, List.map_singleton, mid_snoc] at i
    simp only [List.map_cons]
    by_cases h : tkT t = T
    · have e0 : (Int.tdiv t 100 == T) = true := by unfold tkT at h; rw [h]; simp
      simp only [impl_firedTicks.l14, impl_firedTicks.g14, c0, c1, cw, w1, w2, e0, and_self, and_true, true_and, decide_true, decide_false, if_true, if_false, mid_get, mid_set, mid_getn, mid_setn, bt_mid, Option.bind_some, Bool.not_true, Bool.not_false, Bool.false_eq_true, Bool.true_eq_false, beq_self_eq_true, bne_self_eq_false, Int.toNat_natCast]
      rw [impl_areAllClear_f ms zs (by omega) hms hml hzl, Option.bind_some]
      have eF : firF l ms zs (T + 1) t = if zs.all (clrB ms · (T * 100)) = true then T else -1 := by
        unfold firF firT
        rw [h, if_pos (by omega), hmay, Bool.true_and]
      have eN : firF l ms zs T t = -1 := by unfold firF; rw [if_neg (by omega)]
      rw [eF] at i
      by_cases ha : zs.all (clrB ms · (T * 100)) = true
      · rw [if_pos ha] at i
        rw [if_pos ha, if_pos cl]
        have es : (p.map (firF l ms zs (T + 1)) ++ firF l ms zs T t :: r.map (firF l ms zs T)).set p.length T = p.map (firF l ms zs (T + 1)) ++ T :: r.map (firF l ms zs T) := by
          have := mid_setn (p.map (firF l ms zs (T + 1))) (r.map (firF l ms zs T)) (firF l ms zs T t) T
          rwa [List.length_map] at this
        rw [es]
        exact i
      · rw [if_neg ha] at i
        rw [if_neg ha, eN]
        exact i
    · have e0 : (Int.tdiv t 100 == T) = false := by unfold tkT at h; simpa using h
      have eF : firF l ms zs (T + 1) t = firF l ms zs T t := by
        unfold firF
        by_cases q : tkT t < T
        · rw [if_pos q, if_pos (by omega)]
        · rw [if_neg q, if_neg (by omega)]
      rw [eF] at i
      simp only [impl_firedTicks.l14, impl_firedTicks.g14, c0, c1, cw, w1, e0, and_self, and_true, true_and, decide_true, decide_false, if_true, if_false, mid_get, mid_set, mid_getn, mid_setn, bt_mid, Option.bind_some, Bool.not_true, Bool.not_false, Bool.false_eq_true, Bool.true_eq_false, beq_self_eq_true, bne_self_eq_false, Int.toNat_natCast]
      exact i
theorem fired_main (l : List Sig) (ms : List Mov) (zs : List ByteArray) (hms : ∀ m ∈ ms, movB m = true) (hml : ms.length ≤ 1000000) (hzl : zs.length ≤ 1000000) (hll : l.length ≤ 1000000) (last : Int) (hlast : last ≤ 100000) (times : List Int) (htl : times.length ≤ 1000000) (ht : ∀ t ∈ times, (0 ≤ t ∧ t ≤ 10000000) ∧ tkT t ≤ last) : ∀ (n : Nat) (T : Int) (p r : List Sig) (c : Ctl) (ref : List Int) (k : Nat), 0 ≤ T → T + n = last + 1 → n < k → l = p ++ r → SrtF T r → DeadOk c → ref.length ≤ p.length → (∀ m ∈ r, 0 ≤ m.2 ∧ m.2 ≤ 9) → (∀ t, T ≤ t → atR r c T t = ctlAt l t) →
    impl_firedTicks.l10 NN k times ms zs last (times.map (firF l ms zs T)) l p.length T c ref = some (times.map (firT l ms zs)) := by
  intro n
  induction n with
  | zero =>
    intro T p r c ref k _ hT hk _ _ _ _ _ _
    obtain ⟨k, rfl⟩ : ∃ j, k = j + 1 := ⟨k - 1, by omega⟩
    have c1 : ¬ T ≤ last := by omega
    simp only [impl_firedTicks.l10, impl_firedTicks.g10, c1, and_self, and_true, true_and, decide_true, decide_false, if_true, if_false, mid_get, mid_set, mid_getn, mid_setn, bt_mid, Option.bind_some, Bool.not_true, Bool.not_false, Bool.false_eq_true, Bool.true_eq_false, beq_self_eq_true, bne_self_eq_false, Int.toNat_natCast]
    congr 1
    refine List.map_congr_left fun t h => ?_
    have := (ht t h).2
    unfold firF
    rw [if_pos (by omega)]
  | succ n ih =>
    intro T p r c ref k h0 hT hk hl hs hc hr hm hat
    obtain ⟨k, rfl⟩ : ∃ j, k = j + 1 := ⟨k - 1, by omega⟩
    have c1 : T ≤ last := by omega
    have hll2 := hll
    rw [hl, List.length_append] at hll2
    simp only [impl_firedTicks.l10, impl_firedTicks.g10, c1, and_self, and_true, true_and, decide_true, decide_false, if_true, if_false, mid_get, mid_set, mid_getn, mid_setn, bt_mid, Option.bind_some, Bool.not_true, Bool.not_false, Bool.false_eq_true, Bool.true_eq_false, beq_self_eq_true, bne_self_eq_false, Int.toNat_natCast]
    rw [impl_firedTicks.c1000011 nn0]
    unfold impl_firedTicks.g1000011
    obtain ⟨p', r', c', ref', b1, b2, b3, b4, b5, b6, b7⟩ := fired_begin (impl_firedTicks.l10 NN k) times ms zs last (times.map (firF l ms zs T)) l p.length T c ref (times.map (firF l ms zs T)) T r p c ref NN hll2 (NN_lt (by omega)) hc hs hm hr
    rw [← hl] at b7 b1
    rw [b7, impl_firedTicks.c1000012 nn0]
    unfold impl_firedTicks.g1000012
    rw [impl_mayFire_f, Option.bind_some]
    have hcT : c' = ctlAt l T := by
      rw [← hat T (Int.le_refl T), ← b5 T (Int.le_refl T), atR_now c' b2]
    have w1 := w64 (n := T + 1) (by omega) (by omega)
    have hend : impl_firedTicks.l1000019 NN (impl_firedTicks.l10 NN k) NN times ms zs last (times.map (firF l ms zs (T + 1))) l p'.length T c' ref' = some (times.map (firT l ms zs)) := by
      rw [impl_firedTicks.c1000019 nn0]
      unfold impl_firedTicks.g1000019
      rw [impl_giveInput_f c' 8 b3 (by omega), give_tk]
      simp only [Option.bind_some, w1]
      exact ih (T + 1) p' r' (tkC c') ref' k (by omega) (by omega) (by omega) b1.symm b2 (tk_dead b3) b4 b6 (fun t h => by rw [← atR_step c' b2 h, b5 t (by omega), hat t (by omega)])
    by_cases hmay : mayC c' = true
    · rw [if_pos hmay]
      have := fired_fill (impl_firedTicks.l10 NN k) l ms zs hms hml hzl last T (by omega) (by rw [← hcT]; exact hmay) l p'.length c' ref' times [] NN (by simpa using htl) (NN_lt (by omega)) (fun t h => (ht t h).1)
      rw [List.nil_append, List.map_nil, List.nil_append] at this
      refine Eq.trans this ?_
      exact hend
    · rw [if_neg hmay]
      have e : times.map (firF l ms zs T) = times.map (firF l ms zs (T + 1)) := by
        refine List.map_congr_left fun t h => ?_
        unfold firF
        by_cases q : tkT t < T
        · rw [if_pos q, if_pos (by omega)]
        · rw [if_neg q]
          by_cases q2 : tkT t < T + 1
          · have e3 : tkT t = T := by omega
            rw [if_pos q2]
            unfold firT
            rw [e3, ← hcT]
            simp [hmay]
          · rw [if_neg q2]
      rw [e]
      exact hend
theorem fired_first (l : List Sig) (ms : List Mov) (zs : List ByteArray) : ∀ (r p : List Int) (last : Int) (k : Nat), p.length + r.length ≤ 1000000 → r.length < k → (∀ t ∈ p, (0 ≤ t ∧ t ≤ 10000000) ∧ tkT t ≤ last) → (∀ t ∈ r, 0 ≤ t ∧ t ≤ 10000000) → 0 ≤ last → last ≤ 100000 →
    ∃ last', 0 ≤ last' ∧ last' ≤ 100000 ∧ (∀ t ∈ p ++ r, (0 ≤ t ∧ t ≤ 10000000) ∧ tkT t ≤ last') ∧ impl_firedTicks.l4 NN k (p ++ r) l ms zs last (p ++ r) (p ++ r).length p.length (p.map (fun _ => (-1 : Int)) ++ r.map (fun _ => (0 : Int))) = impl_firedTicks.l10 NN NN (p ++ r) ms zs last' ((p ++ r).map (fun _ => (-1 : Int))) l 0 0 (false, false, false, false, false, 0) [] := by
  intro r
  induction r with
  | nil =>
    intro p last k _ hk hp _ h0 h1
    obtain ⟨k, rfl⟩ : ∃ j, k = j + 1 := ⟨k - 1, by omega⟩
    refine ⟨last, h0, h1, by simpa using hp, ?_⟩
    simp only [List.append_nil, List.map_nil, impl_firedTicks.l4, impl_firedTicks.g4, Int.lt_irrefl, and_self, and_true, true_and, decide_true, decide_false, if_true, if_false, mid_get, mid_set, mid_getn, mid_setn, bt_mid, Option.bind_some, Bool.not_true, Bool.not_false, Bool.false_eq_true, Bool.true_eq_false, beq_self_eq_true, bne_self_eq_false, Int.toNat_natCast]
  | cons t r ih =>
    intro p last k hl hk hp hr h0 h1
    simp only [List.length_cons] at hl hk
    obtain ⟨k, rfl⟩ : ∃ j, k = j + 1 := ⟨k - 1, by omega⟩
    have hln := mid_len p r t
    have htt := hr t (by simp)
    have hb := tkT_bd htt
    have c0 : (0 : Int) ≤ (p.length : Int) := by omega
    have c1 : (p.length : Int) < ((p ++ t :: r).length : Int) := by omega
    have cw := w64 (n := (p.length : Int) + 1) (by omega) (by omega)
    have w1 := w64 (n := Int.tdiv t 100) (by unfold tkT at hb; omega) (by unfold tkT at hb; omega)
    have cl : (p.length : Int) < ((p.map (fun _ => (-1 : Int)) ++ (0 : Int) :: r.map (fun _ => (0 : Int))).length : Int) := by
      rw [mid_len, List.length_map]; omega
    have es : (p.map (fun _ => (-1 : Int)) ++ (0 : Int) :: r.map (fun _ => (0 : Int))).set p.length (-1) = p.map (fun _ => (-1 : Int)) ++ (-1 : Int) :: r.map (fun _ => (0 : Int)) := by
      have := mid_setn (p.map (fun _ => (-1 : Int))) (r.map (fun _ => (0 : Int))) (0 : Int) (-1)
      rwa [List.length_map] at this
    have i := ih (p ++ [t]) (if Int.tdiv t 100 > last then Int.tdiv t 100 else last) k (by simp; omega) (by omega) (fun x hx => by
      rcases List.mem_append.1 hx with h | h
      · have := hp x h
        refine ⟨this.1, ?_⟩
        split <;> omega
      · rw [List.mem_singleton.1 h]
        refine ⟨htt, ?_⟩
        unfold tkT
        split <;> omega) (fun x hx => hr x (by simp [hx])) (by unfold tkT at hb; split <;> omega) (by unfold tkT at hb; split <;> omega)
    rw [mid_snoc, snoc_len, List.map_append, List.map_singleton, mid_snoc] at i
    simp only [List.map_cons, impl_firedTicks.l4, impl_firedTicks.g4, c0, c1, cw, w1, cl, and_self, and_true, true_and, decide_true, decide_false, if_true, if_false, mid_get, mid_set, mid_getn, mid_setn, bt_mid, Option.bind_some, Bool.not_true, Bool.not_false, Bool.false_eq_true, Bool.true_eq_false, beq_self_eq_true, bne_self_eq_false, Int.toNat_natCast, es]
    exact i
theorem impl_firedTicks_f {l : List Sig} (hl : sigsB l = true) {ms : List Mov} (hm : movesB ms = true) (zs : List ByteArray) (hz : zs.length ≤ 1000000) (times : List Int) (htl : times.length ≤ 1000000) (ht : ∀ t ∈ times, 0 ≤ t ∧ t ≤ 10000000) : impl_firedTicks.f times l ms zs = some (times.map (firT l ms zs)) := by
  obtain ⟨h1, h2, h3⟩ := sigsB_iff hl
  obtain ⟨m1, m2, m3⟩ := movesB_iff hm
  obtain ⟨last, l1, l2, l3, l4⟩ := fired_first l ms zs times [] 0 NN (by simpa using htl) (NN_lt (by omega)) (by simp) ht (by omega) (by omega)
  rw [List.nil_append] at l3
  simp only [List.nil_append, List.map_nil, List.length_nil] at l4
  have hr : (times.length : Int) < room 8 := by rw [room8]; omega
  unfold impl_firedTicks.f impl_firedTicks.fn impl_firedTicks.top
  rw [if_pos ⟨by omega, hr, rfl⟩, Int.toNat_natCast, ← List.map_const']
  refine Eq.trans l4 ?_
  have := fired_main l ms zs m3 (by omega) hz (by omega) last l2 times htl l3 (last + 1).toNat 0 [] l (false, false, false, false, false, 0) [] NN (by omega) (by omega) (NN_lt (by omega)) rfl h2 ctl0_dead (by simp) (fun m h => (h3 m h).2.1) (fun t _ => rfl)
  refine Eq.trans ?_ this
  congr 1
  refine List.map_congr_left fun t h => ?_
  have := tkT_bd (ht t h)
  unfold firF
  rw [if_neg (by omega)]
end Go.Pl

namespace Go.Pl
open Go.Ev
set_option linter.unusedVariables false
noncomputable section
def impl_isDay.top (day0 : Int) : Option Bool :=
  (impl_within.f day0 0 100000).bind fun r1 =>
  some r1
def impl_isDay.fn (n : Nat) (day0 : Int) : Option Bool := impl_isDay.top day0
def impl_isDay.f (day0 : Int) : Option Bool := impl_isDay.fn NN day0
end
end Go.Pl

namespace Go.Pl
open Go.Ev
set_option linter.unusedVariables false
noncomputable section
def impl_isCalibre.top (n0 : Int) : Option Bool :=
  (impl_within.f n0 20 300).bind fun r1 =>
  some r1
def impl_isCalibre.fn (n : Nat) (n0 : Int) : Option Bool := impl_isCalibre.top n0
def impl_isCalibre.f (n0 : Int) : Option Bool := impl_isCalibre.fn NN n0
end
end Go.Pl

namespace Go.Pl
open Go.Ev
set_option linter.unusedVariables false
noncomputable section
def impl_IsPermit.g4 (L4 : Int → (Int × Int × Int × Int × List Int × Int) → Option Bool) (i3 : Int) (p1 : Int × Int × Int × Int × List Int × Int) : Option Bool :=
  if (decide ((i3 : Int) < (p1.2.2.2.2.1.length : Int))) = true then
    if (0 : Int) ≤ (IntKind.i64.wrap (i3 - 1)) ∧ ((IntKind.i64.wrap (i3 - 1)) : Int) < p1.2.2.2.2.1.length then
      if (0 : Int) ≤ i3 ∧ (i3 : Int) < p1.2.2.2.2.1.length then
        if (decide (((p1.2.2.2.2.1.getD (i3 : Int).toNat 0) : Int) ≤ (p1.2.2.2.2.1.getD ((IntKind.i64.wrap (i3 - 1)) : Int).toNat 0))) = true then
          some false
        else
          L4 (IntKind.i64.wrap (i3 + 1)) p1
      else
        none
    else
      none
  else
    some true
def impl_IsPermit.l4 (n : Nat) : Nat → Int → (Int × Int × Int × Int × List Int × Int) → Option Bool
  | 0 => fun _ _ => none
  | k + 1 => impl_IsPermit.g4 (impl_IsPermit.l4 n k)
def impl_IsPermit.top (I4 : Int → (Int × Int × Int × Int × List Int × Int) → Option Bool) (p0 : Int × Int × Int × Int × List Int × Int) : Option Bool :=
  (impl_isDay.f p0.1).bind fun r1 =>
  if (!r1) = false then
    (impl_isDay.f p0.2.1).bind fun r2 =>
    if (!r2) = false then
      if (decide ((p0.2.1 : Int) < p0.1)) = false then
        (impl_within.f p0.2.2.1 0 1000000000).bind fun r3 =>
        if (!r3) = false then
          (impl_isCalibre.f p0.2.2.2.1).bind fun r4 =>
          if (!r4) = false then
            (impl_within.f p0.2.2.2.2.2 0 3).bind fun r5 =>
            if (!r5) = false then
              (impl_allWithin.f p0.2.2.2.2.1 0 3).bind fun r6 =>
              if (!r6) = true then
                some false
              else
                I4 1 p0
            else
              some false
          else
            some false
        else
          some false
      else
        some false
    else
      some false
  else
    some false
def impl_IsPermit.fn (n : Nat) (p0 : Int × Int × Int × Int × List Int × Int) : Option Bool := impl_IsPermit.top (impl_IsPermit.l4 n n) p0
def impl_IsPermit.f (p0 : Int × Int × Int × Int × List Int × Int) : Option Bool := impl_IsPermit.fn NN p0
end
end Go.Pl

namespace Go.Pl
open Go.Ev
set_option linter.unusedVariables false
noncomputable section
def spec_IsPermit.top (p0 : Int × Int × Int × Int × List Int × Int) : Option Bool :=
  (spec_l01In.f p0.1 0 100000).bind fun r1 =>
  if r1 = true then
    (spec_l01In.f p0.2.1 p0.1 100000).bind fun r2 =>
    if r2 = true then
      (spec_l01In.f p0.2.2.1 0 1000000000).bind fun r3 =>
      if r3 = true then
        (spec_l01In.f p0.2.2.2.1 20 300).bind fun r4 =>
        if r4 = true then
          (spec_l01Rises.f p0.2.2.2.2.1 4).bind fun r5 =>
          if r5 = true then
            (spec_l01In.f p0.2.2.2.2.2 0 3).bind fun r6 =>
            some r6
          else
            some false
        else
          some false
      else
        some false
    else
      some false
  else
    some false
def spec_IsPermit.fn (n : Nat) (p0 : Int × Int × Int × Int × List Int × Int) : Option Bool := spec_IsPermit.top p0
def spec_IsPermit.f (p0 : Int × Int × Int × Int × List Int × Int) : Option Bool := spec_IsPermit.fn NN p0
end
end Go.Pl

namespace Go.Pl
open Go.Ev
set_option linter.unusedVariables false
set_option linter.unusedSimpArgs false
theorem impl_isDay_f (n : Int) : impl_isDay.f n = some (inB n 0 100000) := by
  unfold impl_isDay.f impl_isDay.fn impl_isDay.top
  rw [impl_within_f]; rfl
theorem impl_isCalibre_f (n : Int) : impl_isCalibre.f n = some (inB n 20 300) := by
  unfold impl_isCalibre.f impl_isCalibre.fn impl_isCalibre.top
  rw [impl_within_f]; rfl
theorem impl_allWithin_f (xs : List Int) (lo hi : Int) (h : xs.length ≤ 140737488355328) : impl_allWithin.f xs lo hi = some (xs.all (inB · lo hi)) := by
  have := all_loop (E := fun _ => True) (inB · lo hi) (fun _ => some true) (fun k xs i => impl_allWithin.l2 NN k lo hi xs xs.length i) ?_ ?_ xs (fun _ _ => trivial) h NN (NN_lt (by omega))
  · unfold impl_allWithin.f impl_allWithin.fn impl_allWithin.top
    refine this.trans ?_
    cases xs.all (inB · lo hi) <;> simp
  · intro k p
    simp [impl_allWithin.l2, impl_allWithin.g2]
  · intro k p a r _ c0 c1 cw
    simp only [impl_allWithin.l2, impl_allWithin.g2, c0, c1, cw, and_self, and_true, true_and, decide_true, decide_false, if_true, if_false, mid_get, mid_set, mid_getn, mid_setn, bt_mid, Option.bind_some, Bool.not_true, Bool.not_false, Bool.false_eq_true, Bool.true_eq_false, beq_self_eq_true, bne_self_eq_false, Int.toNat_natCast, impl_within_f]
    cases inB a lo hi <;> simp
/-- strictly rising -/
def risB : List Int → Bool
  | [] => true
  | [_] => true
  | a :: b :: r => decide (a < b) && risB (b :: r)
theorem risB_snoc : ∀ (p : List Int) (a b : Int), risB (p ++ [a, b]) = (risB (p ++ [a]) && decide (a < b)) := by
  intro p
  induction p with
  | nil => intro a b; simp [risB]
  | cons x p ih =>
    intro a b
    cases p with
    | nil => simp [risB]
    | cons y p =>
      have := ih a b
      simp only [List.cons_append] at this ⊢
      simp only [risB, this, Bool.and_assoc]
/-- rises, looked at from its second element on -/
def risF : Int → List Int → Bool
  | _, [] => true
  | a, b :: r => decide (a < b) && risF b r
theorem risB_cons (a : Int) (r : List Int) : risB (a :: r) = risF a r := by
  induction r generalizing a with
  | nil => rfl
  | cons b r ih => simp only [risB, risF, ih]
theorem snoc_getl (p r : List Int) (x a z : Int) : (p ++ [x] ++ a :: r).getD p.length z = x := by simp
theorem impl_IsPermit_loop (f t n c g : Int) : ∀ (r p : List Int) (x : Int) (k : Nat), p.length + r.length + 1 ≤ 140737488355328 → r.length < k →
    impl_IsPermit.l4 NN k ((p.length : Int) + 1) (f, t, n, c, p ++ [x] ++ r, g) = some (risF x r) := by
  intro r
  induction r with
  | nil =>
    intro p x k _ hk
    obtain ⟨k, rfl⟩ : ∃ j, k = j + 1 := ⟨k - 1, by omega⟩
    simp [impl_IsPermit.l4, impl_IsPermit.g4, risF]
  | cons a r ih =>
    intro p x k hb hk
    simp only [List.length_cons] at hb hk
    obtain ⟨k, rfl⟩ : ∃ j, k = j + 1 := ⟨k - 1, by omega⟩
    have hl : ((p ++ [x] ++ a :: r).length : Int) = p.length + r.length + 2 := by simp; omega
    have w1 := w64 (n := (p.length : Int) + 1 - 1) (by omega) (by omega)
    have w2 := w64 (n := (p.length : Int) + 1 + 1) (by omega) (by omega)
    have c1 : (p.length : Int) + 1 < ((p ++ [x] ++ a :: r).length : Int) := by omega
    have c2 : (0 : Int) ≤ (p.length : Int) + 1 - 1 := by omega
    have c3 : (p.length : Int) + 1 - 1 < ((p ++ [x] ++ a :: r).length : Int) := by omega
    have c4 : (0 : Int) ≤ (p.length : Int) + 1 := by omega
    have g1 : (p ++ [x] ++ a :: r).getD ((p.length : Int) + 1).toNat 0 = a := by
      rw [show ((p.length : Int) + 1).toNat = (p ++ [x]).length by simp, mid_getn]
    have g2 : (p ++ [x] ++ a :: r).getD ((p.length : Int) + 1 - 1).toNat 0 = x := by
      rw [show ((p.length : Int) + 1 - 1).toNat = p.length by omega, snoc_getl]
    simp only [impl_IsPermit.l4, impl_IsPermit.g4, w1, w2, c1, c2, c3, c4, g1, g2, and_self, decide_true, if_true, decide_eq_true_eq, risF]
    have := ih (p ++ [x]) a k (by simp; omega) (by omega)
    by_cases h : a ≤ x
    · have h' : ¬ x < a := by omega
      simp [h, h']
    · have h' : x < a := by omega
      simp only [h, h', if_false, decide_true, Bool.true_and]
      rw [← this]
      simp
theorem spec_l01Rises_loop (n : Int) (hn : Rg .i64 (n - 1)) : ∀ (r p : List Int) (x : Int) (k : Nat), p.length + r.length + 1 ≤ 140737488355328 → r.length < k →
    spec_l01Rises.l2 NN k (p ++ [x] ++ r) n ((p.length : Int) + 1) = some (r.all (inB · 0 (n - 1)) && risF x r) := by
  intro r
  induction r with
  | nil =>
    intro p x k _ hk
    obtain ⟨k, rfl⟩ : ∃ j, k = j + 1 := ⟨k - 1, by omega⟩
    simp [spec_l01Rises.l2, spec_l01Rises.g2, risF]
  | cons a r ih =>
    intro p x k hb hk
    simp only [List.length_cons] at hb hk
    obtain ⟨k, rfl⟩ : ∃ j, k = j + 1 := ⟨k - 1, by omega⟩
    have hl : ((p ++ [x] ++ a :: r).length : Int) = p.length + r.length + 2 := by simp; omega
    have w1 := w64 (n := (p.length : Int) + 1 - 1) (by omega) (by omega)
    have w2 := w64 (n := (p.length : Int) + 1 + 1) (by omega) (by omega)
    have hn' := wf64.1 hn
    have w3 := w64 (n := n - 1) (by omega) (by omega)
    have c1 : (p.length : Int) + 1 < ((p ++ [x] ++ a :: r).length : Int) := by omega
    have c2 : (0 : Int) ≤ (p.length : Int) + 1 - 1 := by omega
    have c3 : (p.length : Int) + 1 - 1 < ((p ++ [x] ++ a :: r).length : Int) := by omega
    have c4 : (0 : Int) ≤ (p.length : Int) + 1 := by omega
    have c5 : (0 : Int) < (p.length : Int) + 1 := by omega
    have g1 : (p ++ [x] ++ a :: r).getD ((p.length : Int) + 1).toNat 0 = a := by
      rw [show ((p.length : Int) + 1).toNat = (p ++ [x]).length by simp, mid_getn]
    have g2 : (p ++ [x] ++ a :: r).getD ((p.length : Int) + 1 - 1).toNat 0 = x := by
      rw [show ((p.length : Int) + 1 - 1).toNat = p.length by omega, snoc_getl]
    simp only [spec_l01Rises.l2, spec_l01Rises.g2, w1, w2, w3, c1, c2, c3, c4, c5, g1, g2, and_self, decide_true, if_true, decide_eq_true_eq, risF, spec_l01In_f, Option.bind_some, List.all_cons]
    have := ih (p ++ [x]) a k (by simp; omega) (by omega)
    cases h0 : inB a 0 (n - 1)
    · simp
    by_cases h : a ≤ x
    · have h' : ¬ x < a := by omega
      simp [h, h']
    · have h' : x < a := by omega
      simp only [h, h', if_false, decide_true, Bool.true_and, Bool.not_true, if_true]
      rw [← this]
      simp
theorem spec_l01Rises_f (xs : List Int) (n : Int) (hn : Rg .i64 (n - 1)) (h : xs.length ≤ 140737488355328) : spec_l01Rises.f xs n = some (xs.all (inB · 0 (n - 1)) && risB xs) := by
  unfold spec_l01Rises.f spec_l01Rises.fn spec_l01Rises.top
  obtain ⟨k, hk⟩ : ∃ j, NN = j + 1 := ⟨NN - 1, by have := NNb; omega⟩
  have hkb : 1000000000000000 < k := by rw [NN_eq] at hk; omega
  cases xs with
  | nil => rw [show spec_l01Rises.l2 NN NN = spec_l01Rises.l2 NN (k + 1) by rw [← hk]]; simp [spec_l01Rises.l2, spec_l01Rises.g2, risB]
  | cons a r =>
    simp only [List.length_cons] at h
    have hl := spec_l01Rises_loop n hn r [] a k (by simp; omega) (by omega)
    have hn' := wf64.1 hn
    have w3 := w64 (n := n - 1) (by omega) (by omega)
    have w1 := w64 (n := 0 + 1) (by omega) (by omega)
    have c1 : (0 : Int) < ((a :: r).length : Int) := by simp only [List.length_cons]; omega
    rw [show spec_l01Rises.l2 NN NN = spec_l01Rises.l2 NN (k + 1) by rw [← hk]]
    simp only [spec_l01Rises.l2, spec_l01Rises.g2, c1, w1, w3, spec_l01In_f]
    simp at hl
    simp [risB_cons, hl]
    cases inB a 0 (n - 1) <;> simp
def permB (p : Int × Int × Int × Int × List Int × Int) : Bool :=
  inB p.1 0 100000 && inB p.2.1 p.1 100000 && inB p.2.2.1 0 1000000000 && inB p.2.2.2.1 20 300 && (p.2.2.2.2.1.all (inB · 0 3) && risB p.2.2.2.2.1) && inB p.2.2.2.2.2 0 3
theorem spec_IsPermit_f (p : Int × Int × Int × Int × List Int × Int) (h : p.2.2.2.2.1.length ≤ 140737488355328) : spec_IsPermit.f p = some (permB p) := by
  unfold spec_IsPermit.f spec_IsPermit.fn spec_IsPermit.top permB
  simp only [spec_l01In_f, spec_l01Rises_f _ 4 (wf64.2 (by omega)) h, Option.bind_some, show (4 : Int) - 1 = 3 from rfl]
  cases inB p.1 0 100000 <;> cases inB p.2.1 p.1 100000 <;> cases inB p.2.2.1 0 1000000000 <;> cases inB p.2.2.2.1 20 300 <;> cases (p.2.2.2.2.1.all (inB · 0 3)) <;> cases risB p.2.2.2.2.1 <;> cases inB p.2.2.2.2.2 0 3 <;> rfl
theorem impl_IsPermit_f (p : Int × Int × Int × Int × List Int × Int) (h : p.2.2.2.2.1.length ≤ 140737488355328) : impl_IsPermit.f p = some (permB p) := by
  unfold impl_IsPermit.f impl_IsPermit.fn impl_IsPermit.top permB
  obtain ⟨f, t, n, c, ks, g⟩ := p
  simp only at h
  have hl : impl_IsPermit.l4 NN NN 1 (f, t, n, c, ks, g) = some (risB ks) := by
    cases ks with
    | nil =>
      obtain ⟨k, hk⟩ : ∃ j, NN = j + 1 := ⟨NN - 1, by have := NNb; omega⟩
      rw [show impl_IsPermit.l4 NN NN = impl_IsPermit.l4 NN (k + 1) by rw [← hk]]
      simp [impl_IsPermit.l4, impl_IsPermit.g4, risB]
    | cons a r =>
      simp only [List.length_cons] at h
      have := impl_IsPermit_loop f t n c g r [] a NN (by simp; omega) (NN_lt (by omega))
      simp at this
      rw [risB_cons, ← this]
  simp only [impl_isDay_f, impl_isCalibre_f, impl_within_f, impl_allWithin_f _ _ _ h, Option.bind_some, hl]
  have e : (inB f 0 100000 && inB t f 100000) = (inB f 0 100000 && inB t 0 100000 && !decide (t < f)) := by
    unfold inB
    by_cases h1 : 0 ≤ f <;> by_cases h2 : f ≤ 100000 <;> by_cases h3 : t ≤ 100000 <;> by_cases h4 : f ≤ t <;> by_cases h5 : 0 ≤ t <;> simp [h1, h2, h3, h4, h5] <;> omega
  rw [e]
  cases inB f 0 100000 <;> cases inB t 0 100000 <;> cases decide (t < f) <;> cases inB n 0 1000000000 <;> cases inB c 20 300 <;> cases (ks.all (inB · 0 3)) <;> cases inB g 0 3 <;> simp
theorem IsPermit_core (p : Int × Int × Int × Int × List Int × Int) (h : OkPermit p) : ∃ w, spec_IsPermit.f p = some w ∧ impl_IsPermit.f p = some w ∧ True :=
  have h1 : p.2.2.2.2.1.length ≤ 140737488355328 := Nat.le_trans h.2.2.2.2.1.1 (by omega)
  ⟨_, spec_IsPermit_f p h1, impl_IsPermit_f p h1, trivial⟩
end Go.Pl

namespace Go.Pl
open Go.Ev
set_option linter.unusedVariables false
set_option linter.unusedSimpArgs false
theorem spec_fired_in (times : List Int) (l : List Sig) (ms : List Mov) (zs : List ByteArray) (L3 : List Int → List Sig → List Mov → List ByteArray → Int → List Int → Option (List Int)) (hs : SrtM ms) (hms : ∀ m ∈ ms, movB m = true) (hml : ms.length ≤ 1000000) (i T : Int) (hT : 0 ≤ T ∧ T ≤ 1000000) (out : List Int) (ho : out.length ≤ 1000000) : ∀ (r p : List ByteArray) (b : Bool) (k : Nat), zs = p ++ r → p.length + r.length ≤ 1000000 → r.length < k →
    spec_l22Fired.l9 NN L3 k times l ms zs i T b p.length out = L3 times l ms zs (IntKind.i64.wrap (i + 1)) (out ++ [if (b && r.all (clrB ms · (T * 100))) = true then T else -1]) := by
  intro r
  induction r with
  | nil =>
    intro p b k hz hl hk
    obtain ⟨k, rfl⟩ : ∃ j, k = j + 1 := ⟨k - 1, by omega⟩
    rw [List.append_nil] at hz
    have c1 : ¬ (p.length : Int) < (zs.length : Int) := by rw [hz]; omega
    have h1 : ∀ x : Int, out.length + [x].length < room 8 := fun x => by rw [room8]; simp; omega
    simp only [spec_l22Fired.l9, spec_l22Fired.g9, c1, h1, and_self, and_true, true_and, decide_true, decide_false, if_true, if_false, mid_get, mid_set, mid_getn, mid_setn, bt_mid, Option.bind_some, Bool.not_true, Bool.not_false, Bool.false_eq_true, Bool.true_eq_false, beq_self_eq_true, bne_self_eq_false, Int.toNat_natCast, List.all_nil, Bool.and_true]
    cases b <;> rfl
  | cons z r ih =>
    intro p b k hz hl hk
    simp only [List.length_cons] at hl hk
    obtain ⟨k, rfl⟩ : ∃ j, k = j + 1 := ⟨k - 1, by omega⟩
    have c0 : (0 : Int) ≤ (p.length : Int) := by omega
    have c1 : (p.length : Int) < (zs.length : Int) := by rw [hz]; simp; omega
    have cw := w64 (n := (p.length : Int) + 1) (by omega) (by omega)
    have w2 := w64 (n := T * 100) (by omega) (by omega)
    have g : ∀ w, zs.getD p.length w = z := fun w => by rw [hz]; exact mid_getn p r z w
    have i1 := fun b => ih (p ++ [z]) b k (by rw [hz, mid_snoc]) (by simp; omega) (by omega)
    simp only [snoc_len] at i1
    rw [List.all_cons]
    simp only [spec_l22Fired.l9, spec_l22Fired.g9, c0, c1, cw, w2, and_self, and_true, true_and, decide_true, decide_false, if_true, if_false, mid_get, mid_set, mid_getn, mid_setn, bt_mid, Option.bind_some, Bool.not_true, Bool.not_false, Bool.false_eq_true, Bool.true_eq_false, beq_self_eq_true, bne_self_eq_false, Int.toNat_natCast, g]
    cases b
    · simp only [and_self, and_true, true_and, decide_true, decide_false, if_true, if_false, mid_get, mid_set, mid_getn, mid_setn, bt_mid, Option.bind_some, Bool.not_true, Bool.not_false, Bool.false_eq_true, Bool.true_eq_false, beq_self_eq_true, bne_self_eq_false, Int.toNat_natCast, Bool.false_and]
      have := i1 false
      simp only [Bool.false_and, Bool.false_eq_true, if_false] at this
      exact this
    · simp only [and_self, and_true, true_and, decide_true, decide_false, if_true, if_false, mid_get, mid_set, mid_getn, mid_setn, bt_mid, Option.bind_some, Bool.not_true, Bool.not_false, Bool.false_eq_true, Bool.true_eq_false, beq_self_eq_true, bne_self_eq_false, Int.toNat_natCast]
      rw [spec_l20Clear_f ms z (by omega) hs hms hml, Option.bind_some, i1, Bool.true_and]
theorem spec_l22Fired_f {l : List Sig} (hl : sigsB l = true) {ms : List Mov} (hm : movesB ms = true) (zs : List ByteArray) (hz : zs.length ≤ 1000000) (times : List Int) (htl : times.length ≤ 1000000) (ht : ∀ t ∈ times, 0 ≤ t ∧ t ≤ 10000000) : spec_l22Fired.f times l ms zs = some (times.map (firT l ms zs)) := by
  obtain ⟨m1, m2, m3⟩ := movesB_iff hm
  have := (fold_fix (E := fun t : Int => 0 ≤ t ∧ t ≤ 10000000) (fun p (st : List Int) => st = p.map (firT l ms zs)) (fun _ st t => st ++ [firT l ms zs t]) (fun st => some st) (fun k i st => spec_l22Fired.l3 NN k times l ms zs i st) times ?_ ?_ [] ht rfl (by omega) NN (NN_lt (by omega)))
  · unfold spec_l22Fired.f spec_l22Fired.fn spec_l22Fired.top
    rw [this.2, this.1]
  · intro k st _
    simp [spec_l22Fired.l3, spec_l22Fired.g3]
  · intro k p t r st hx htt hI c0 c1 c2 cw g
    have hb := tkT_bd htt
    have hpl : p.length ≤ 1000000 := by rw [hx] at htl; simp at htl; omega
    have w1 := w64 (n := Int.tdiv t 100) (by unfold tkT at hb; omega) (by unfold tkT at hb; omega)
    refine ⟨by rw [hI]; simp, ?_⟩
    obtain ⟨q, hq⟩ := spec_l22At_f hl (t := tkT t) (by omega)
    have hb' : 0 ≤ Int.tdiv t 100 ∧ Int.tdiv t 100 ≤ 100000 := hb
    have e1 : tkT t = Int.tdiv t 100 := rfl
    rw [e1] at hq
    simp only [spec_l22Fired.l3, spec_l22Fired.g3, c0, c1, and_self, and_true, true_and, decide_true, decide_false, if_true, if_false, mid_get, mid_set, mid_getn, mid_setn, bt_mid, Option.bind_some, Bool.not_true, Bool.not_false, Bool.false_eq_true, Bool.true_eq_false, beq_self_eq_true, bne_self_eq_false, Int.toNat_natCast, g, w1, hq]
    have key := fun b => spec_fired_in times l ms zs (spec_l22Fired.l3 NN k) m2 m3 (by omega) (p.length : Int) (Int.tdiv t 100) (by omega) st (by rw [hI, List.length_map]; omega) zs [] b NN rfl (by simpa using hz) (NN_lt (by omega))
    simp only [List.length_nil] at key
    have eF : firT l ms zs t = if (mayC (ctlAt l (Int.tdiv t 100)) && zs.all (clrB ms · (Int.tdiv t 100 * 100))) = true then Int.tdiv t 100 else -1 := rfl
    rw [eF]
    unfold mayC
    generalize ctlAt l (Int.tdiv t 100) = c at *
    obtain ⟨a, b, r2, e, s, d⟩ := c
    cases r2
    · simp only [and_self, and_true, true_and, decide_true, decide_false, if_true, if_false, mid_get, mid_set, mid_getn, mid_setn, bt_mid, Option.bind_some, Bool.not_true, Bool.not_false, Bool.false_eq_true, Bool.true_eq_false, beq_self_eq_true, bne_self_eq_false, Int.toNat_natCast, Bool.false_and]
      refine (key false).trans ?_
      rw [cw]
      simp
    · simp only [and_self, and_true, true_and, decide_true, decide_false, if_true, if_false, mid_get, mid_set, mid_getn, mid_setn, bt_mid, Option.bind_some, Bool.not_true, Bool.not_false, Bool.false_eq_true, Bool.true_eq_false, beq_self_eq_true, bne_self_eq_false, Int.toNat_natCast]
      refine (key (!e)).trans ?_
      rw [cw, Bool.true_and]
def zonesB (zs : List ByteArray) : Bool := decide (zs.length ≤ 60) && zs.all wordB
theorem impl_areZones_f (zs : List ByteArray) (hl : zs.length ≤ 1000000) (hz : ∀ z ∈ zs, Sz z) : impl_areZones.f zs = some (zonesB zs) := by
  have := all_loop (E := fun z : ByteArray => Sz z) wordB (fun v => some true) (fun k v i => impl_areZones.l4 NN k v v.length i) ?_ ?_ zs hz (by omega) NN (NN_lt (by omega))
  · unfold impl_areZones.f impl_areZones.fn impl_areZones.top zonesB
    by_cases h : (60 : Int) < (zs.length : Int)
    · have : ¬ zs.length ≤ 60 := by omega
      simp [h, this]
    · have h2 : zs.length ≤ 60 := by omega
      simp only [h, h2, and_self, and_true, true_and, decide_true, decide_false, if_true, if_false, mid_get, mid_set, mid_getn, mid_setn, bt_mid, Option.bind_some, Bool.not_true, Bool.not_false, Bool.false_eq_true, Bool.true_eq_false, beq_self_eq_true, bne_self_eq_false, Int.toNat_natCast]
      rw [this]
      cases zs.all wordB <;> rfl
  · intro k p
    simp [impl_areZones.l4, impl_areZones.g4]
  · intro k p z r hz c0 c1 cw
    simp only [impl_areZones.l4, impl_areZones.g4, c0, c1, cw, and_self, and_true, true_and, decide_true, decide_false, if_true, if_false, mid_get, mid_set, mid_getn, mid_setn, bt_mid, Option.bind_some, Bool.not_true, Bool.not_false, Bool.false_eq_true, Bool.true_eq_false, beq_self_eq_true, bne_self_eq_false, Int.toNat_natCast]
    rw [impl_IsWord_f z hz]
    cases wordB z <;> rfl
theorem spec_l01All_f (zs : List ByteArray) (hl : zs.length ≤ 1000000) (hz : ∀ z ∈ zs, Sz z) : spec_l01All.f zs = some (zs.all wordB) := by
  have := all_loop (E := fun z : ByteArray => Sz z) wordB (fun v => some true) (fun k v i => spec_l01All.l2 NN k v i) ?_ ?_ zs hz (by omega) NN (NN_lt (by omega))
  · unfold spec_l01All.f spec_l01All.fn spec_l01All.top
    rw [this]
    cases zs.all wordB <;> rfl
  · intro k p
    simp [spec_l01All.l2, spec_l01All.g2]
  · intro k p z r hz c0 c1 cw
    simp only [spec_l01All.l2, spec_l01All.g2, c0, c1, cw, and_self, and_true, true_and, decide_true, decide_false, if_true, if_false, mid_get, mid_set, mid_getn, mid_setn, bt_mid, Option.bind_some, Bool.not_true, Bool.not_false, Bool.false_eq_true, Bool.true_eq_false, beq_self_eq_true, bne_self_eq_false, Int.toNat_natCast]
    rw [spec_IsWord_f z hz]
    cases wordB z <;> rfl
def firOk (times : List Int) (l : List Sig) (ms : List Mov) (zs : List ByteArray) : Bool := decide (times.length ≤ 20) && times.all (inB · 0 10000000) && sigsB l && movesB ms && zonesB zs
def firR (times : List Int) (l : List Sig) (ms : List Mov) (zs : List ByteArray) : List Int × Int := if firOk times l ms zs = true then (times.map (firT l ms zs), 0) else ([], 1)
theorem impl_areFired_f (times : List Int) (l : List Sig) (ms : List Mov) (zs : List ByteArray) (h1 : times.length ≤ 1000000) (h2 : l.length ≤ 1000000) (h3 : ms.length ≤ 1000000) (h3z : ∀ m ∈ ms, Sz m.2.1) (h4 : zs.length ≤ 1000000) (h4z : ∀ z ∈ zs, Sz z) : impl_areFired.f times l ms zs = some (firOk times l ms zs) := by
  unfold impl_areFired.f impl_areFired.fn impl_areFired.top impl_areCueTimes.f impl_areCueTimes.fn impl_areCueTimes.top firOk
  rw [impl_allWithin_f times 0 10000000 (by omega), impl_AreSignals_f l h2, impl_AreMoves_f ms h3 h3z, impl_areZones_f zs h4 h4z]
  have e : decide ((times.length : Int) ≤ 20) = decide (times.length ≤ 20) := by congr 1; exact propext (by omega)
  rw [e]
  cases decide (times.length ≤ 20) <;> cases times.all (inB · 0 10000000) <;> cases sigsB l <;> cases movesB ms <;> cases zonesB zs <;> rfl
theorem spec_l22Times_f (times : List Int) (l : List Sig) (ms : List Mov) (zs : List ByteArray) (h1 : times.length ≤ 1000000) (h2 : l.length ≤ 1000000) (h3 : ms.length ≤ 1000000) (h3z : ∀ m ∈ ms, Sz m.2.1) (h4 : zs.length ≤ 1000000) (h4z : ∀ z ∈ zs, Sz z) : spec_l22Times.f times l ms zs = some (if firOk times l ms zs = true then 0 else 1) := by
  have key : ∀ (r p : List Int) (k : Nat), p.length + r.length ≤ 1000000 → r.length < k → spec_l22Times.l2 NN k (p ++ r) l ms zs p.length = some (if (r.all (inB · 0 10000000) && (decide ((p ++ r).length ≤ 20) && sigsB l && movesB ms && zonesB zs)) = true then 0 else 1) := by
    intro r
    induction r with
    | nil =>
      intro p k _ hk
      obtain ⟨k, rfl⟩ : ∃ j, k = j + 1 := ⟨k - 1, by omega⟩
      simp only [List.append_nil, spec_l22Times.l2, spec_l22Times.g2, Int.lt_irrefl, and_self, and_true, true_and, decide_true, decide_false, if_true, if_false, mid_get, mid_set, mid_getn, mid_setn, bt_mid, Option.bind_some, Bool.not_true, Bool.not_false, Bool.false_eq_true, Bool.true_eq_false, beq_self_eq_true, bne_self_eq_false, Int.toNat_natCast, List.all_nil, zonesB]
      rw [spec_AreSignals_f l h2, spec_AreMoves_f ms h3 h3z, spec_l01All_f zs h4 h4z]
      have e : decide ((20 : Int) < (p.length : Int)) = !decide (p.length ≤ 20) := by rw [← decide_not]; congr 1; exact propext (by omega)
      have e2 : decide ((60 : Int) < (zs.length : Int)) = !decide (zs.length ≤ 60) := by rw [← decide_not]; congr 1; exact propext (by omega)
      rw [e, e2]
      cases decide (p.length ≤ 20) <;> cases sigsB l <;> cases movesB ms <;> cases zs.all wordB <;> cases decide (zs.length ≤ 60) <;> rfl
    | cons t r ih =>
      intro p k hl hk
      simp only [List.length_cons] at hl hk
      obtain ⟨k, rfl⟩ : ∃ j, k = j + 1 := ⟨k - 1, by omega⟩
      have hln := mid_len p r t
      have c0 : (0 : Int) ≤ (p.length : Int) := by omega
      have c1 : (p.length : Int) < ((p ++ t :: r).length : Int) := by omega
      have cw := w64 (n := (p.length : Int) + 1) (by omega) (by omega)
      have i := ih (p ++ [t]) k (by simp; omega) (by omega)
      rw [mid_snoc, snoc_len] at i
      rw [List.all_cons]
      simp only [spec_l22Times.l2, spec_l22Times.g2, c0, c1, cw, and_self, and_true, true_and, decide_true, decide_false, if_true, if_false, mid_get, mid_set, mid_getn, mid_setn, bt_mid, Option.bind_some, Bool.not_true, Bool.not_false, Bool.false_eq_true, Bool.true_eq_false, beq_self_eq_true, bne_self_eq_false, Int.toNat_natCast, spec_l01IsTime_f]
      cases inB t 0 10000000
      · simp
      · simp only [and_self, and_true, true_and, decide_true, decide_false, if_true, if_false, mid_get, mid_set, mid_getn, mid_setn, bt_mid, Option.bind_some, Bool.not_true, Bool.not_false, Bool.false_eq_true, Bool.true_eq_false, beq_self_eq_true, bne_self_eq_false, Int.toNat_natCast]
        exact i
  have := key times [] NN (by simpa using h1) (NN_lt (by omega))
  rw [List.nil_append] at this
  unfold spec_l22Times.f spec_l22Times.fn spec_l22Times.top
  refine Eq.trans this ?_
  have e : (times.all (inB · 0 10000000) && (decide (times.length ≤ 20) && sigsB l && movesB ms && zonesB zs)) = firOk times l ms zs := by
    unfold firOk
    cases decide (times.length ≤ 20) <;> cases times.all (inB · 0 10000000) <;> cases sigsB l <;> cases movesB ms <;> cases zonesB zs <;> rfl
  rw [e]
theorem FiredSafely_both (times : List Int) (l : List Sig) (ms : List Mov) (zs : List ByteArray) (h1 : times.length ≤ 1000000) (h2 : l.length ≤ 1000000) (h3 : ms.length ≤ 1000000) (h3z : ∀ m ∈ ms, Sz m.2.1) (h4 : zs.length ≤ 1000000) (h4z : ∀ z ∈ zs, Sz z) : impl_FiredSafely.f times l ms zs = some (firR times l ms zs) ∧ spec_FiredSafely.f times l ms zs = some (firR times l ms zs) := by
  unfold impl_FiredSafely.f impl_FiredSafely.fn impl_FiredSafely.top spec_FiredSafely.f spec_FiredSafely.fn spec_FiredSafely.top firR
  rw [impl_areFired_f times l ms zs h1 h2 h3 h3z h4 h4z, spec_l22Times_f times l ms zs h1 h2 h3 h3z h4 h4z]
  by_cases h : firOk times l ms zs = true
  · have h' := h
    unfold firOk at h'
    simp only [Bool.and_eq_true, decide_eq_true_eq, List.all_eq_true, inB_iff] at h'
    rw [h]
    simp only [and_self, and_true, true_and, decide_true, decide_false, if_true, if_false, mid_get, mid_set, mid_getn, mid_setn, bt_mid, Option.bind_some, Bool.not_true, Bool.not_false, Bool.false_eq_true, Bool.true_eq_false, beq_self_eq_true, bne_self_eq_false, Int.toNat_natCast]
    rw [impl_firedTicks_f h'.1.1.2 h'.1.2 zs h4 times h1 (fun t ht => h'.1.1.1.2 t ht), spec_l22Fired_f h'.1.1.2 h'.1.2 zs h4 times h1 (fun t ht => h'.1.1.1.2 t ht)]
    exact ⟨rfl, rfl⟩
  · have h' : firOk times l ms zs = false := by simpa using h
    rw [h']
    exact ⟨rfl, rfl⟩
end Go.Pl

namespace Go.Pl
open Go.Ev
set_option linter.unusedVariables false
noncomputable section
def impl_areLines.g4 (L4 : (List (ByteArray × Int)) → (List (ByteArray × Int)) → Int → Int → Option Bool) (lines0 : List (ByteArray × Int)) (v8 : List (ByteArray × Int)) (v9 : Int) (v10 : Int) : Option Bool :=
  if (decide ((v10 : Int) < v9)) = true then
    if (0 : Int) ≤ v10 ∧ (v10 : Int) < v8.length then
      (impl_IsWord.f ((v8.getD (v10 : Int).toNat (ByteArray.empty, 0)).1)).bind fun r1 =>
      if (!r1) = false then
        (impl_within.f ((v8.getD (v10 : Int).toNat (ByteArray.empty, 0)).2) 1 1000).bind fun r2 =>
        if (!r2) = false then
          if (decide ((0 : Int) < v10)) = true then
            if (0 : Int) ≤ (IntKind.i64.wrap (v10 - 1)) ∧ ((IntKind.i64.wrap (v10 - 1)) : Int) < lines0.length then
              if (!(Op.bytesLess ((lines0.getD ((IntKind.i64.wrap (v10 - 1)) : Int).toNat (ByteArray.empty, 0)).1).toList ((v8.getD (v10 : Int).toNat (ByteArray.empty, 0)).1).toList)) = true then
                some false
              else
                L4 lines0 v8 v9 (IntKind.i64.wrap (v10 + 1))
            else
              none
          else
            L4 lines0 v8 v9 (IntKind.i64.wrap (v10 + 1))
        else
          some false
      else
        some false
    else
      none
  else
    some true
def impl_areLines.l4 (n : Nat) : Nat → (List (ByteArray × Int)) → (List (ByteArray × Int)) → Int → Int → Option Bool
  | 0 => fun _ _ _ _ => none
  | k + 1 => impl_areLines.g4 (impl_areLines.l4 n k)
def impl_areLines.top (I4 : (List (ByteArray × Int)) → (List (ByteArray × Int)) → Int → Int → Option Bool) (lines0 : List (ByteArray × Int)) : Option Bool :=
  if (decide ((12 : Int) < (lines0.length : Int))) = true then
    some false
  else
    I4 lines0 lines0 (lines0.length : Int) 0
def impl_areLines.fn (n : Nat) (lines0 : List (ByteArray × Int)) : Option Bool := impl_areLines.top (impl_areLines.l4 n n) lines0
def impl_areLines.f (lines0 : List (ByteArray × Int)) : Option Bool := impl_areLines.fn NN lines0
end
end Go.Pl

namespace Go.Pl
open Go.Ev
set_option linter.unusedVariables false
noncomputable section
def impl_IsPaper.top (p0 : ByteArray × Int × List (ByteArray × Int)) : Option Bool :=
  (impl_IsWord.f p0.1).bind fun r1 =>
  if r1 = true then
    (impl_isDay.f p0.2.1).bind fun r2 =>
    if r2 = true then
      (impl_areLines.f p0.2.2).bind fun r3 =>
      some r3
    else
      some false
  else
    some false
def impl_IsPaper.fn (n : Nat) (p0 : ByteArray × Int × List (ByteArray × Int)) : Option Bool := impl_IsPaper.top p0
def impl_IsPaper.f (p0 : ByteArray × Int × List (ByteArray × Int)) : Option Bool := impl_IsPaper.fn NN p0
end
end Go.Pl

namespace Go.Pl
open Go.Ev
set_option linter.unusedVariables false
noncomputable section
def spec_IsPaper.g2 (L2 : Int → (ByteArray × Int × List (ByteArray × Int)) → Option Bool) (i3 : Int) (p1 : ByteArray × Int × List (ByteArray × Int)) : Option Bool :=
  if (decide ((i3 : Int) < (p1.2.2.length : Int))) = true then
    if (0 : Int) ≤ i3 ∧ (i3 : Int) < p1.2.2.length then
      (spec_IsWord.f ((p1.2.2.getD (i3 : Int).toNat (ByteArray.empty, 0)).1)).bind fun r1 =>
      if (!r1) = false then
        if (0 : Int) ≤ i3 ∧ (i3 : Int) < p1.2.2.length then
          (spec_l01In.f ((p1.2.2.getD (i3 : Int).toNat (ByteArray.empty, 0)).2) 1 1000).bind fun r2 =>
          if (!r2) = false then
            if (decide ((0 : Int) < i3)) = true then
              if (0 : Int) ≤ (IntKind.i64.wrap (i3 - 1)) ∧ ((IntKind.i64.wrap (i3 - 1)) : Int) < p1.2.2.length then
                if (0 : Int) ≤ i3 ∧ (i3 : Int) < p1.2.2.length then
                  if (!(Op.bytesLess ((p1.2.2.getD ((IntKind.i64.wrap (i3 - 1)) : Int).toNat (ByteArray.empty, 0)).1).toList ((p1.2.2.getD (i3 : Int).toNat (ByteArray.empty, 0)).1).toList)) = true then
                    some false
                  else
                    L2 (IntKind.i64.wrap (i3 + 1)) p1
                else
                  none
              else
                none
            else
              L2 (IntKind.i64.wrap (i3 + 1)) p1
          else
            some false
        else
          none
      else
        some false
    else
      none
  else
    (spec_IsWord.f p1.1).bind fun r3 =>
    if r3 = true then
      (spec_l01In.f p1.2.1 0 100000).bind fun r4 =>
      if r4 = true then
        some (decide (((p1.2.2.length : Int) : Int) ≤ 12))
      else
        some false
    else
      some false
def spec_IsPaper.l2 (n : Nat) : Nat → Int → (ByteArray × Int × List (ByteArray × Int)) → Option Bool
  | 0 => fun _ _ => none
  | k + 1 => spec_IsPaper.g2 (spec_IsPaper.l2 n k)
def spec_IsPaper.top (I2 : Int → (ByteArray × Int × List (ByteArray × Int)) → Option Bool) (p0 : ByteArray × Int × List (ByteArray × Int)) : Option Bool :=
  I2 0 p0
def spec_IsPaper.fn (n : Nat) (p0 : ByteArray × Int × List (ByteArray × Int)) : Option Bool := spec_IsPaper.top (spec_IsPaper.l2 n n) p0
def spec_IsPaper.f (p0 : ByteArray × Int × List (ByteArray × Int)) : Option Bool := spec_IsPaper.fn NN p0
end
end Go.Pl

namespace Go.Pl
open Go.Ev
set_option linter.unusedVariables false
noncomputable section
def impl_countIn.g2 (L2 : ByteArray → (List (ByteArray × Int)) → Int → Int → Option Int) (article1 : ByteArray) (v7 : List (ByteArray × Int)) (v8 : Int) (v9 : Int) : Option Int :=
  if (decide ((v9 : Int) < v8)) = true then
    if (0 : Int) ≤ v9 ∧ (v9 : Int) < v7.length then
      if (((v7.getD (v9 : Int).toNat (ByteArray.empty, 0)).1).toList == article1.toList) = true then
        some ((v7.getD (v9 : Int).toNat (ByteArray.empty, 0)).2)
      else
        L2 article1 v7 v8 (IntKind.i64.wrap (v9 + 1))
    else
      none
  else
    some 0
def impl_countIn.l2 (n : Nat) : Nat → ByteArray → (List (ByteArray × Int)) → Int → Int → Option Int
  | 0 => fun _ _ _ _ => none
  | k + 1 => impl_countIn.g2 (impl_countIn.l2 n k)
def impl_countIn.top (I2 : ByteArray → (List (ByteArray × Int)) → Int → Int → Option Int) (lines0 : List (ByteArray × Int)) (article1 : ByteArray) : Option Int :=
  I2 article1 lines0 (lines0.length : Int) 0
def impl_countIn.fn (n : Nat) (lines0 : List (ByteArray × Int)) (article1 : ByteArray) : Option Int := impl_countIn.top (impl_countIn.l2 n n) lines0 article1
def impl_countIn.f (lines0 : List (ByteArray × Int)) (article1 : ByteArray) : Option Int := impl_countIn.fn NN lines0 article1
end
end Go.Pl

namespace Go.Pl
open Go.Ev
set_option linter.unusedVariables false
noncomputable section
def spec_l29Find.g2 (L2 : ByteArray → Int → (ByteArray × Int × List (ByteArray × Int)) → Option Int) (article1 : ByteArray) (i5 : Int) (p2 : ByteArray × Int × List (ByteArray × Int)) : Option Int :=
  if (decide ((i5 : Int) < (p2.2.2.length : Int))) = true then
    if (0 : Int) ≤ i5 ∧ (i5 : Int) < p2.2.2.length then
      if (((p2.2.2.getD (i5 : Int).toNat (ByteArray.empty, 0)).1).toList == article1.toList) = true then
        some i5
      else
        L2 article1 (IntKind.i64.wrap (i5 + 1)) p2
    else
      none
  else
    some (-1)
def spec_l29Find.l2 (n : Nat) : Nat → ByteArray → Int → (ByteArray × Int × List (ByteArray × Int)) → Option Int
  | 0 => fun _ _ _ => none
  | k + 1 => spec_l29Find.g2 (spec_l29Find.l2 n k)
def spec_l29Find.top (I2 : ByteArray → Int → (ByteArray × Int × List (ByteArray × Int)) → Option Int) (p0 : ByteArray × Int × List (ByteArray × Int)) (article1 : ByteArray) : Option Int :=
  I2 article1 0 p0
def spec_l29Find.fn (n : Nat) (p0 : ByteArray × Int × List (ByteArray × Int)) (article1 : ByteArray) : Option Int := spec_l29Find.top (spec_l29Find.l2 n n) p0 article1
def spec_l29Find.f (p0 : ByteArray × Int × List (ByteArray × Int)) (article1 : ByteArray) : Option Int := spec_l29Find.fn NN p0 article1
end
end Go.Pl

namespace Go.Pl
open Go.Ev
set_option linter.unusedVariables false
set_option linter.unusedSimpArgs false
def ltS (a b : ByteArray) : Bool := Op.bytesLess a.toList b.toList
def lineOk (l : ByteArray × Int) : Bool := wordB l.1 && inB l.2 1 1000
/-- lines behind another one -/
def linesF : ByteArray × Int → List (ByteArray × Int) → Bool
  | _, [] => true
  | x, a :: r => lineOk a && ltS x.1 a.1 && linesF a r
def linesL : List (ByteArray × Int) → Bool
  | [] => true
  | a :: r => lineOk a && linesF a r
def linesB (l : List (ByteArray × Int)) : Bool := decide (l.length ≤ 12) && linesL l
def paperB (p : ByteArray × Int × List (ByteArray × Int)) : Bool := wordB p.1 && inB p.2.1 0 100000 && linesB p.2.2
theorem snoc_getl' {α : Type} (p r : List α) (x a z : α) : (p ++ [x] ++ a :: r).getD p.length z = x := by simp
theorem impl_areLines_l : ∀ (r p : List (ByteArray × Int)) (x : ByteArray × Int) (k : Nat), p.length + r.length + 1 ≤ 1000000 → r.length < k → (∀ l ∈ r, Sz l.1) →
    impl_areLines.l4 NN k (p ++ [x] ++ r) (p ++ [x] ++ r) (p ++ [x] ++ r).length ((p.length : Int) + 1) = some (linesF x r) := by
  intro r
  induction r with
  | nil =>
    intro p x k _ hk _
    obtain ⟨k, rfl⟩ : ∃ j, k = j + 1 := ⟨k - 1, by omega⟩
    simp [impl_areLines.l4, impl_areLines.g4, linesF]
  | cons a r ih =>
    intro p x k hb hk hs
    simp only [List.length_cons] at hb hk
    obtain ⟨k, rfl⟩ : ∃ j, k = j + 1 := ⟨k - 1, by omega⟩
    have hl : ((p ++ [x] ++ a :: r).length : Int) = p.length + r.length + 2 := by simp; omega
    have w1 := w64 (n := (p.length : Int) + 1 - 1) (by omega) (by omega)
    have w2 := w64 (n := (p.length : Int) + 1 + 1) (by omega) (by omega)
    have c1 : (p.length : Int) + 1 < ((p ++ [x] ++ a :: r).length : Int) := by omega
    have c2 : (0 : Int) ≤ (p.length : Int) + 1 - 1 := by omega
    have c3 : (p.length : Int) + 1 - 1 < ((p ++ [x] ++ a :: r).length : Int) := by omega
    have c4 : (0 : Int) ≤ (p.length : Int) + 1 := by omega
    have c5 : (0 : Int) < (p.length : Int) + 1 := by omega
    have g1 : ∀ z, (p ++ [x] ++ a :: r).getD ((p.length : Int) + 1).toNat z = a := fun z => by
      rw [show ((p.length : Int) + 1).toNat = (p ++ [x]).length by simp, mid_getn]
    have g2 : ∀ z, (p ++ [x] ++ a :: r).getD ((p.length : Int) + 1 - 1).toNat z = x := fun z => by
      rw [show ((p.length : Int) + 1 - 1).toNat = p.length by omega, snoc_getl']
    have := ih (p ++ [x]) a k (by simp; omega) (by omega) (fun l h => hs l (by simp [h]))
    simp only [impl_areLines.l4, impl_areLines.g4, w1, w2, c1, c2, c3, c4, c5, g1, g2, and_self, and_true, true_and, decide_true, decide_false, if_true, if_false, mid_get, mid_set, mid_getn, mid_setn, bt_mid, Option.bind_some, Bool.not_true, Bool.not_false, Bool.false_eq_true, Bool.true_eq_false, beq_self_eq_true, bne_self_eq_false, Int.toNat_natCast, impl_IsWord_f _ (hs a (by simp)), impl_within_f, linesF, lineOk]
    cases wordB a.1
    · simp
    cases inB a.2 1 1000
    · simp
    show (if (!ltS x.1 a.1) = true then _ else _) = _
    cases ltS x.1 a.1
    · simp
    · simp only [and_self, and_true, true_and, decide_true, decide_false, if_true, if_false, mid_get, mid_set, mid_getn, mid_setn, bt_mid, Option.bind_some, Bool.not_true, Bool.not_false, Bool.false_eq_true, Bool.true_eq_false, beq_self_eq_true, bne_self_eq_false, Int.toNat_natCast, Bool.true_and]
      rw [← this]
      simp
theorem impl_areLines_f (xs : List (ByteArray × Int)) (h : Lm OkLine xs) : impl_areLines.f xs = some (linesB xs) := by
  unfold impl_areLines.f impl_areLines.fn impl_areLines.top linesB
  have hl := h.1
  by_cases h12 : (12 : Int) < (xs.length : Int)
  · have : ¬ xs.length ≤ 12 := by omega
    simp [h12, this]
  have e12 : xs.length ≤ 12 := by omega
  simp only [h12, e12, and_self, and_true, true_and, decide_true, decide_false, if_true, if_false, mid_get, mid_set, mid_getn, mid_setn, bt_mid, Option.bind_some, Bool.not_true, Bool.not_false, Bool.false_eq_true, Bool.true_eq_false, beq_self_eq_true, bne_self_eq_false, Int.toNat_natCast]
  obtain ⟨k, hk⟩ : ∃ j, NN = j + 1 := ⟨NN - 1, by have := NNb; omega⟩
  have hkb : 1000000000000000 < k := by rw [NN_eq] at hk; omega
  rw [show impl_areLines.l4 NN NN = impl_areLines.l4 NN (k + 1) by rw [← hk]]
  cases xs with
  | nil => simp [impl_areLines.l4, impl_areLines.g4, linesL]
  | cons a r =>
    simp only [List.length_cons] at hl
    have := impl_areLines_l r [] a k (by simp; omega) (by omega) (fun l hl => Nat.le_trans (h.2 l (by simp [hl])).1 (by omega))
    have w2 := w64 (n := 0 + 1) (by omega) (by omega)
    have c1 : (0 : Int) < ((a :: r).length : Int) := by simp only [List.length_cons]; omega
    simp only [impl_areLines.l4, impl_areLines.g4, c1, w2, and_self, and_true, true_and, decide_true, decide_false, if_true, if_false, mid_get, mid_set, mid_getn, mid_setn, bt_mid, Option.bind_some, Bool.not_true, Bool.not_false, Bool.false_eq_true, Bool.true_eq_false, beq_self_eq_true, bne_self_eq_false, Int.toNat_natCast, Int.le_refl, impl_IsWord_f _ (Nat.le_trans (h.2 a (by simp)).1 (show 1000000 ≤ 140737488355328 by omega)), impl_within_f, linesL, lineOk, List.getD_cons_zero, Int.toNat_zero]
    simp at this
    cases wordB a.1
    · simp
    cases inB a.2 1 1000
    · simp
    simp [this]
theorem impl_IsPaper_f (p : ByteArray × Int × List (ByteArray × Int)) (h : OkPaper p) : impl_IsPaper.f p = some (paperB p) := by
  unfold impl_IsPaper.f impl_IsPaper.fn impl_IsPaper.top paperB
  rw [impl_IsWord_f _ (Nat.le_trans h.1 (by omega)), impl_isDay_f, impl_areLines_f _ h.2.2]
  cases wordB p.1 <;> cases inB p.2.1 0 100000 <;> rfl
theorem spec_IsPaper_l (v : ByteArray) (d : Int) (hv : Sz v) : ∀ (r p : List (ByteArray × Int)) (x : ByteArray × Int) (k : Nat), p.length + r.length + 1 ≤ 1000000 → r.length < k → (∀ l ∈ r, Sz l.1) →
    spec_IsPaper.l2 NN k ((p.length : Int) + 1) (v, d, p ++ [x] ++ r) = some (linesF x r && (wordB v && inB d 0 100000 && decide ((p ++ [x] ++ r).length ≤ 12))) := by
  intro r
  induction r with
  | nil =>
    intro p x k hb hk _
    obtain ⟨k, rfl⟩ : ∃ j, k = j + 1 := ⟨k - 1, by omega⟩
    have e : decide (((p ++ [x]).length : Int) ≤ 12) = decide ((p ++ [x]).length ≤ 12) := by congr 1; exact propext (by omega)
    have c1 : ¬ (p.length : Int) + 1 < ((p ++ [x]).length : Int) := by simp
    simp only [spec_IsPaper.l2, spec_IsPaper.g2, List.append_nil, c1, and_self, and_true, true_and, decide_true, decide_false, if_true, if_false, mid_get, mid_set, mid_getn, mid_setn, bt_mid, Option.bind_some, Bool.not_true, Bool.not_false, Bool.false_eq_true, Bool.true_eq_false, beq_self_eq_true, bne_self_eq_false, Int.toNat_natCast, spec_IsWord_f v hv, spec_l01In_f, linesF, e]
    cases wordB v <;> cases inB d 0 100000 <;> rfl
  | cons a r ih =>
    intro p x k hb hk hs
    simp only [List.length_cons] at hb hk
    obtain ⟨k, rfl⟩ : ∃ j, k = j + 1 := ⟨k - 1, by omega⟩
    have hl : ((p ++ [x] ++ a :: r).length : Int) = p.length + r.length + 2 := by simp; omega
    have w1 := w64 (n := (p.length : Int) + 1 - 1) (by omega) (by omega)
    have w2 := w64 (n := (p.length : Int) + 1 + 1) (by omega) (by omega)
    have c1 : (p.length : Int) + 1 < ((p ++ [x] ++ a :: r).length : Int) := by omega
    have c2 : (0 : Int) ≤ (p.length : Int) + 1 - 1 := by omega
    have c3 : (p.length : Int) + 1 - 1 < ((p ++ [x] ++ a :: r).length : Int) := by omega
    have c4 : (0 : Int) ≤ (p.length : Int) + 1 := by omega
    have c5 : (0 : Int) < (p.length : Int) + 1 := by omega
    have g1 : ∀ z, (p ++ [x] ++ a :: r).getD ((p.length : Int) + 1).toNat z = a := fun z => by
      rw [show ((p.length : Int) + 1).toNat = (p ++ [x]).length by simp, mid_getn]
    have g2 : ∀ z, (p ++ [x] ++ a :: r).getD ((p.length : Int) + 1 - 1).toNat z = x := fun z => by
      rw [show ((p.length : Int) + 1 - 1).toNat = p.length by omega, snoc_getl']
    have := ih (p ++ [x]) a k (by simp; omega) (by omega) (fun l h => hs l (by simp [h]))
    rw [show p ++ [x] ++ [a] ++ r = p ++ [x] ++ a :: r by simp, snoc_len] at this
    simp only [spec_IsPaper.l2, spec_IsPaper.g2, w1, w2, c1, c2, c3, c4, c5, g1, g2, and_self, and_true, true_and, decide_true, decide_false, if_true, if_false, mid_get, mid_set, mid_getn, mid_setn, bt_mid, Option.bind_some, Bool.not_true, Bool.not_false, Bool.false_eq_true, Bool.true_eq_false, beq_self_eq_true, bne_self_eq_false, Int.toNat_natCast, spec_IsWord_f _ (hs a (by simp)), spec_l01In_f, linesF, lineOk, this]
    cases wordB a.1
    · simp
    cases inB a.2 1 1000
    · simp
    show (if (!ltS x.1 a.1) = true then _ else _) = _
    cases ltS x.1 a.1
    · simp
    · simp
theorem spec_IsPaper_f (p : ByteArray × Int × List (ByteArray × Int)) (h : OkPaper p) : spec_IsPaper.f p = some (paperB p) := by
  obtain ⟨v, d, xs⟩ := p
  unfold spec_IsPaper.f spec_IsPaper.fn spec_IsPaper.top paperB linesB
  have hl : xs.length ≤ 1000000 := h.2.2.1
  have hv : Sz v := Nat.le_trans h.1 (by omega)
  obtain ⟨k, hk⟩ : ∃ j, NN = j + 1 := ⟨NN - 1, by have := NNb; omega⟩
  have hkb : 1000000000000000 < k := by rw [NN_eq] at hk; omega
  rw [show spec_IsPaper.l2 NN NN = spec_IsPaper.l2 NN (k + 1) by rw [← hk]]
  cases xs with
  | nil =>
    simp only [spec_IsPaper.l2, spec_IsPaper.g2, spec_IsWord_f v hv, spec_l01In_f, linesL, and_self, and_true, true_and, decide_true, decide_false, if_true, if_false, mid_get, mid_set, mid_getn, mid_setn, bt_mid, Option.bind_some, Bool.not_true, Bool.not_false, Bool.false_eq_true, Bool.true_eq_false, beq_self_eq_true, bne_self_eq_false, Int.toNat_natCast]
    cases wordB v <;> cases inB d 0 100000 <;> rfl
  | cons a r =>
    simp only [List.length_cons] at hl
    have hxs : Lm OkLine (a :: r) := h.2.2
    have := spec_IsPaper_l v d hv r [] a k (by simp; omega) (by omega) (fun l hl => Nat.le_trans (hxs.2 l (by simp [hl])).1 (by omega))
    have w2 := w64 (n := 0 + 1) (by omega) (by omega)
    have c1 : (0 : Int) < ((a :: r).length : Int) := by simp only [List.length_cons]; omega
    simp only [List.nil_append, List.length_nil, List.cons_append] at this
    rw [show (((0 : Nat) : Int) + 1) = 0 + 1 from rfl] at this
    simp only [spec_IsPaper.l2, spec_IsPaper.g2, c1, w2, and_self, and_true, true_and, decide_true, decide_false, if_true, if_false, mid_get, mid_set, mid_getn, mid_setn, bt_mid, Option.bind_some, Bool.not_true, Bool.not_false, Bool.false_eq_true, Bool.true_eq_false, beq_self_eq_true, bne_self_eq_false, Int.toNat_natCast, Int.le_refl, spec_IsWord_f _ (Nat.le_trans (hxs.2 a (by simp)).1 (show 1000000 ≤ 140737488355328 by omega)), spec_l01In_f, linesL, lineOk, List.getD_cons_zero, Int.toNat_zero]
    cases wordB a.1
    · simp
    cases inB a.2 1 1000
    · simp
    simp only [Int.lt_irrefl, decide_false, and_self, and_true, true_and, decide_true, decide_false, if_true, if_false, mid_get, mid_set, mid_getn, mid_setn, bt_mid, Option.bind_some, Bool.not_true, Bool.not_false, Bool.false_eq_true, Bool.true_eq_false, beq_self_eq_true, bne_self_eq_false, Int.toNat_natCast]
    rw [this]
    cases linesF a r <;> cases wordB v <;> cases inB d 0 100000 <;> simp
/-- how many of an article -/
def cntL (a : ByteArray) : List (ByteArray × Int) → Int
  | [] => 0
  | l :: r => if l.1 = a then l.2 else cntL a r
theorem impl_countIn_f (xs : List (ByteArray × Int)) (a : ByteArray) (h : xs.length ≤ 1000000) : impl_countIn.f xs a = some (cntL a xs) := by
  have := find_loop (E := fun _ => True) (fun l : ByteArray × Int => decide (l.1 = a)) (fun _ l => some l.2) (fun _ => some 0) (fun k xs i => impl_countIn.l2 NN k a xs xs.length i) ?_ ?_ xs (fun _ _ => trivial) (by omega) NN (NN_lt (by omega))
  · refine this.trans ?_
    have key : ∀ (xs : List (ByteArray × Int)) (i : Nat), (firstOf (fun l : ByteArray × Int => decide (l.1 = a)) i xs).elim (some 0) (fun x => some x.2.2) = some (cntL a xs) := by
      intro xs
      induction xs with
      | nil => intro i; rfl
      | cons l r ih =>
        intro i
        by_cases h : l.1 = a
        · simp [firstOf, cntL, h]
        · simp only [firstOf, cntL, h, decide_false, Bool.false_eq_true, if_false]
          exact ih _
    exact key xs 0
  · intro k p
    simp [impl_countIn.l2, impl_countIn.g2]
  · intro k p l r _ c0 c1 c2 cw
    simp only [impl_countIn.l2, impl_countIn.g2, c0, c1, cw, and_self, and_true, true_and, decide_true, decide_false, if_true, if_false, mid_get, mid_set, mid_getn, mid_setn, bt_mid, Option.bind_some, Bool.not_true, Bool.not_false, Bool.false_eq_true, Bool.true_eq_false, beq_self_eq_true, bne_self_eq_false, Int.toNat_natCast, ba_beq]
theorem spec_l29Find_f (p : ByteArray × Int × List (ByteArray × Int)) (a : ByteArray) (h : p.2.2.length ≤ 1000000) : spec_l29Find.f p a = some ((firstOf (fun l : ByteArray × Int => decide (l.1 = a)) 0 p.2.2).elim (-1) (fun x => (x.1 : Int))) := by
  obtain ⟨v, d, xs⟩ := p
  have h : xs.length ≤ 1000000 := h
  have := find_loop (E := fun _ => True) (fun l : ByteArray × Int => decide (l.1 = a)) (fun i _ => some (i : Int)) (fun _ => some (-1)) (fun k xs i => spec_l29Find.l2 NN k a i (v, d, xs)) ?_ ?_ xs (fun _ _ => trivial) (by omega) NN (NN_lt (by omega))
  · refine this.trans ?_
    cases firstOf (fun l : ByteArray × Int => decide (l.1 = a)) 0 xs <;> rfl
  · intro k p
    simp [spec_l29Find.l2, spec_l29Find.g2]
  · intro k p l r _ c0 c1 c2 cw
    simp only [spec_l29Find.l2, spec_l29Find.g2, c0, c1, cw, and_self, and_true, true_and, decide_true, decide_false, if_true, if_false, mid_get, mid_set, mid_getn, mid_setn, bt_mid, Option.bind_some, Bool.not_true, Bool.not_false, Bool.false_eq_true, Bool.true_eq_false, beq_self_eq_true, bne_self_eq_false, Int.toNat_natCast, ba_beq]
/-- what is found: its number and its line -/
theorem firstOf_spec {α : Type} (P : α → Bool) : ∀ (xs : List α) (i j : Nat) (x : α), firstOf P i xs = some (j, x) → i ≤ j ∧ j < i + xs.length ∧ xs[j - i]? = some x ∧ P x = true := by
  intro xs
  induction xs with
  | nil => intro i j x h; cases h
  | cons a r ih =>
    intro i j x h
    simp only [firstOf] at h
    split at h
    · rename_i hp
      cases h
      refine ⟨by omega, by simp, by simp, hp⟩
    · obtain ⟨h1, h2, h3, h4⟩ := ih _ _ _ h
      refine ⟨by omega, by simp; omega, ?_, h4⟩
      rw [show j - i = (j - (i + 1)) + 1 by omega, List.getElem?_cons_succ]; exact h3
theorem cntL_first (a : ByteArray) : ∀ (xs : List (ByteArray × Int)) (i : Nat), cntL a xs = (firstOf (fun l : ByteArray × Int => decide (l.1 = a)) i xs).elim 0 (fun x => x.2.2) := by
  intro xs
  induction xs with
  | nil => intro i; rfl
  | cons l r ih =>
    intro i
    by_cases h : l.1 = a
    · simp [firstOf, cntL, h]
    · simp only [firstOf, cntL, h, decide_false, Bool.false_eq_true, if_false]
      exact ih _
theorem linesF_ok : ∀ (r : List (ByteArray × Int)) (x : ByteArray × Int), linesF x r = true → ∀ l ∈ r, lineOk l = true := by
  intro r
  induction r with
  | nil => intro x _ l hl; cases hl
  | cons a r ih =>
    intro x h l hl
    simp only [linesF, Bool.and_eq_true] at h
    rcases List.mem_cons.1 hl with rfl | hl
    · exact h.1.1
    · exact ih a h.2 l hl
theorem linesB_ok {xs : List (ByteArray × Int)} (h : linesB xs = true) : xs.length ≤ 12 ∧ ∀ l ∈ xs, lineOk l = true := by
  unfold linesB at h
  simp only [Bool.and_eq_true, decide_eq_true_eq] at h
  refine ⟨h.1, ?_⟩
  cases xs with
  | nil => intro l hl; cases hl
  | cons a r =>
    have h2 := h.2
    simp only [linesL, Bool.and_eq_true] at h2
    intro l hl
    rcases List.mem_cons.1 hl with rfl | hl
    · exact h2.1
    · exact linesF_ok r a h2.2 l hl
theorem lineOk_iff {l : ByteArray × Int} : lineOk l = true ↔ wordB l.1 = true ∧ 1 ≤ l.2 ∧ l.2 ≤ 1000 := by
  unfold lineOk; rw [Bool.and_eq_true, inB_iff]
theorem cntL_bd (a : ByteArray) : ∀ (xs : List (ByteArray × Int)), (∀ l ∈ xs, lineOk l = true) → 0 ≤ cntL a xs ∧ cntL a xs ≤ 1000 := by
  intro xs
  induction xs with
  | nil => intro _; simp [cntL]
  | cons l r ih =>
    intro h
    have h1 := lineOk_iff.1 (h l (by simp))
    have h2 := ih fun x hx => h x (by simp [hx])
    simp only [cntL]
    split <;> omega
end Go.Pl

namespace Go.Pl
open Go.Ev
set_option linter.unusedVariables false
noncomputable section
def impl_MissingLines.g5 (L5 : (List (ByteArray × Int)) → Int → Int → (ByteArray × Int × List (ByteArray × Int)) → (List (ByteArray × Int)) → Option ((List (ByteArray × Int)) × Int)) (v19 : List (ByteArray × Int)) (v20 : Int) (v21 : Int) (b3 : ByteArray × Int × List (ByteArray × Int)) (out6 : List (ByteArray × Int)) : Option ((List (ByteArray × Int)) × Int) :=
  if (decide ((v21 : Int) < v20)) = true then
    if (0 : Int) ≤ v21 ∧ (v21 : Int) < v19.length then
      (impl_countIn.f b3.2.2 ((v19.getD (v21 : Int).toNat (ByteArray.empty, 0)).1)).bind fun r3 =>
      if (decide ((0 : Int) < (IntKind.i64.wrap (((v19.getD (v21 : Int).toNat (ByteArray.empty, 0)).2) - r3)))) = true then
        if out6.length + ([((v19.getD (v21 : Int).toNat (ByteArray.empty, 0)).1, IntKind.i64.wrap (((v19.getD (v21 : Int).toNat (ByteArray.empty, 0)).2) - r3))]).length < room 24 then
          L5 v19 v20 (IntKind.i64.wrap (v21 + 1)) b3 (out6 ++ ([((v19.getD (v21 : Int).toNat (ByteArray.empty, 0)).1, IntKind.i64.wrap (((v19.getD (v21 : Int).toNat (ByteArray.empty, 0)).2) - r3))]))
        else
          none
      else
        L5 v19 v20 (IntKind.i64.wrap (v21 + 1)) b3 out6
    else
      none
  else
    some (out6, 0)
def impl_MissingLines.l5 (n : Nat) : Nat → (List (ByteArray × Int)) → Int → Int → (ByteArray × Int × List (ByteArray × Int)) → (List (ByteArray × Int)) → Option ((List (ByteArray × Int)) × Int)
  | 0 => fun _ _ _ _ _ => none
  | k + 1 => impl_MissingLines.g5 (impl_MissingLines.l5 n k)
def impl_MissingLines.top (I5 : (List (ByteArray × Int)) → Int → Int → (ByteArray × Int × List (ByteArray × Int)) → (List (ByteArray × Int)) → Option ((List (ByteArray × Int)) × Int)) (a0 : ByteArray × Int × List (ByteArray × Int)) (b1 : ByteArray × Int × List (ByteArray × Int)) : Option ((List (ByteArray × Int)) × Int) :=
  (impl_IsPaper.f a0).bind fun r1 =>
  if (!r1) = false then
    (impl_IsPaper.f b1).bind fun r2 =>
    if (!r2) = true then
      some ([], 1)
    else
      I5 a0.2.2 (a0.2.2.length : Int) 0 b1 []
  else
    some ([], 1)
def impl_MissingLines.fn (n : Nat) (a0 : ByteArray × Int × List (ByteArray × Int)) (b1 : ByteArray × Int × List (ByteArray × Int)) : Option ((List (ByteArray × Int)) × Int) := impl_MissingLines.top (impl_MissingLines.l5 n n) a0 b1
def impl_MissingLines.f (a0 : ByteArray × Int × List (ByteArray × Int)) (b1 : ByteArray × Int × List (ByteArray × Int)) : Option ((List (ByteArray × Int)) × Int) := impl_MissingLines.fn NN a0 b1
end
end Go.Pl

namespace Go.Pl
open Go.Ev
set_option linter.unusedVariables false
noncomputable section
def spec_MissingLines.g5 (L5 : Int → (ByteArray × Int × List (ByteArray × Int)) → (ByteArray × Int × List (ByteArray × Int)) → (List (ByteArray × Int)) → Option ((List (ByteArray × Int)) × Int)) (i7 : Int) (a2 : ByteArray × Int × List (ByteArray × Int)) (b3 : ByteArray × Int × List (ByteArray × Int)) (out6 : List (ByteArray × Int)) : Option ((List (ByteArray × Int)) × Int) :=
  if (decide ((i7 : Int) < (a2.2.2.length : Int))) = true then
    if (0 : Int) ≤ i7 ∧ (i7 : Int) < a2.2.2.length then
      if (0 : Int) ≤ i7 ∧ (i7 : Int) < a2.2.2.length then
        (spec_l29Find.f b3 ((a2.2.2.getD (i7 : Int).toNat (ByteArray.empty, 0)).1)).bind fun r3 =>
        if (decide ((0 : Int) ≤ r3)) = true then
          if (0 : Int) ≤ r3 ∧ (r3 : Int) < b3.2.2.length then
            if (decide ((0 : Int) < (IntKind.i64.wrap (((a2.2.2.getD (i7 : Int).toNat (ByteArray.empty, 0)).2) - ((b3.2.2.getD (r3 : Int).toNat (ByteArray.empty, 0)).2))))) = true then
              if (0 : Int) ≤ i7 ∧ (i7 : Int) < a2.2.2.length then
                if out6.length + ([((a2.2.2.getD (i7 : Int).toNat (ByteArray.empty, 0)).1, IntKind.i64.wrap (((a2.2.2.getD (i7 : Int).toNat (ByteArray.empty, 0)).2) - ((b3.2.2.getD (r3 : Int).toNat (ByteArray.empty, 0)).2)))]).length < room 24 then
                  L5 (IntKind.i64.wrap (i7 + 1)) a2 b3 (out6 ++ ([((a2.2.2.getD (i7 : Int).toNat (ByteArray.empty, 0)).1, IntKind.i64.wrap (((a2.2.2.getD (i7 : Int).toNat (ByteArray.empty, 0)).2) - ((b3.2.2.getD (r3 : Int).toNat (ByteArray.empty, 0)).2)))]))
                else
                  none
              else
                none
            else
              L5 (IntKind.i64.wrap (i7 + 1)) a2 b3 out6
          else
            none
        else if (decide ((0 : Int) < ((a2.2.2.getD (i7 : Int).toNat (ByteArray.empty, 0)).2))) = true then
          if (0 : Int) ≤ i7 ∧ (i7 : Int) < a2.2.2.length then
            if out6.length + ([((a2.2.2.getD (i7 : Int).toNat (ByteArray.empty, 0)).1, (a2.2.2.getD (i7 : Int).toNat (ByteArray.empty, 0)).2)]).length < room 24 then
              L5 (IntKind.i64.wrap (i7 + 1)) a2 b3 (out6 ++ ([((a2.2.2.getD (i7 : Int).toNat (ByteArray.empty, 0)).1, (a2.2.2.getD (i7 : Int).toNat (ByteArray.empty, 0)).2)]))
            else
              none
          else
            none
        else
          L5 (IntKind.i64.wrap (i7 + 1)) a2 b3 out6
      else
        none
    else
      none
  else
    some (out6, 0)
def spec_MissingLines.l5 (n : Nat) : Nat → Int → (ByteArray × Int × List (ByteArray × Int)) → (ByteArray × Int × List (ByteArray × Int)) → (List (ByteArray × Int)) → Option ((List (ByteArray × Int)) × Int)
  | 0 => fun _ _ _ _ => none
  | k + 1 => spec_MissingLines.g5 (spec_MissingLines.l5 n k)
def spec_MissingLines.top (I5 : Int → (ByteArray × Int × List (ByteArray × Int)) → (ByteArray × Int × List (ByteArray × Int)) → (List (ByteArray × Int)) → Option ((List (ByteArray × Int)) × Int)) (a0 : ByteArray × Int × List (ByteArray × Int)) (b1 : ByteArray × Int × List (ByteArray × Int)) : Option ((List (ByteArray × Int)) × Int) :=
  (spec_IsPaper.f a0).bind fun r1 =>
  if (!r1) = false then
    (spec_IsPaper.f b1).bind fun r2 =>
    if (!r2) = true then
      some ([], 1)
    else
      I5 0 a0 b1 []
  else
    some ([], 1)
def spec_MissingLines.fn (n : Nat) (a0 : ByteArray × Int × List (ByteArray × Int)) (b1 : ByteArray × Int × List (ByteArray × Int)) : Option ((List (ByteArray × Int)) × Int) := spec_MissingLines.top (spec_MissingLines.l5 n n) a0 b1
def spec_MissingLines.f (a0 : ByteArray × Int × List (ByteArray × Int)) (b1 : ByteArray × Int × List (ByteArray × Int)) : Option ((List (ByteArray × Int)) × Int) := spec_MissingLines.fn NN a0 b1
end
end Go.Pl

namespace Go.Pl
open Go.Ev
set_option linter.unusedVariables false
set_option linter.unusedSimpArgs false
def missF (bs : List (ByteArray × Int)) (out : List (ByteArray × Int)) (l : ByteArray × Int) : List (ByteArray × Int) := if 0 < l.2 - cntL l.1 bs then out ++ [(l.1, l.2 - cntL l.1 bs)] else out
def missL (ax bs : List (ByteArray × Int)) : List (ByteArray × Int) := ax.foldl (missF bs) []
theorem missF_ok (bs : List (ByteArray × Int)) (hb : ∀ l ∈ bs, lineOk l = true) (out : List (ByteArray × Int)) (l : ByteArray × Int) (hl : lineOk l = true) (n : Nat) (h : out.length ≤ n ∧ ∀ x ∈ out, lineOk x = true) : (missF bs out l).length ≤ n + 1 ∧ ∀ x ∈ missF bs out l, lineOk x = true := by
  have h1 := lineOk_iff.1 hl
  have h2 := cntL_bd l.1 bs hb
  unfold missF
  split
  · refine ⟨by simp; omega, fun x hx => ?_⟩
    rcases List.mem_append.1 hx with h3 | h3
    · exact h.2 x h3
    · rw [List.mem_singleton.1 h3]; exact lineOk_iff.2 ⟨h1.1, by simp only; omega, by simp only; omega⟩
  · exact ⟨by omega, h.2⟩
theorem room24' {α : Type} (out : List α) (x : α) (h : out.length ≤ 2000000) : out.length + [x].length < room 24 := by rw [room24]; simp; omega
theorem impl_Missing_l (v : ByteArray) (d : Int) (ax bs : List (ByteArray × Int)) (ha : ∀ l ∈ ax, lineOk l = true) (hb : ∀ l ∈ bs, lineOk l = true) (hla : ax.length ≤ 12) (hlb : bs.length ≤ 12) :
    ((missL ax bs).length ≤ ax.length ∧ ∀ x ∈ missL ax bs, lineOk x = true) ∧ impl_MissingLines.l5 NN NN ax ax.length 0 (v, d, bs) [] = some (missL ax bs, 0) := by
  have := fold_fix (E := fun l => lineOk l = true) (fun p st => st.length ≤ p.length ∧ ∀ x ∈ st, lineOk x = true) (fun _ => missF bs) (fun st => some (st, (0 : Int))) (fun k i st => impl_MissingLines.l5 NN k ax ax.length i (v, d, bs) st) ax ?_ ?_ [] ha ⟨by simp, by simp⟩ (by omega) NN (NN_lt (by omega))
  · rw [foldi_foldl] at this
    exact this
  · intro k st _
    simp [impl_MissingLines.l5, impl_MissingLines.g5]
  · intro k p l r st hx hl hI c0 c1 c2 cw g
    have h1 := lineOk_iff.1 hl
    have h2 := cntL_bd l.1 bs hb
    have e1 := w64 (n := l.2 - cntL l.1 bs) (by omega) (by omega)
    refine ⟨by rw [List.length_append, List.length_singleton]; exact missF_ok bs hb st l hl p.length hI, ?_⟩
    simp only [impl_MissingLines.l5, impl_MissingLines.g5, c0, c1, cw, and_self, and_true, true_and, decide_true, decide_false, if_true, if_false, mid_get, mid_set, mid_getn, mid_setn, bt_mid, Option.bind_some, Bool.not_true, Bool.not_false, Bool.false_eq_true, Bool.true_eq_false, beq_self_eq_true, bne_self_eq_false, Int.toNat_natCast, g, impl_countIn_f bs l.1 (by omega), e1, decide_eq_true_eq]
    unfold missF
    rw [if_pos (room24' st _ (by omega))]
    split <;> rfl
theorem spec_Missing_l (v w : ByteArray) (d e : Int) (ax bs : List (ByteArray × Int)) (ha : ∀ l ∈ ax, lineOk l = true) (hb : ∀ l ∈ bs, lineOk l = true) (hla : ax.length ≤ 12) (hlb : bs.length ≤ 12) :
    spec_MissingLines.l5 NN NN 0 (w, e, ax) (v, d, bs) [] = some (missL ax bs, 0) := by
  have := (fold_fix (E := fun l => lineOk l = true) (fun p st => st.length ≤ p.length ∧ ∀ x ∈ st, lineOk x = true) (fun _ => missF bs) (fun st => some (st, (0 : Int))) (fun k i st => spec_MissingLines.l5 NN k i (w, e, ax) (v, d, bs) st) ax ?_ ?_ [] ha ⟨by simp, by simp⟩ (by omega) NN (NN_lt (by omega))).2
  · rw [foldi_foldl] at this
    exact this
  · intro k st _
    simp [spec_MissingLines.l5, spec_MissingLines.g5]
  · intro k p l r st hx hl hI c0 c1 c2 cw g
    have h1 := lineOk_iff.1 hl
    have h2 := cntL_bd l.1 bs hb
    have e1 := w64 (n := l.2 - cntL l.1 bs) (by omega) (by omega)
    refine ⟨by rw [List.length_append, List.length_singleton]; exact missF_ok bs hb st l hl p.length hI, ?_⟩
    simp only [spec_MissingLines.l5, spec_MissingLines.g5, c0, c1, cw, and_self, and_true, true_and, decide_true, decide_false, if_true, if_false, mid_get, mid_set, mid_getn, mid_setn, bt_mid, Option.bind_some, Bool.not_true, Bool.not_false, Bool.false_eq_true, Bool.true_eq_false, beq_self_eq_true, bne_self_eq_false, Int.toNat_natCast, g]
    rw [spec_l29Find_f _ _ (by simp only; omega)]
    simp only [Option.bind_some]
    unfold missF
    have hc := cntL_first l.1 bs 0
    cases hf : firstOf (fun x : ByteArray × Int => decide (x.1 = l.1)) 0 bs with
    | none =>
      rw [hf] at hc
      simp only [Option.elim] at hc
      rw [hc]
      simp only [Option.elim, hf]
      have n1 : ¬ (0 : Int) ≤ -1 := by omega
      simp only [n1, and_self, and_true, true_and, decide_true, decide_false, if_true, if_false, mid_get, mid_set, mid_getn, mid_setn, bt_mid, Option.bind_some, Bool.not_true, Bool.not_false, Bool.false_eq_true, Bool.true_eq_false, beq_self_eq_true, bne_self_eq_false, Int.toNat_natCast, Int.sub_zero]
      rw [if_pos (room24' st _ (by omega))]
      simp only [decide_eq_true_eq]
      split <;> rfl
    | some x =>
      obtain ⟨j, y⟩ := x
      obtain ⟨f1, f2, f3, f4⟩ := firstOf_spec _ _ _ _ _ hf
      rw [hf] at hc
      simp only [Option.elim] at hc
      simp only [Option.elim, hf]
      have n1 : (0 : Int) ≤ (j : Int) := by omega
      have n2 : (j : Int) < (bs.length : Int) := by omega
      have g2 : ∀ z, bs.getD j z = y := fun z => by
        rw [List.getD_eq_getElem?_getD, show j = j - 0 by omega, f3]; rfl
      rw [hc] at e1 ⊢
      simp only [n1, n2, and_self, and_true, true_and, decide_true, decide_false, if_true, if_false, mid_get, mid_set, mid_getn, mid_setn, bt_mid, Option.bind_some, Bool.not_true, Bool.not_false, Bool.false_eq_true, Bool.true_eq_false, beq_self_eq_true, bne_self_eq_false, Int.toNat_natCast, g2, e1]
      rw [if_pos (room24' st _ (by omega))]
      simp only [decide_eq_true_eq]
      split <;> rfl
theorem paperB_iff {p : ByteArray × Int × List (ByteArray × Int)} (h : paperB p = true) : wordB p.1 = true ∧ (0 ≤ p.2.1 ∧ p.2.1 ≤ 100000) ∧ linesB p.2.2 = true := by
  unfold paperB at h
  simp only [Bool.and_eq_true, inB_iff] at h
  exact ⟨h.1.1, h.1.2, h.2⟩
theorem lines_ok {xs : List (ByteArray × Int)} (h1 : xs.length ≤ 1000000) (h2 : ∀ l ∈ xs, lineOk l = true) : Lm OkLine xs := ⟨h1, fun l hl => by
  have h3 := lineOk_iff.1 (h2 l hl)
  have := wordB_size h3.1
  exact ⟨by unfold Sm; omega, wf64.2 (by omega)⟩⟩
theorem MissingLines_core (a b : ByteArray × Int × List (ByteArray × Int)) (ha : OkPaper a) (hb : OkPaper b) : ∃ w, spec_MissingLines.f a b = some w ∧ impl_MissingLines.f a b = some w ∧ Lm OkLine w.1 := by
  unfold spec_MissingLines.f spec_MissingLines.fn spec_MissingLines.top impl_MissingLines.f impl_MissingLines.fn impl_MissingLines.top
  rw [spec_IsPaper_f a ha, spec_IsPaper_f b hb, impl_IsPaper_f a ha, impl_IsPaper_f b hb]
  cases h1 : paperB a
  · exact ⟨([], 1), rfl, rfl, by simp, by simp⟩
  cases h2 : paperB b
  · exact ⟨([], 1), rfl, rfl, by simp, by simp⟩
  have p1 := linesB_ok (paperB_iff h1).2.2
  have p2 := linesB_ok (paperB_iff h2).2.2
  obtain ⟨w, e, ax⟩ := a
  obtain ⟨v, d, bs⟩ := b
  have q1 := impl_Missing_l v d ax bs p1.2 p2.2 p1.1 p2.1
  have q2 := spec_Missing_l v w d e ax bs p1.2 p2.2 p1.1 p2.1
  have p11 : ax.length ≤ 12 := p1.1
  exact ⟨(missL ax bs, 0), q2, q1.2, lines_ok (by simp only; omega) q1.1.2⟩
end Go.Pl

namespace Go.Pl
open Go.Ev
set_option linter.unusedVariables false
set_option linter.unusedSimpArgs false
abbrev Art : Type := ByteArray × Int × Int × Int × Int × Int × Int × Int × Int
def artB (a : Art) : Bool := wordB a.1 && inB a.2.1 0 3 && inB a.2.2.1 20 300 && inB a.2.2.2.1 0 10000 && inB a.2.2.2.2.1 0 a.2.2.2.1 && inB a.2.2.2.2.2.1 1 50 && inB a.2.2.2.2.2.2.1 0 10000 && inB a.2.2.2.2.2.2.2.1 1 100000 && inB a.2.2.2.2.2.2.2.2 0 3
theorem impl_IsArticle_f (a : Art) (h : Sz a.1) : impl_IsArticle.f a = some (artB a) := by
  unfold impl_IsArticle.f impl_IsArticle.fn impl_IsArticle.top artB
  simp only [impl_IsWord_f _ h, impl_within_f, Option.bind_some]
  cases wordB a.1
  · rfl
  cases inB a.2.1 0 3
  · rfl
  cases inB a.2.2.1 20 300
  · rfl
  cases inB a.2.2.2.1 0 10000
  · rfl
  cases inB a.2.2.2.2.1 0 a.2.2.2.1
  · rfl
  cases inB a.2.2.2.2.2.1 1 50
  · rfl
  cases inB a.2.2.2.2.2.2.1 0 10000
  · rfl
  cases inB a.2.2.2.2.2.2.2.1 1 100000
  · rfl
  · rfl
theorem spec_IsArticle_f (a : Art) (h : Sz a.1) : spec_IsArticle.f a = some (artB a) := by
  unfold spec_IsArticle.f spec_IsArticle.fn spec_IsArticle.top artB
  simp only [spec_IsWord_f _ h, spec_l01In_f, Option.bind_some]
  cases wordB a.1
  · rfl
  cases inB a.2.1 0 3
  · rfl
  cases inB a.2.2.1 20 300
  · rfl
  cases inB a.2.2.2.1 0 10000
  · rfl
  cases inB a.2.2.2.2.1 0 a.2.2.2.1
  · rfl
  cases inB a.2.2.2.2.2.1 1 50
  · rfl
  cases inB a.2.2.2.2.2.2.1 0 10000
  · rfl
  cases inB a.2.2.2.2.2.2.2.1 1 100000
  · rfl
  · rfl
/-- articles, looked at from the second on -/
def artsF : Art → List Art → Bool
  | _, [] => true
  | x, a :: r => artB a && ltS x.1 a.1 && artsF a r
def artsL : List Art → Bool
  | [] => true
  | a :: r => artB a && artsF a r
def artsB (xs : List Art) : Bool := decide (xs.length ≤ 12) && artsL xs
noncomputable def impl_arts_call (k : Nat) (xs : List Art) (i : Int) := impl_AreArticles.l4 NN k xs xs xs.length i
noncomputable def spec_arts_call (k : Nat) (xs : List Art) (i : Int) := spec_AreArticles.l2 NN k xs i
theorem impl_arts_loop : ∀ (r p : List Art) (x : Art) (k : Nat), p.length + r.length + 1 ≤ 140737488355328 → r.length < k → (∀ a ∈ r, Sz a.1) →
    impl_arts_call k (p ++ [x] ++ r) ((p.length : Int) + 1) = if artsF x r = true then some ((fun _ => true) (p ++ [x] ++ r)) else some false := by
  intro r
  induction r with
  | nil =>
    intro p x k _ hk _
    obtain ⟨k, rfl⟩ : ∃ j, k = j + 1 := ⟨k - 1, by omega⟩
    have n1 : ¬ (p.length : Int) + 1 < ((p ++ [x] ++ []).length : Int) := by simp
    simp only [impl_arts_call, impl_AreArticles.l4, impl_AreArticles.g4, n1, decide_false, Bool.false_eq_true, if_false, artsF, if_true]
  | cons a r ih =>
    intro p x k hb hk hz
    simp only [List.length_cons] at hb hk
    obtain ⟨k, rfl⟩ : ∃ j, k = j + 1 := ⟨k - 1, by omega⟩
    have hl : ((p ++ [x] ++ a :: r).length : Int) = p.length + r.length + 2 := by simp; omega
    have w1 := w64 (n := (p.length : Int) + 1 - 1) (by omega) (by omega)
    have w2 := w64 (n := (p.length : Int) + 1 + 1) (by omega) (by omega)
    have c1 : (p.length : Int) + 1 < ((p ++ [x] ++ a :: r).length : Int) := by omega
    have c2 : (0 : Int) ≤ (p.length : Int) + 1 - 1 := by omega
    have c3 : (p.length : Int) + 1 - 1 < ((p ++ [x] ++ a :: r).length : Int) := by omega
    have c4 : (0 : Int) ≤ (p.length : Int) + 1 := by omega
    have c5 : (0 : Int) < (p.length : Int) + 1 := by omega
    have g1 : ∀ z, (p ++ [x] ++ a :: r).getD ((p.length : Int) + 1).toNat z = a := fun z => by
      rw [show ((p.length : Int) + 1).toNat = (p ++ [x]).length by simp, mid_getn]
    have g2 : ∀ z, (p ++ [x] ++ a :: r).getD ((p.length : Int) + 1 - 1).toNat z = x := fun z => by
      rw [show ((p.length : Int) + 1 - 1).toNat = p.length by omega, snoc_getl']
    have i1 := ih (p ++ [x]) a k (by simp; omega) (by omega) (fun b hb => hz b (by simp [hb]))
    have e1 : (((p ++ [x]).length : Nat) : Int) + 1 = (p.length : Int) + 1 + 1 := by simp
    have e2 : p ++ [x] ++ [a] ++ r = p ++ [x] ++ a :: r := by simp
    rw [e1, e2] at i1
    simp only [impl_arts_call] at i1
    simp only [impl_arts_call, impl_AreArticles.l4, impl_AreArticles.g4, w1, w2, c1, c2, c3, c4, c5, g1, g2, and_self, decide_true, if_true, Option.bind_some, impl_IsArticle_f a (hz a (by simp)), artsF]
    rcases Bool.eq_false_or_eq_true (artB a) with h1 | h1
    · rcases Bool.eq_false_or_eq_true (ltS x.1 a.1) with h2 | h2
      · have h2' : Op.bytesLess x.1.toList a.1.toList = true := h2
        simp only [h1, h2, h2', Bool.not_true, Bool.false_eq_true, if_false, if_true, Bool.true_and, Bool.and_true]
        exact i1
      · have h2' : Op.bytesLess x.1.toList a.1.toList = false := h2
        simp [h1, h2, h2']
    · simp [h1]
theorem impl_arts_all (xs : List Art) (hb : xs.length ≤ 140737488355328) (hz : ∀ a ∈ xs, Sz a.1) : impl_arts_call NN xs 0 = if artsL xs = true then some ((fun _ => true) xs) else some false := by
  obtain ⟨k, hk⟩ : ∃ j, NN = j + 1 := ⟨NN - 1, by have := NNb; omega⟩
  have hkb : 1000000000000000 < k := by rw [NN_eq] at hk; omega
  unfold impl_arts_call
  rw [show impl_AreArticles.l4 NN NN = impl_AreArticles.l4 NN (k + 1) by rw [← hk]]
  cases xs with
  | nil =>
    have n1 : ¬ (0 : Int) < (([] : List Art).length : Int) := by simp
    simp only [impl_AreArticles.l4, impl_AreArticles.g4, n1, decide_false, Bool.false_eq_true, if_false, artsL, if_true]
  | cons a r =>
    simp only [List.length_cons] at hb
    have i1 := impl_arts_loop r [] a k (by simp; omega) (by omega) (fun b hb => hz b (by simp [hb]))
    simp only [impl_arts_call, List.nil_append, List.length_nil] at i1
    have n1 : (0 : Int) < ((a :: r).length : Int) := by simp only [List.length_cons]; omega
    have w2 := w64 (n := (0 : Int) + 1) (by omega) (by omega)
    have g1 : ∀ z, (a :: r).getD (0 : Int).toNat z = a := fun z => rfl
    simp only [impl_AreArticles.l4, impl_AreArticles.g4, n1, w2, g1, Int.le_refl, Int.lt_irrefl, and_self, decide_true, decide_false, if_true, Option.bind_some, impl_IsArticle_f a (hz a (by simp)), artsL]
    rcases Bool.eq_false_or_eq_true (artB a) with h1 | h1
    · simp only [h1, Bool.not_true, Bool.false_eq_true, if_false, if_true, Bool.true_and]
      exact i1
    · simp [h1]
theorem spec_arts_loop : ∀ (r p : List Art) (x : Art) (k : Nat), p.length + r.length + 1 ≤ 140737488355328 → r.length < k → (∀ a ∈ r, Sz a.1) →
    spec_arts_call k (p ++ [x] ++ r) ((p.length : Int) + 1) = if artsF x r = true then some ((fun xs : List Art => decide (((xs.length : Int) : Int) ≤ 12)) (p ++ [x] ++ r)) else some false := by
  intro r
  induction r with
  | nil =>
    intro p x k _ hk _
    obtain ⟨k, rfl⟩ : ∃ j, k = j + 1 := ⟨k - 1, by omega⟩
    have n1 : ¬ (p.length : Int) + 1 < ((p ++ [x] ++ []).length : Int) := by simp
    simp only [spec_arts_call, spec_AreArticles.l2, spec_AreArticles.g2, n1, decide_false, Bool.false_eq_true, if_false, artsF, if_true]
  | cons a r ih =>
    intro p x k hb hk hz
    simp only [List.length_cons] at hb hk
    obtain ⟨k, rfl⟩ : ∃ j, k = j + 1 := ⟨k - 1, by omega⟩
    have hl : ((p ++ [x] ++ a :: r).length : Int) = p.length + r.length + 2 := by simp; omega
    have w1 := w64 (n := (p.length : Int) + 1 - 1) (by omega) (by omega)
    have w2 := w64 (n := (p.length : Int) + 1 + 1) (by omega) (by omega)
    have c1 : (p.length : Int) + 1 < ((p ++ [x] ++ a :: r).length : Int) := by omega
    have c2 : (0 : Int) ≤ (p.length : Int) + 1 - 1 := by omega
    have c3 : (p.length : Int) + 1 - 1 < ((p ++ [x] ++ a :: r).length : Int) := by omega
    have c4 : (0 : Int) ≤ (p.length : Int) + 1 := by omega
    have c5 : (0 : Int) < (p.length : Int) + 1 := by omega
    have g1 : ∀ z, (p ++ [x] ++ a :: r).getD ((p.length : Int) + 1).toNat z = a := fun z => by
      rw [show ((p.length : Int) + 1).toNat = (p ++ [x]).length by simp, mid_getn]
    have g2 : ∀ z, (p ++ [x] ++ a :: r).getD ((p.length : Int) + 1 - 1).toNat z = x := fun z => by
      rw [show ((p.length : Int) + 1 - 1).toNat = p.length by omega, snoc_getl']
    have i1 := ih (p ++ [x]) a k (by simp; omega) (by omega) (fun b hb => hz b (by simp [hb]))
    have e1 : (((p ++ [x]).length : Nat) : Int) + 1 = (p.length : Int) + 1 + 1 := by simp
    have e2 : p ++ [x] ++ [a] ++ r = p ++ [x] ++ a :: r := by simp
    rw [e1, e2] at i1
    simp only [spec_arts_call] at i1
    simp only [spec_arts_call, spec_AreArticles.l2, spec_AreArticles.g2, w1, w2, c1, c2, c3, c4, c5, g1, g2, and_self, decide_true, if_true, Option.bind_some, spec_IsArticle_f a (hz a (by simp)), artsF]
    rcases Bool.eq_false_or_eq_true (artB a) with h1 | h1
    · rcases Bool.eq_false_or_eq_true (ltS x.1 a.1) with h2 | h2
      · have h2' : Op.bytesLess x.1.toList a.1.toList = true := h2
        simp only [h1, h2, h2', Bool.not_true, Bool.false_eq_true, if_false, if_true, Bool.true_and, Bool.and_true]
        exact i1
      · have h2' : Op.bytesLess x.1.toList a.1.toList = false := h2
        simp [h1, h2, h2']
    · simp [h1]
theorem spec_arts_all (xs : List Art) (hb : xs.length ≤ 140737488355328) (hz : ∀ a ∈ xs, Sz a.1) : spec_arts_call NN xs 0 = if artsL xs = true then some ((fun xs : List Art => decide (((xs.length : Int) : Int) ≤ 12)) xs) else some false := by
  obtain ⟨k, hk⟩ : ∃ j, NN = j + 1 := ⟨NN - 1, by have := NNb; omega⟩
  have hkb : 1000000000000000 < k := by rw [NN_eq] at hk; omega
  unfold spec_arts_call
  rw [show spec_AreArticles.l2 NN NN = spec_AreArticles.l2 NN (k + 1) by rw [← hk]]
  cases xs with
  | nil =>
    have n1 : ¬ (0 : Int) < (([] : List Art).length : Int) := by simp
    simp only [spec_AreArticles.l2, spec_AreArticles.g2, n1, decide_false, Bool.false_eq_true, if_false, artsL, if_true]
  | cons a r =>
    simp only [List.length_cons] at hb
    have i1 := spec_arts_loop r [] a k (by simp; omega) (by omega) (fun b hb => hz b (by simp [hb]))
    simp only [spec_arts_call, List.nil_append, List.length_nil] at i1
    have n1 : (0 : Int) < ((a :: r).length : Int) := by simp only [List.length_cons]; omega
    have w2 := w64 (n := (0 : Int) + 1) (by omega) (by omega)
    have g1 : ∀ z, (a :: r).getD (0 : Int).toNat z = a := fun z => rfl
    simp only [spec_AreArticles.l2, spec_AreArticles.g2, n1, w2, g1, Int.le_refl, Int.lt_irrefl, and_self, decide_true, decide_false, if_true, Option.bind_some, spec_IsArticle_f a (hz a (by simp)), artsL]
    rcases Bool.eq_false_or_eq_true (artB a) with h1 | h1
    · simp only [h1, Bool.not_true, Bool.false_eq_true, if_false, if_true, Bool.true_and]
      exact i1
    · simp [h1]
theorem impl_AreArticles_f (xs : List Art) (hb : xs.length ≤ 140737488355328) (hz : ∀ a ∈ xs, Sz a.1) : impl_AreArticles.f xs = some (artsB xs) := by
  unfold impl_AreArticles.f impl_AreArticles.fn impl_AreArticles.top artsB
  have := impl_arts_all xs hb hz
  unfold impl_arts_call at this
  by_cases h : (12 : Int) < (xs.length : Int)
  · have h2 : ¬ xs.length ≤ 12 := by omega
    simp only [h, h2, decide_true, decide_false, if_true, Bool.false_and]
  · have h2 : xs.length ≤ 12 := by omega
    simp only [h, h2, decide_true, decide_false, Bool.false_eq_true, if_false, Bool.true_and]
    rw [this]
    cases artsL xs <;> rfl
theorem spec_AreArticles_f (xs : List Art) (hb : xs.length ≤ 140737488355328) (hz : ∀ a ∈ xs, Sz a.1) : spec_AreArticles.f xs = some (artsB xs) := by
  unfold spec_AreArticles.f spec_AreArticles.fn spec_AreArticles.top artsB
  have := spec_arts_all xs hb hz
  unfold spec_arts_call at this
  rw [this]
  have e : decide (((xs.length : Int) : Int) ≤ 12) = decide (xs.length ≤ 12) := by
    by_cases h : xs.length ≤ 12
    · have : (xs.length : Int) ≤ 12 := by omega
      simp [h, this]
    · have : ¬ (xs.length : Int) ≤ 12 := by omega
      simp [h, this]
  simp only [e]
  cases artsL xs <;> simp
theorem artsF_ok : ∀ (r : List Art) (x : Art), artsF x r = true → ∀ a ∈ r, artB a = true := by
  intro r
  induction r with
  | nil => intro x _ a ha; cases ha
  | cons b r ih =>
    intro x h a ha
    simp only [artsF, Bool.and_eq_true] at h
    rcases List.mem_cons.1 ha with rfl | ha
    · exact h.1.1
    · exact ih b h.2 a ha
theorem artsB_ok {xs : List Art} (h : artsB xs = true) : xs.length ≤ 12 ∧ ∀ a ∈ xs, artB a = true := by
  unfold artsB at h
  simp only [Bool.and_eq_true, decide_eq_true_eq] at h
  refine ⟨h.1, ?_⟩
  cases xs with
  | nil => intro a ha; cases ha
  | cons b r =>
    intro a ha
    have h2 := h.2
    simp only [artsL, Bool.and_eq_true] at h2
    rcases List.mem_cons.1 ha with rfl | ha
    · exact h2.1
    · exact artsF_ok r b h2.2 a ha
theorem artB_iff {a : Art} (h : artB a = true) : wordB a.1 = true ∧ (0 ≤ a.2.1 ∧ a.2.1 ≤ 3) ∧ (20 ≤ a.2.2.1 ∧ a.2.2.1 ≤ 300) ∧ (1 ≤ a.2.2.2.2.2.2.2.1 ∧ a.2.2.2.2.2.2.2.1 ≤ 100000) ∧ (0 ≤ a.2.2.2.2.2.2.2.2 ∧ a.2.2.2.2.2.2.2.2 ≤ 3) := by
  unfold artB at h
  simp only [Bool.and_eq_true, inB_iff] at h
  exact ⟨h.1.1.1.1.1.1.1.1, h.1.1.1.1.1.1.1.2, h.1.1.1.1.1.1.2, h.1.2, h.2⟩
/-- the number of an article, or -1 -/
def artI (xs : List Art) (c : ByteArray) : Int := (firstOf (fun l : Art => decide (l.1 = c)) 0 xs).elim (-1) (fun x => (x.1 : Int))
theorem impl_articleOf_f (xs : List Art) (c : ByteArray) (h : xs.length ≤ 140737488355328) : impl_articleOf.f xs c = some (artI xs c) := by
  have := find_loop (E := fun _ => True) (fun l : Art => decide (l.1 = c)) (fun i _ => some (i : Int)) (fun _ => some (-1)) (fun k xs i => impl_articleOf.l2 NN k c xs xs.length i) ?_ ?_ xs (fun _ _ => trivial) (by omega) NN (NN_lt (by omega))
  · refine this.trans ?_
    unfold artI
    cases firstOf (fun l : Art => decide (l.1 = c)) 0 xs <;> rfl
  · intro k p
    simp [impl_articleOf.l2, impl_articleOf.g2]
  · intro k p l r _ c0 c1 c2 cw
    simp only [impl_articleOf.l2, impl_articleOf.g2, c0, c1, cw, and_self, and_true, true_and, decide_true, decide_false, if_true, if_false, mid_get, mid_set, mid_getn, mid_setn, bt_mid, Option.bind_some, Bool.not_true, Bool.not_false, Bool.false_eq_true, Bool.true_eq_false, beq_self_eq_true, bne_self_eq_false, Int.toNat_natCast, ba_beq]
theorem spec_l03Find_f (xs : List Art) (c : ByteArray) (h : xs.length ≤ 140737488355328) : spec_l03Find.f xs c = some (artI xs c) := by
  have := find_loop (E := fun _ => True) (fun l : Art => decide (l.1 = c)) (fun i _ => some (i : Int)) (fun _ => some (-1)) (fun k xs i => spec_l03Find.l2 NN k xs c i) ?_ ?_ xs (fun _ _ => trivial) (by omega) NN (NN_lt (by omega))
  · refine this.trans ?_
    unfold artI
    cases firstOf (fun l : Art => decide (l.1 = c)) 0 xs <;> rfl
  · intro k p
    simp [spec_l03Find.l2, spec_l03Find.g2]
  · intro k p l r _ c0 c1 c2 cw
    simp only [spec_l03Find.l2, spec_l03Find.g2, c0, c1, cw, and_self, and_true, true_and, decide_true, decide_false, if_true, if_false, mid_get, mid_set, mid_getn, mid_setn, bt_mid, Option.bind_some, Bool.not_true, Bool.not_false, Bool.false_eq_true, Bool.true_eq_false, beq_self_eq_true, bne_self_eq_false, Int.toNat_natCast, ba_beq]
theorem artI_bd (xs : List Art) (c : ByteArray) : artI xs c < (xs.length : Int) := by
  unfold artI
  cases h : firstOf (fun l : Art => decide (l.1 = c)) 0 xs with
  | none => simp only [Option.elim_none]; omega
  | some x =>
    have := firstOf_spec _ xs 0 x.1 x.2 h
    simp only [Option.elim_some]; omega
theorem firstOf_none {α : Type} (P : α → Bool) : ∀ (xs : List α) (i : Nat), firstOf P i xs = none → ∀ x ∈ xs, P x = false := by
  intro xs
  induction xs with
  | nil => intro i _ x hx; cases hx
  | cons a r ih =>
    intro i h x hx
    simp only [firstOf] at h
    split at h
    · cases h
    · rename_i hp
      rcases List.mem_cons.1 hx with rfl | hx
      · simpa using hp
      · exact ih _ h x hx
end Go.Pl

namespace Go.Pl
open Go.Ev
set_option linter.unusedVariables false
set_option linter.unusedSimpArgs false
abbrev Cue : Type := Int × Int × ByteArray × Int
abbrev Show : Type := List (Int × Int) × List Art × List Cue
def barB (b : Int × Int) : Bool := inB b.1 1 16 && inB b.2 100 5000
def scoreB (s : List (Int × Int)) : Bool := inB (s.length : Int) 1 20 && s.all barB
theorem impl_IsScore_f (s : List (Int × Int)) (h : s.length ≤ 140737488355328) : impl_IsScore.f s = some (scoreB s) := by
  have := all_loop (E := fun _ => True) barB (fun _ => some true) (fun k xs i => impl_IsScore.l4 NN k xs xs.length i) ?_ ?_ s (fun _ _ => trivial) (by omega) NN (NN_lt (by omega))
  · unfold impl_IsScore.f impl_IsScore.fn impl_IsScore.top scoreB
    rw [this]
    by_cases h1 : (s.length : Int) < 1
    · have : inB (s.length : Int) 1 20 = false := by
        rw [Bool.eq_false_iff]; intro e; have := inB_iff.1 e; omega
      simp [h1, this]
    · by_cases h2 : (20 : Int) < (s.length : Int)
      · have : inB (s.length : Int) 1 20 = false := by
          rw [Bool.eq_false_iff]; intro e; have := inB_iff.1 e; omega
        simp [h1, h2, this]
      · have : inB (s.length : Int) 1 20 = true := inB_iff.2 (by omega)
        simp only [h1, h2, this, decide_false, Bool.false_eq_true, if_false, if_true, Bool.true_and]
        cases s.all barB <;> rfl
  · intro k p
    simp [impl_IsScore.l4, impl_IsScore.g4]
  · intro k p a r _ c0 c1 cw
    simp only [impl_IsScore.l4, impl_IsScore.g4, c0, c1, cw, and_self, and_true, true_and, decide_true, decide_false, if_true, if_false, mid_get, mid_set, mid_getn, mid_setn, bt_mid, Option.bind_some, Bool.not_true, Bool.not_false, Bool.false_eq_true, Bool.true_eq_false, beq_self_eq_true, bne_self_eq_false, Int.toNat_natCast, impl_within_f, barB]
    rcases Bool.eq_false_or_eq_true (inB a.1 1 16) with h1 | h1 <;> rcases Bool.eq_false_or_eq_true (inB a.2 100 5000) with h2 | h2 <;> simp [h1, h2]
theorem spec_IsScore_f (s : List (Int × Int)) (h : s.length ≤ 140737488355328) : spec_IsScore.f s = some (scoreB s) := by
  have := all_loop (E := fun _ => True) barB (fun xs => some (inB (xs.length : Int) 1 20)) (fun k xs i => spec_IsScore.l2 NN k xs i) ?_ ?_ s (fun _ _ => trivial) (by omega) NN (NN_lt (by omega))
  · unfold spec_IsScore.f spec_IsScore.fn spec_IsScore.top scoreB
    rw [this]
    cases s.all barB <;> simp
  · intro k p
    simp [spec_IsScore.l2, spec_IsScore.g2, spec_l01In_f]
  · intro k p a r _ c0 c1 cw
    simp only [spec_IsScore.l2, spec_IsScore.g2, c0, c1, cw, and_self, and_true, true_and, decide_true, decide_false, if_true, if_false, mid_get, mid_set, mid_getn, mid_setn, bt_mid, Option.bind_some, Bool.not_true, Bool.not_false, Bool.false_eq_true, Bool.true_eq_false, beq_self_eq_true, bne_self_eq_false, Int.toNat_natCast, spec_l01In_f, barB]
    rcases Bool.eq_false_or_eq_true (inB a.1 1 16) with h1 | h1 <;> rcases Bool.eq_false_or_eq_true (inB a.2 100 5000) with h2 | h2 <;> simp [h1, h2]
theorem scoreB_iff {s : List (Int × Int)} (h : scoreB s = true) : 1 ≤ s.length ∧ s.length ≤ 20 ∧ ∀ b ∈ s, (1 ≤ b.1 ∧ b.1 ≤ 16) ∧ (100 ≤ b.2 ∧ b.2 ≤ 5000) := by
  unfold scoreB at h
  rw [Bool.and_eq_true, inB_iff] at h
  refine ⟨by omega, by omega, fun b hb => ?_⟩
  have := List.all_eq_true.1 h.2 b hb
  unfold barB at this
  rw [Bool.and_eq_true, inB_iff, inB_iff] at this
  exact this
theorem impl_isIndex_f (i : Int) {n : Int} (h0 : -1000000 ≤ n) (h1 : n ≤ 140737488355328) : impl_isIndex.f i n = some (inB i 0 (n - 1)) := by
  unfold impl_isIndex.f impl_isIndex.fn impl_isIndex.top
  rw [w64 (n := n - 1) (by omega) (by omega), impl_within_f]; rfl
def beatB (s : List (Int × Int)) (bar beat : Int) : Bool := inB bar 0 ((s.length : Int) - 1) && inB beat 0 ((s.getD bar.toNat (0, 0)).1 - 1)
theorem bar_mem {s : List (Int × Int)} {i : Nat} (h : i < s.length) : s.getD i (0, 0) ∈ s := by
  rw [List.getD_eq_getElem?_getD, List.getElem?_eq_getElem h]; exact List.getElem_mem h
theorem beat_both {s : List (Int × Int)} (h : scoreB s = true) (bar beat : Int) : impl_isBeat.f s bar beat = some (beatB s bar beat) ∧ spec_l07Has.f s bar beat = some (beatB s bar beat) := by
  obtain ⟨h1, h2, h3⟩ := scoreB_iff h
  unfold impl_isBeat.f impl_isBeat.fn impl_isBeat.top spec_l07Has.f spec_l07Has.fn spec_l07Has.top beatB
  rw [impl_isIndex_f bar (n := (s.length : Int)) (by omega) (by omega), w64 (n := (s.length : Int) - 1) (by omega) (by omega), spec_l01In_f]
  cases hb : inB bar 0 ((s.length : Int) - 1)
  · exact ⟨rfl, rfl⟩
  · have hbb := inB_iff.1 hb
    have hm := h3 _ (bar_mem (s := s) (i := bar.toNat) (by omega))
    have w := w64 (n := (s.getD bar.toNat (0, 0)).1 - 1) (by omega) (by omega)
    simp only [Option.bind_some, if_true, hbb.1, show bar < (s.length : Int) from by omega, and_self, w, impl_within_f, spec_l01In_f, Bool.true_and]
def barF (t : Int) (b : Int × Int) : Int := t + b.1 * b.2
def barsL (s : List (Int × Int)) (n : Nat) : Int := (s.take n).foldl barF 0
def timeL (s : List (Int × Int)) (bar beat : Int) : Int := barsL s bar.toNat + beat * (s.getD bar.toNat (0, 0)).2
theorem bar_bd {b : Int × Int} (h : (1 ≤ b.1 ∧ b.1 ≤ 16) ∧ (100 ≤ b.2 ∧ b.2 ≤ 5000)) : 0 ≤ b.1 * b.2 ∧ b.1 * b.2 ≤ 80000 := by
  refine ⟨Int.mul_nonneg (by omega) (by omega), ?_⟩
  have := Int.mul_le_mul h.1.2 h.2.2 (by omega) (by omega)
  omega
theorem beat_bd {s : List (Int × Int)} (h : scoreB s = true) {bar beat : Int} (hb : beatB s bar beat = true) : 0 ≤ bar ∧ bar < (s.length : Int) ∧ 0 ≤ beat ∧ beat ≤ 15 ∧ 0 ≤ beat * (s.getD bar.toNat (0, 0)).2 ∧ beat * (s.getD bar.toNat (0, 0)).2 ≤ 75000 := by
  obtain ⟨h1, h2, h3⟩ := scoreB_iff h
  unfold beatB at hb
  rw [Bool.and_eq_true, inB_iff, inB_iff] at hb
  have hm := h3 _ (bar_mem (s := s) (i := bar.toNat) (by omega))
  have := Int.mul_le_mul (show beat ≤ 15 by omega) hm.2.2 (by omega) (by omega)
  exact ⟨by omega, by omega, by omega, by omega, Int.mul_nonneg (by omega) (by omega), by omega⟩
theorem barsL_bd {s : List (Int × Int)} (h : scoreB s = true) (n : Nat) : 0 ≤ barsL s n ∧ barsL s n ≤ 1600000 := by
  obtain ⟨h1, h2, h3⟩ := scoreB_iff h
  have key : ∀ (l : List (Int × Int)) (t : Int), (∀ b ∈ l, (1 ≤ b.1 ∧ b.1 ≤ 16) ∧ (100 ≤ b.2 ∧ b.2 ≤ 5000)) → t ≤ l.foldl barF t ∧ l.foldl barF t ≤ t + 80000 * (l.length : Int) := by
    intro l
    induction l with
    | nil => intro t _; simp
    | cons b l ih =>
      intro t hl
      have i := ih (barF t b) (fun x hx => hl x (by simp [hx]))
      have := bar_bd (hl b (by simp))
      unfold barF at i ⊢
      simp only [List.foldl_cons, List.length_cons]
      omega
  have := key (s.take n) 0 (fun b hb => h3 b (List.mem_of_mem_take hb))
  have hl : (s.take n).length ≤ 20 := by rw [List.length_take]; omega
  unfold barsL
  omega
theorem impl_beatTime_f {s : List (Int × Int)} (h : scoreB s = true) {bar beat : Int} (hb : beatB s bar beat = true) : impl_beatTime.f s bar beat = some (timeL s bar beat) := by
  obtain ⟨h1, h2, h3⟩ := scoreB_iff h
  obtain ⟨b1, b2, b3, b4, b5, b6⟩ := beat_bd h hb
  have hB := barsL_bd h bar.toNat
  have htl : (s.take bar.toNat).length ≤ 20 := by rw [List.length_take]; omega
  have := (fold_fix (E := fun b : Int × Int => (1 ≤ b.1 ∧ b.1 ≤ 16) ∧ (100 ≤ b.2 ∧ b.2 ≤ 5000)) (fun p st => 0 ≤ st ∧ st ≤ 80000 * (p.length : Int)) (fun _ => barF) (fun st => some (if 0 < beat then IntKind.i64.wrap (st + IntKind.i64.wrap (beat * (s.getD bar.toNat (0, 0)).2)) else st)) (fun k i st => impl_beatTime.l3 NN k s bar beat st (s.take bar.toNat) (s.take bar.toNat).length i) (s.take bar.toNat) ?_ ?_ 0 (fun b hb => h3 b (List.mem_of_mem_take hb)) ⟨by omega, by simp⟩ (by omega) NN (NN_lt (by omega))).2
  · rw [foldi_foldl] at this
    unfold impl_beatTime.f impl_beatTime.fn impl_beatTime.top
    rw [if_pos ⟨b1, by omega⟩]
    refine this.trans ?_
    show some (if 0 < beat then IntKind.i64.wrap (barsL s bar.toNat + IntKind.i64.wrap (beat * (s.getD bar.toNat (0, 0)).2)) else barsL s bar.toNat) = _
    unfold timeL
    by_cases hz : 0 < beat
    · rw [if_pos hz, w64 (n := beat * (s.getD bar.toNat (0, 0)).2) (by omega) (by omega), w64 (by omega) (by omega)]
    · rw [if_neg hz, show beat = 0 by omega]; simp
  · intro k st _
    simp only [impl_beatTime.l3, impl_beatTime.g3, Int.lt_irrefl, decide_false, Bool.false_eq_true, if_false]
    by_cases hz : 0 < beat
    · simp only [hz, decide_true, if_true, b1, b2, and_self]
    · simp only [hz, decide_false, Bool.false_eq_true, if_false]
  · intro k p b r st hx hbb hI c0 c1 c2 cw g
    have hp : p.length ≤ 20 := by omega
    have hbd := bar_bd hbb
    have w1 := w64 (n := b.1 * b.2) (by omega) (by omega)
    have w2 := w64 (n := st + b.1 * b.2) (by omega) (by omega)
    refine ⟨⟨by unfold barF; omega, by unfold barF; simp only [List.length_append, List.length_singleton]; omega⟩, ?_⟩
    simp only [impl_beatTime.l3, impl_beatTime.g3, c0, c1, cw, g, and_self, and_true, true_and, decide_true, decide_false, if_true, if_false, mid_get, mid_set, mid_getn, mid_setn, bt_mid, Option.bind_some, Bool.not_true, Bool.not_false, Bool.false_eq_true, Bool.true_eq_false, beq_self_eq_true, bne_self_eq_false, Int.toNat_natCast, w1, w2]
    rfl
theorem spec_l07Time_f {s : List (Int × Int)} (h : scoreB s = true) {bar beat : Int} (hb : beatB s bar beat = true) : spec_l07Time.f s bar beat = some (timeL s bar beat) := by
  obtain ⟨h1, h2, h3⟩ := scoreB_iff h
  obtain ⟨b1, b2, b3, b4, b5, b6⟩ := beat_bd h hb
  have hB := barsL_bd h bar.toNat
  have htl : (s.take bar.toNat).length = bar.toNat := by rw [List.length_take]; omega
  have := (fold_fix (E := fun b : Int × Int => (1 ≤ b.1 ∧ b.1 ≤ 16) ∧ (100 ≤ b.2 ∧ b.2 ≤ 5000)) (fun p st => 0 ≤ st ∧ st ≤ 80000 * (p.length : Int)) (fun _ => barF) (fun st => some (IntKind.i64.wrap (st + IntKind.i64.wrap (beat * (s.getD bar.toNat (0, 0)).2)))) (fun k i st => spec_l07Time.l3 NN k s bar beat st i) (s.take bar.toNat) ?_ ?_ 0 (fun b hb => h3 b (List.mem_of_mem_take hb)) ⟨by omega, by simp⟩ (by omega) NN (NN_lt (by omega))).2
  · rw [foldi_foldl] at this
    unfold spec_l07Time.f spec_l07Time.fn spec_l07Time.top
    refine this.trans ?_
    show some (IntKind.i64.wrap (barsL s bar.toNat + IntKind.i64.wrap (beat * (s.getD bar.toNat (0, 0)).2))) = _
    unfold timeL
    rw [w64 (n := beat * (s.getD bar.toNat (0, 0)).2) (by omega) (by omega), w64 (by omega) (by omega)]
  · intro k st _
    have n1 : ¬ ((s.take bar.toNat).length : Int) < bar := by omega
    simp only [spec_l07Time.l3, spec_l07Time.g3, n1, decide_false, Bool.false_eq_true, if_false, b1, b2, and_self, if_true]
  · intro k p b r st hx hbb hI c0 c1 c2 cw g
    have hp : p.length ≤ 20 := by omega
    have hbd := bar_bd hbb
    have w1 := w64 (n := b.1 * b.2) (by omega) (by omega)
    have w2 := w64 (n := st + b.1 * b.2) (by omega) (by omega)
    have n1 : (p.length : Int) < bar := by omega
    have n2 : (p.length : Int) < (s.length : Int) := by omega
    have g2 : ∀ z, s.getD p.length z = b := fun z => by
      have := g z
      rw [List.getD_eq_getElem?_getD, List.getElem?_take, if_pos (by omega), ← List.getD_eq_getElem?_getD] at this
      exact this
    refine ⟨⟨by unfold barF; omega, by unfold barF; simp only [List.length_append, List.length_singleton]; omega⟩, ?_⟩
    simp only [spec_l07Time.l3, spec_l07Time.g3, c0, n1, n2, cw, g2, and_self, and_true, true_and, decide_true, decide_false, if_true, if_false, mid_get, mid_set, mid_getn, mid_setn, bt_mid, Option.bind_some, Bool.not_true, Bool.not_false, Bool.false_eq_true, Bool.true_eq_false, beq_self_eq_true, bne_self_eq_false, Int.toNat_natCast, w1, w2]
    rfl
def liftA (xs : List Art) (c : ByteArray) : Int := (xs.getD (artI xs c).toNat (ByteArray.empty, (0, (0, (0, (0, (0, (0, (0, 0))))))))).2.2.2.1
theorem liftA_bd {xs : List Art} (h : artsB xs = true) {c : ByteArray} (h0 : 0 ≤ artI xs c) : 0 ≤ liftA xs c ∧ liftA xs c ≤ 10000 := by
  have hb := artI_bd xs c
  have hm : xs.getD (artI xs c).toNat (ByteArray.empty, (0, (0, (0, (0, (0, (0, (0, 0)))))))) ∈ xs := by
    rw [List.getD_eq_getElem?_getD, List.getElem?_eq_getElem (by omega)]; exact List.getElem_mem _
  have := (artsB_ok h).2 _ hm
  unfold artB at this
  simp only [Bool.and_eq_true, inB_iff] at this
  exact this.1.1.1.1.1.2
def fireT (x : Show) (c : Cue) : Int := timeL x.1 c.1 c.2.1 - liftA x.2.1 c.2.2.1
def cueB (x : Show) (c : Cue) : Bool := inB c.2.2.2 0 11 && decide (0 ≤ artI x.2.1 c.2.2.1) && beatB x.1 c.1 c.2.1 && decide (0 ≤ fireT x c)
theorem impl_firedAt_f (x : Show) (c : Cue) (h1 : scoreB x.1 = true) (h2 : artsB x.2.1 = true) : impl_firedAt.f x c = some (if 0 ≤ artI x.2.1 c.2.2.1 ∧ beatB x.1 c.1 c.2.1 = true then (if fireT x c > -1 then fireT x c else -1) else -1) := by
  have hl := (artsB_ok h2).1
  have hbd := artI_bd x.2.1 c.2.2.1
  unfold impl_firedAt.f impl_firedAt.fn impl_firedAt.top
  rw [impl_articleOf_f x.2.1 _ (by omega)]
  simp only [Option.bind_some]
  by_cases ha : artI x.2.1 c.2.2.1 < 0
  · rw [if_neg (by rw [decide_eq_true ha]; simp), if_neg (by omega)]
  · rw [if_pos (decide_eq_false ha), (beat_both h1 _ _).1]
    simp only [Option.bind_some]
    rcases Bool.eq_false_or_eq_true (beatB x.1 c.1 c.2.1) with hb | hb
    rotate_left
    · simp [hb]
    · have hbb := beat_bd h1 hb
      have hB := barsL_bd h1 c.1.toNat
      have hL := liftA_bd h2 (show 0 ≤ artI x.2.1 c.2.2.1 by omega)
      have hT : fireT x c = timeL x.1 c.1 c.2.1 - liftA x.2.1 c.2.2.1 := rfl
      have hTT : timeL x.1 c.1 c.2.1 = barsL x.1 c.1.toNat + c.2.1 * (x.1.getD c.1.toNat (0, 0)).2 := rfl
      rw [if_neg (by simp [hb]), if_pos ⟨by omega, hbd⟩, impl_beatTime_f h1 hb, if_pos ⟨by omega, hb⟩]
      show some (if IntKind.i64.wrap (timeL x.1 c.1 c.2.1 - liftA x.2.1 c.2.2.1) > -1 then IntKind.i64.wrap (timeL x.1 c.1 c.2.1 - liftA x.2.1 c.2.2.1) else -1) = _
      rw [w64 (by omega) (by omega)]; rfl
theorem spec_l08Time_f (x : Show) (c : Cue) (h1 : scoreB x.1 = true) (h2 : artsB x.2.1 = true) (ha : 0 ≤ artI x.2.1 c.2.2.1) (hb : beatB x.1 c.1 c.2.1 = true) : spec_l08Time.f x c = some (fireT x c) := by
  have hl := (artsB_ok h2).1
  have hbd := artI_bd x.2.1 c.2.2.1
  have hbb := beat_bd h1 hb
  have hB := barsL_bd h1 c.1.toNat
  have hL := liftA_bd h2 ha
  have hTT : timeL x.1 c.1 c.2.1 = barsL x.1 c.1.toNat + c.2.1 * (x.1.getD c.1.toNat (0, 0)).2 := rfl
  unfold spec_l08Time.f spec_l08Time.fn spec_l08Time.top
  rw [spec_l07Time_f h1 hb, spec_l03Find_f x.2.1 _ (by omega)]
  simp only [Option.bind_some]
  rw [if_pos ⟨ha, hbd⟩]
  show some (IntKind.i64.wrap (timeL x.1 c.1 c.2.1 - liftA x.2.1 c.2.2.1)) = _
  rw [w64 (by omega) (by omega)]; rfl
def showB (x : Show) : Bool := scoreB x.1 && artsB x.2.1 && decide (x.2.2.length ≤ 20) && x.2.2.all (cueB x)
/-- a show's sizes -/
def ShowZ (x : Show) : Prop := x.1.length ≤ 140737488355328 ∧ (x.2.1.length ≤ 140737488355328 ∧ ∀ a ∈ x.2.1, Sz a.1) ∧ x.2.2.length ≤ 140737488355328
theorem impl_IsShow_f (x : Show) (h : ShowZ x) : impl_IsShow.f x = some (showB x) := by
  unfold impl_IsShow.f impl_IsShow.fn impl_IsShow.top showB
  rw [impl_IsScore_f x.1 h.1, impl_AreArticles_f x.2.1 h.2.1.1 h.2.1.2]
  rcases Bool.eq_false_or_eq_true (scoreB x.1) with h1 | h1
  · rcases Bool.eq_false_or_eq_true (artsB x.2.1) with h2 | h2
    · simp only [h1, h2, Option.bind_some, Bool.not_true, Bool.false_eq_true, if_true, Bool.true_and]
      by_cases h20 : (20 : Int) < (x.2.2.length : Int)
      · have : ¬ x.2.2.length ≤ 20 := by omega
        simp [h20, this]
      · have h21 : x.2.2.length ≤ 20 := by omega
        have := all_loop (E := fun _ => True) (cueB x) (fun _ => some true) (fun k xs i => impl_IsShow.l4 NN k xs xs.length i x) ?_ ?_ x.2.2 (fun _ _ => trivial) (by omega) NN (NN_lt (by omega))
        · simp only [h20, h21, decide_false, decide_true, Bool.false_eq_true, if_false, Bool.true_and]
          rw [this]
          cases x.2.2.all (cueB x) <;> rfl
        · intro k p
          simp [impl_IsShow.l4, impl_IsShow.g4]
        · intro k p c r _ c0 c1 cw
          simp only [impl_IsShow.l4, impl_IsShow.g4, c0, c1, cw, and_self, and_true, true_and, decide_true, decide_false, if_true, if_false, mid_get, mid_set, mid_getn, mid_setn, bt_mid, Option.bind_some, Bool.not_true, Bool.not_false, Bool.false_eq_true, Bool.true_eq_false, beq_self_eq_true, bne_self_eq_false, Int.toNat_natCast, impl_within_f, impl_firedAt_f x c h1 h2, cueB]
          rcases Bool.eq_false_or_eq_true (inB c.2.2.2 0 11) with hi | hi
          rotate_left
          · simp [hi]
          by_cases ha : 0 ≤ artI x.2.1 c.2.2.1
          · rcases Bool.eq_false_or_eq_true (beatB x.1 c.1 c.2.1) with hb | hb
            rotate_left
            · simp [hi, hb]
            · by_cases ht : fireT x c > -1
              · have t1 : 0 ≤ fireT x c := by omega
                have t2 : ¬ fireT x c < 0 := by omega
                simp [hi, hb, ha, ht, t1, t2]
              · have t1 : ¬ 0 ≤ fireT x c := by omega
                simp [hi, hb, ha, ht, t1]
          · simp [hi, ha]
    · simp [h1, h2]
  · simp [h1]
theorem spec_IsShow_f (x : Show) (h : ShowZ x) : spec_IsShow.f x = some (showB x) := by
  unfold spec_IsShow.f spec_IsShow.fn spec_IsShow.top showB
  rw [spec_IsScore_f x.1 h.1, spec_AreArticles_f x.2.1 h.2.1.1 h.2.1.2]
  rcases Bool.eq_false_or_eq_true (scoreB x.1) with h1 | h1
  · rcases Bool.eq_false_or_eq_true (artsB x.2.1) with h2 | h2
    · simp only [h1, h2, Option.bind_some, Bool.not_true, Bool.false_eq_true, if_true, Bool.true_and]
      by_cases h20 : (20 : Int) < (x.2.2.length : Int)
      · have : ¬ x.2.2.length ≤ 20 := by omega
        simp [h20, this]
      · have h21 : x.2.2.length ≤ 20 := by omega
        have hxl := h.2.1.1
        have := (fold_fix (E := fun _ => True) (fun p st => st = p.all (cueB x)) (fun _ st c => st && cueB x c) (fun st => some st) (fun k i st => if st = true then spec_IsShow.l4 NN k i x else some false) x.2.2 ?_ ?_ true (fun _ _ => trivial) rfl (by omega) NN (NN_lt (by omega)))
        · simp only [h20, h21, decide_false, decide_true, Bool.false_eq_true, if_false, Bool.true_and]
          have t := this.2
          rw [if_pos rfl, this.1] at t
          exact t
        · intro k st _
          cases st
          · rfl
          · simp [spec_IsShow.l4, spec_IsShow.g4]
        · intro k p c r st hx _ hI c0 c1 c2 cw g
          refine ⟨by rw [hI, List.all_append]; simp, ?_⟩
          cases st
          · rfl
          · simp only [if_true, Bool.true_and, spec_IsShow.l4, spec_IsShow.g4, c0, c1, cw, g, and_self, and_true, true_and, decide_true, decide_false, if_true, if_false, mid_get, mid_set, mid_getn, mid_setn, bt_mid, Option.bind_some, Bool.not_true, Bool.not_false, Bool.false_eq_true, Bool.true_eq_false, beq_self_eq_true, bne_self_eq_false, Int.toNat_natCast, (beat_both h1 _ _).2, spec_l03Find_f x.2.1 _ hxl, spec_l01In_f, cueB]
            rcases Bool.eq_false_or_eq_true (beatB x.1 c.1 c.2.1) with hb | hb
            rotate_left
            · simp [hb]
            · by_cases ha : 0 ≤ artI x.2.1 c.2.2.1
              · have ha' : ¬ artI x.2.1 c.2.2.1 < 0 := by omega
                rcases Bool.eq_false_or_eq_true (inB c.2.2.2 0 11) with hi | hi
                rotate_left
                · simp [hb, hi, ha']
                · simp only [hb, hi, ha, ha', decide_true, decide_false, if_true, Bool.not_true, Bool.and_true, Bool.true_and, Option.bind_some, spec_l08Time_f x c h1 h2 ha hb]
                  by_cases ht : fireT x c < 0
                  · have : ¬ 0 ≤ fireT x c := by omega
                    simp [ht, this]
                  · have : 0 ≤ fireT x c := by omega
                    simp [ht, this]
              · have ha' : artI x.2.1 c.2.2.1 < 0 := by omega
                simp [hb, ha, ha']
    · simp [h1, h2]
  · simp [h1]
end Go.Pl

namespace Go.Pl
open Go.Ev
set_option linter.unusedVariables false
set_option linter.unusedSimpArgs false
theorem less_irr : ∀ x : List UInt8, Op.bytesLess x x = false := by
  intro x
  induction x with
  | nil => rfl
  | cons a x ih => simp [Op.bytesLess, ih]
theorem less_trans : ∀ x y z : List UInt8, Op.bytesLess x y = true → Op.bytesLess y z = true → Op.bytesLess x z = true := by
  intro x
  induction x with
  | nil =>
    intro y z h1 h2
    cases z with
    | nil => cases y <;> simp [Op.bytesLess] at h2
    | cons c z => rfl
  | cons a x ih =>
    intro y z h1 h2
    cases y with
    | nil => simp [Op.bytesLess] at h1
    | cons b y =>
      cases z with
      | nil => simp [Op.bytesLess] at h2
      | cons c z =>
        simp only [Op.bytesLess, Bool.or_eq_true, Bool.and_eq_true, decide_eq_true_eq, beq_iff_eq, UInt8.lt_iff_toNat_lt] at h1 h2 ⊢
        rcases h1 with h1 | ⟨rfl, h1⟩
        · rcases h2 with h2 | ⟨rfl, h2⟩
          · left; omega
          · left; exact h1
        · rcases h2 with h2 | ⟨rfl, h2⟩
          · left; exact h2
          · right; exact ⟨rfl, ih y z h1 h2⟩
theorem artsF_pair : ∀ (r : List Art) (x : Art), artsF x r = true → (x :: r).Pairwise fun a b => ltS a.1 b.1 = true := by
  intro r
  induction r with
  | nil => intro x _; simp
  | cons a r ih =>
    intro x h
    simp only [artsF, Bool.and_eq_true] at h
    have i := ih a h.2
    refine List.pairwise_cons.2 ⟨fun b hb => ?_, i⟩
    rcases List.mem_cons.1 hb with rfl | hb
    · exact h.1.2
    · exact less_trans _ _ _ h.1.2 ((List.pairwise_cons.1 i).1 b hb)
theorem arts_inj {xs : List Art} (h : artsB xs = true) {i j : Nat} (hi : i < xs.length) (hj : j < xs.length) (he : (xs[i]).1 = (xs[j]).1) : i = j := by
  have hp : xs.Pairwise fun a b => ltS a.1 b.1 = true := by
    unfold artsB at h
    rw [Bool.and_eq_true] at h
    cases xs with
    | nil => simp
    | cons a r =>
      have h2 := h.2
      simp only [artsL, Bool.and_eq_true] at h2
      exact artsF_pair r a h2.2
  rw [List.pairwise_iff_getElem] at hp
  rcases Nat.lt_trichotomy i j with hlt | heq | hgt
  · have := hp i j hi hj hlt
    rw [he] at this
    unfold ltS at this
    rw [less_irr] at this; cases this
  · exact heq
  · have := hp j i hj hi hgt
    rw [he] at this
    unfold ltS at this
    rw [less_irr] at this; cases this
theorem artI_at {xs : List Art} {c : ByteArray} (h : 0 ≤ artI xs c) : ∃ hl : (artI xs c).toNat < xs.length, (xs[(artI xs c).toNat]).1 = c := by
  unfold artI at h ⊢
  cases hf : firstOf (fun l : Art => decide (l.1 = c)) 0 xs with
  | none => rw [hf] at h; simp at h
  | some y =>
    obtain ⟨h1, h2, h3, h4⟩ := firstOf_spec _ xs 0 y.1 y.2 hf
    simp only [Option.elim_some, Int.toNat_natCast]
    rw [Nat.sub_zero] at h3
    refine ⟨by omega, ?_⟩
    have := (List.getElem?_eq_some_iff.1 h3).2
    rw [this]
    simpa using h4
def cueA (x : Show) (f : Int) : ByteArray := (x.2.2.getD f.toNat (0, (0, (ByteArray.empty, 0)))).2.2.1
def cntN (x : Show) (fired : List Int) (c : ByteArray) : Nat := fired.countP fun f => decide (cueA x f = c)
theorem cntN_snoc (x : Show) (p : List Int) (f : Int) (c : ByteArray) : cntN x (p ++ [f]) c = cntN x p c + if cueA x f = c then 1 else 0 := by
  unfold cntN
  rw [List.countP_append]
  by_cases h : cueA x f = c <;> simp [h]
theorem cntN_le (x : Show) (p : List Int) (c : ByteArray) : cntN x p c ≤ p.length := List.countP_le_length
abbrev Bk : Type := Int × ByteArray × Int
def bookF (x : Show) (fired : List Int) (out : List Bk) (a : Art) : List Bk := if 0 < cntN x fired a.1 then out ++ [(1, a.1, (cntN x fired a.1 : Int))] else out
def bookL (x : Show) (fired : List Int) (list : List Bk) : List Bk := x.2.1.foldl (bookF x fired) list
def limR (out : List Bk) : List Bk × Int := if 60 < out.length then ([], 3) else if booksB out = true then (out, 0) else ([], 5)
def firedB (x : Show) (fired : List Int) : Bool := fired.all (inB · 0 ((x.2.2.length : Int) - 1)) && risB fired
def bookS (list : List Bk) (x : Show) (fired : List Int) : List Bk × Int :=
  if booksB list = true then (if showB x = true then (if firedB x fired = true then limR (bookL x fired list) else ([], 2)) else ([], 1)) else ([], 1)
theorem spec_AreBookings_z (xs : List Bk) (hl : xs.length ≤ 1000000) (hz : ∀ b ∈ xs, Sz b.2.1) : spec_AreBookings.f xs = some (booksB xs) := by
  have := spec_AreBookings_loop xs [] NN (by simp) hz (by simpa using hl) (NN_lt (by omega))
  unfold spec_AreBookings.f spec_AreBookings.fn spec_AreBookings.top booksB
  rw [Bool.and_comm]
  simpa using this
theorem impl_AreBookings_z (xs : List Bk) (hl : xs.length ≤ 1000000) (hz : ∀ b ∈ xs, Sz b.2.1) : impl_AreBookings.f xs = some (booksB xs) := by
  have := impl_AreBookings_loop xs [] NN (by simp) hz (by simpa using hl) (NN_lt (by omega))
  unfold impl_AreBookings.f impl_AreBookings.fn impl_AreBookings.top booksB
  simp only [List.nil_append, List.length_nil] at this
  by_cases h1 : (60 : Int) < xs.length
  · have h2 : ¬ xs.length ≤ 60 := by omega
    simp [h1, h2]
  · have h2 : xs.length ≤ 60 := by omega
    simp only [h1, h2, decide_false, Bool.false_eq_true, if_false, decide_true, Bool.true_and]
    exact this
theorem showB_iff {x : Show} (h : showB x = true) : scoreB x.1 = true ∧ artsB x.2.1 = true ∧ x.2.2.length ≤ 20 ∧ ∀ c ∈ x.2.2, 0 ≤ artI x.2.1 c.2.2.1 := by
  unfold showB at h
  simp only [Bool.and_eq_true, decide_eq_true_eq] at h
  refine ⟨h.1.1.1, h.1.1.2, h.1.2, fun c hc => ?_⟩
  have := List.all_eq_true.1 h.2 c hc
  unfold cueB at this
  simp only [Bool.and_eq_true, decide_eq_true_eq] at this
  exact this.1.1.2
theorem cue_art {x : Show} (h : showB x = true) {f : Int} (h0 : 0 ≤ f) (h1 : f < (x.2.2.length : Int)) : 0 ≤ artI x.2.1 (cueA x f) := by
  refine (showB_iff h).2.2.2 _ ?_
  rw [List.getD_eq_getElem?_getD, List.getElem?_eq_getElem (by omega)]; exact List.getElem_mem _
theorem bookF_len (x : Show) (fired : List Int) (out : List Bk) (a : Art) : (bookF x fired out a).length ≤ out.length + 1 := by unfold bookF; split <;> simp
theorem bookF_sz (x : Show) (fired : List Int) {out : List Bk} {a : Art} (h : ∀ b ∈ out, Sz b.2.1) (ha : Sz a.1) : ∀ b ∈ bookF x fired out a, Sz b.2.1 := by
  intro b hb
  unfold bookF at hb
  split at hb
  · rcases List.mem_append.1 hb with h1 | h1
    · exact h b h1
    · rw [List.mem_singleton.1 h1]; exact ha
  · exact h b hb
theorem room32' (out : List Bk) (b : Bk) (h : out.length ≤ 2000000) : out.length + [b].length < room 32 := by rw [room32]; simp; omega
theorem spec_in (x : Show) (fired : List Int) (L : List Int → Int → Show → List Bk → Option (List Bk × Int)) (k : Nat) (a : Art) (hk : k < x.2.1.length) (hka : k ≤ 1000) (ha : ∀ z, x.2.1.getD k z = a) (out : List Bk) (hf : ∀ f ∈ fired, 0 ≤ f ∧ f < (x.2.2.length : Int)) (hl : fired.length ≤ 1000000) (ho : out.length ≤ 2000000) :
    spec_BookShow.l11 NN L NN fired k 0 0 x out = L fired ((k : Int) + 1) x (bookF x fired out a) := by
  have := fold_fix (E := fun f => 0 ≤ f ∧ f < (x.2.2.length : Int)) (fun p st => st = (cntN x p a.1 : Int)) (fun _ st f => if cueA x f = a.1 then st + 1 else st) (fun st => if 0 < st then L fired ((k : Int) + 1) x (out ++ [(1, a.1, st)]) else L fired ((k : Int) + 1) x out) (fun m i st => spec_BookShow.l11 NN L m fired k st i x out) fired ?_ ?_ 0 hf rfl (by omega) NN (NN_lt (by omega))
  · refine this.2.trans ?_
    rw [this.1]
    unfold bookF
    by_cases h : 0 < cntN x fired a.1
    · rw [if_pos (by omega), if_pos h]
    · rw [if_neg (by omega), if_neg h]
  · intro m st hst
    have w := w64 (n := (k : Int) + 1) (by omega) (by omega)
    have c0 : (0 : Int) ≤ (k : Int) := by omega
    have c1 : (k : Int) < (x.2.1.length : Int) := by omega
    simp only [spec_BookShow.l11, spec_BookShow.g11, Int.lt_irrefl, decide_false, Bool.false_eq_true, if_false, w, c0, c1, and_self, if_true, Int.toNat_natCast, ha, room32' out _ ho]
    by_cases h : 0 < st
    · simp only [h, decide_true, if_true]
      exact if_pos (by rw [room32]; simp; omega)
    · simp [h]
  · intro m p f r st hx hfr hst c0 c1 c2 cw g
    have c3 : (0 : Int) ≤ (k : Int) := by omega
    have c4 : (k : Int) < (x.2.1.length : Int) := by omega
    have hle := cntN_le x p a.1
    have hp : p.length ≤ 1000000 := by omega
    have w := w64 (n := st + 1) (by omega) (by omega)
    refine ⟨by rw [hst, cntN_snoc]; split <;> simp, ?_⟩
    have e : (x.2.2.getD f.toNat (0, (0, (ByteArray.empty, 0)))).2.2.1 = cueA x f := rfl
    simp only [spec_BookShow.l11, spec_BookShow.g11, c0, c1, c3, c4, cw, g, and_self, and_true, true_and, decide_true, decide_false, if_true, if_false, mid_get, mid_set, mid_getn, mid_setn, bt_mid, Option.bind_some, Bool.not_true, Bool.not_false, Bool.false_eq_true, Bool.true_eq_false, beq_self_eq_true, bne_self_eq_false, Int.toNat_natCast, hfr.1, hfr.2, Int.toNat_natCast, ha, e, ba_beq, w]
    by_cases h : cueA x f = a.1
    · simp [h]
    · simp [h]
theorem spec_out (x : Show) (fired : List Int) (list : List Bk) (hx : artsB x.2.1 = true) (hax : ∀ a ∈ x.2.1, Sz a.1) (hf : ∀ f ∈ fired, 0 ≤ f ∧ f < (x.2.2.length : Int)) (hl : fired.length ≤ 1000000) (ho : list.length ≤ 900000) (hz : ∀ b ∈ list, Sz b.2.1) :
    spec_BookShow.l7 NN NN fired 0 x list = some (limR (bookL x fired list)) := by
  have h12 := (artsB_ok hx).1
  have := fold_fix (E := fun a : Art => Sz a.1) (fun p st => st.length ≤ list.length + p.length ∧ ∀ b ∈ st, Sz b.2.1) (fun _ => bookF x fired) (fun st => some (limR st)) (fun m i st => spec_BookShow.l7 NN m fired i x st) x.2.1 ?_ ?_ list hax ⟨by simp, hz⟩ (by omega) NN (NN_lt (by omega))
  · rw [foldi_foldl] at this
    exact this.2
  · intro m st hst
    have n1 := hst.1
    simp only [spec_BookShow.l7, spec_BookShow.g7, Int.lt_irrefl, decide_false, Bool.false_eq_true, if_false]
    unfold spec_l32Limits.f spec_l32Limits.fn spec_l32Limits.top limR
    rw [spec_AreBookings_z st (by omega) hst.2]
    by_cases h60 : 60 < st.length
    · have : (60 : Int) < (st.length : Int) := by omega
      simp [h60, this]
    · have : ¬ (60 : Int) < (st.length : Int) := by omega
      cases hb : booksB st <;> simp [h60, this]
  · intro m p a r st hxs ha hI c0 c1 c2 cw g
    have hp : p.length ≤ 12 := by omega
    have hI1 := hI.1
    have hlen := bookF_len x fired st a
    refine ⟨⟨by simp only [List.length_append, List.length_singleton]; omega, bookF_sz x fired hI.2 ha⟩, ?_⟩
    simp only [spec_BookShow.l7, spec_BookShow.g7, c1, decide_true, if_true]
    exact spec_in x fired _ p.length a (by omega) (by omega) g st hf hl (by omega)
theorem spec_BookShow_f (list : List Bk) (x : Show) (fired : List Int) (hl : list.length ≤ 900000) (hz : ∀ b ∈ list, Sz b.2.1) (hx : ShowZ x) (hf : fired.length ≤ 1000000) : spec_BookShow.f list x fired = some (bookS list x fired) := by
  unfold spec_BookShow.f spec_BookShow.fn spec_BookShow.top bookS
  rw [spec_AreBookings_z list (by omega) hz, spec_IsShow_f x hx]
  cases hb : booksB list
  · rfl
  cases hs : showB x
  · rfl
  have hsi := showB_iff hs
  simp only [Option.bind_some, Bool.not_true, Bool.false_eq_true, if_true, if_false]
  rw [spec_l01Rises_f fired (x.2.2.length : Int) (wf64.2 (by omega)) (by omega)]
  show (if (!firedB x fired) = true then _ else _) = _
  cases hfb : firedB x fired
  · rfl
  · unfold firedB at hfb
    rw [Bool.and_eq_true] at hfb
    have hin : ∀ f ∈ fired, 0 ≤ f ∧ f < (x.2.2.length : Int) := fun f hf => by
      have := inB_iff.1 (List.all_eq_true.1 hfb.1 f hf)
      omega
    simp only [Bool.not_true, Bool.false_eq_true, if_false, if_true]
    rw [if_pos (by rw [room32]; simp; omega), List.nil_append]
    exact spec_out x fired list hsi.2.1 hx.2.1.2 hin hf hl hz
/-- the counts behind some fired cues -/
def cntsL (x : Show) (p : List Int) : List Int := x.2.1.map fun a => (cntN x p a.1 : Int)
theorem cnts_upd {x : Show} (h : artsB x.2.1 = true) (p : List Int) (f : Int) (ha : 0 ≤ artI x.2.1 (cueA x f)) (hp : p.length ≤ 1000000) :
    (cntsL x p).set (artI x.2.1 (cueA x f)).toNat (IntKind.i64.wrap ((cntsL x p).getD (artI x.2.1 (cueA x f)).toNat 0 + 1)) = cntsL x (p ++ [f]) := by
  obtain ⟨hl, he⟩ := artI_at ha
  have hg : (cntsL x p).getD (artI x.2.1 (cueA x f)).toNat 0 = (cntN x p (cueA x f) : Int) := by
    unfold cntsL
    rw [List.getD_eq_getElem?_getD, List.getElem?_map, List.getElem?_eq_getElem hl]
    simp only [Option.map_some, Option.getD_some, he]
  have hle := cntN_le x p (cueA x f)
  rw [hg, w64 (by omega) (by omega)]
  apply List.ext_getElem
  · simp [cntsL]
  · intro i h1 h2
    have hi : i < x.2.1.length := by simpa [cntsL] using h2
    rw [List.getElem_set]
    unfold cntsL
    simp only [List.getElem_map, cntN_snoc]
    by_cases e : (artI x.2.1 (cueA x f)).toNat = i
    · subst e
      rw [if_pos rfl, he]
      simp
    · rw [if_neg e]
      have : ¬ cueA x f = (x.2.1[i]).1 := fun e2 => e (arts_inj h hl hi (by rw [he, e2]))
      rw [if_neg this]; simp
theorem impl_out (x : Show) (fired : List Int) (list : List Bk) (hx : artsB x.2.1 = true) (hax : ∀ a ∈ x.2.1, Sz a.1) (ho : list.length ≤ 900000) (hz : ∀ b ∈ list, Sz b.2.1) :
    impl_BookShow.l13 NN NN (x.2.1.length : Int) 0 x list (cntsL x fired) = some (limR (bookL x fired list)) := by
  have h12 := (artsB_ok hx).1
  have hcl : (cntsL x fired).length = x.2.1.length := by simp [cntsL]
  have := fold_fix (E := fun a : Art => Sz a.1) (fun p st => st.length ≤ list.length + p.length ∧ ∀ b ∈ st, Sz b.2.1) (fun _ => bookF x fired) (fun st => some (limR st)) (fun m i st => impl_BookShow.l13 NN m (x.2.1.length : Int) i x st (cntsL x fired)) x.2.1 ?_ ?_ list hax ⟨by simp, hz⟩ (by omega) NN (NN_lt (by omega))
  · rw [foldi_foldl] at this
    exact this.2
  · intro m st hst
    have n1 := hst.1
    simp only [impl_BookShow.l13, impl_BookShow.g13, Int.lt_irrefl, decide_false, Bool.false_eq_true, if_false]
    unfold limR
    rw [impl_AreBookings_z st (by omega) hst.2]
    by_cases h60 : 60 < st.length
    · have : (60 : Int) < (st.length : Int) := by omega
      simp [h60, this]
    · have : ¬ (60 : Int) < (st.length : Int) := by omega
      cases hb : booksB st <;> simp [h60, this]
  · intro m p a r st hxs ha hI c0 c1 c2 cw g
    have hp : p.length ≤ 12 := by omega
    have hI1 := hI.1
    have hlen := bookF_len x fired st a
    refine ⟨⟨by simp only [List.length_append, List.length_singleton]; omega, bookF_sz x fired hI.2 ha⟩, ?_⟩
    have c3 : (p.length : Int) < ((cntsL x fired).length : Int) := by omega
    have hc : ∀ z, (cntsL x fired).getD p.length z = (cntN x fired a.1 : Int) := fun z => by
      have hpl : p.length < x.2.1.length := by omega
      have hge := g (ByteArray.empty, (0, (0, (0, (0, (0, (0, (0, 0))))))))
      rw [List.getD_eq_getElem?_getD, List.getElem?_eq_getElem hpl, Option.getD_some] at hge
      unfold cntsL
      rw [List.getD_eq_getElem?_getD, List.getElem?_map, List.getElem?_eq_getElem hpl]
      simp only [Option.map_some, Option.getD_some, hge]
    simp only [impl_BookShow.l13, impl_BookShow.g13, c0, c1, c3, cw, and_self, and_true, true_and, decide_true, decide_false, if_true, if_false, mid_get, mid_set, mid_getn, mid_setn, bt_mid, Option.bind_some, Bool.not_true, Bool.not_false, Bool.false_eq_true, Bool.true_eq_false, beq_self_eq_true, bne_self_eq_false, Int.toNat_natCast, Int.toNat_natCast, hc, g]
    unfold bookF
    by_cases h : 0 < cntN x fired a.1
    · have h' : (0 : Int) < (cntN x fired a.1 : Int) := by omega
      simp only [h, h', decide_true, if_true]
      exact if_pos (by rw [room32]; simp; omega)
    · have h' : ¬ (0 : Int) < (cntN x fired a.1 : Int) := by omega
      simp only [h, h', decide_false, Bool.false_eq_true, if_false]
theorem impl_chk (x : Show) (hx : showB x = true) (list : List Bk) (ho : list.length ≤ 900000) : ∀ (r p : List Int) (y : Int) (k : Nat), p.length + r.length + 1 ≤ 1000000 → r.length < k →
    impl_BookShow.l5 NN k list (p ++ [y] ++ r) (p ++ [y] ++ r) (p ++ [y] ++ r).length ((p.length : Int) + 1) x (cntsL x (p ++ [y])) = if (r.all (inB · 0 ((x.2.2.length : Int) - 1)) && risF y r) = true then impl_BookShow.l13 NN NN (x.2.1.length : Int) 0 x list (cntsL x (p ++ [y] ++ r)) else some ([], 2) := by
  have hsi := showB_iff hx
  have hxl := (artsB_ok hsi.2.1).1
  intro r
  induction r with
  | nil =>
    intro p y k _ hk
    obtain ⟨k, rfl⟩ : ∃ j, k = j + 1 := ⟨k - 1, by omega⟩
    have n1 : ¬ (p.length : Int) + 1 < ((p ++ [y]).length : Int) := by simp
    rw [List.append_nil]
    have hcl : ((cntsL x (p ++ [y])).length : Int) = (x.2.1.length : Int) := by simp [cntsL]
    simp only [impl_BookShow.l5, impl_BookShow.g5, n1, decide_false, Bool.false_eq_true, if_false, hcl, risF, List.all_nil, Bool.and_self, if_true, List.nil_append, List.append_nil]
    rw [if_pos (by rw [room32]; simp; omega)]
  | cons f r ih =>
    intro p y k hb hk
    simp only [List.length_cons] at hb hk
    obtain ⟨k, rfl⟩ : ∃ j, k = j + 1 := ⟨k - 1, by omega⟩
    have hl : ((p ++ [y] ++ f :: r).length : Int) = p.length + r.length + 2 := by simp; omega
    have w1 := w64 (n := (p.length : Int) + 1 - 1) (by omega) (by omega)
    have w2 := w64 (n := (p.length : Int) + 1 + 1) (by omega) (by omega)
    have c1 : (p.length : Int) + 1 < ((p ++ [y] ++ f :: r).length : Int) := by omega
    have c2 : (0 : Int) ≤ (p.length : Int) + 1 - 1 := by omega
    have c3 : (p.length : Int) + 1 - 1 < ((p ++ [y] ++ f :: r).length : Int) := by omega
    have c4 : (0 : Int) ≤ (p.length : Int) + 1 := by omega
    have c5 : (0 : Int) < (p.length : Int) + 1 := by omega
    have g1 : ∀ z, (p ++ [y] ++ f :: r).getD ((p.length : Int) + 1).toNat z = f := fun z => by
      rw [show ((p.length : Int) + 1).toNat = (p ++ [y]).length by simp, mid_getn]
    have g2 : ∀ z, (p ++ [y] ++ f :: r).getD ((p.length : Int) + 1 - 1).toNat z = y := fun z => by
      rw [show ((p.length : Int) + 1 - 1).toNat = p.length by omega, snoc_getl']
    have i1 := ih (p ++ [y]) f k (by simp; omega) (by omega)
    have e1 : (((p ++ [y]).length : Nat) : Int) + 1 = (p.length : Int) + 1 + 1 := by simp
    have e2 : p ++ [y] ++ [f] ++ r = p ++ [y] ++ f :: r := by simp
    rw [e1, e2] at i1
    have eA : ∀ f : Int, (x.2.2.getD f.toNat (0, (0, (ByteArray.empty, 0)))).2.2.1 = cueA x f := fun _ => rfl
    simp only [impl_BookShow.l5, impl_BookShow.g5, w1, w2, c1, c2, c3, c4, c5, g1, g2, and_self, decide_true, if_true, Option.bind_some, impl_isIndex_f f (n := (x.2.2.length : Int)) (by omega) (by omega), eA, List.all_cons, risF]
    rcases Bool.eq_false_or_eq_true (inB f 0 ((x.2.2.length : Int) - 1)) with hf | hf
    · have hff := inB_iff.1 hf
      by_cases hle : f ≤ y
      · have : ¬ y < f := by omega
        simp [hf, hle, this]
      · have hlt : y < f := by omega
        have ha := cue_art hx (f := f) (by omega) (by omega)
        have hbd := artI_bd x.2.1 (cueA x f)
        have hcl : ((cntsL x (p ++ [y])).length : Int) = (x.2.1.length : Int) := by simp [cntsL]
        have hu := cnts_upd hsi.2.1 (p ++ [y]) f ha (by simp; omega)
        simp only [hf, hle, hlt, hff.1, show f < (x.2.2.length : Int) from by omega, decide_false, decide_true, Bool.not_true, Bool.true_and, Bool.false_eq_true, if_true, if_false, and_self, impl_articleOf_f x.2.1 _ (show x.2.1.length ≤ 140737488355328 by omega), Option.bind_some, ha, hcl, hbd, hu]
        exact i1
    · simp [hf]
theorem impl_chk0 (x : Show) (hs : showB x = true) (list : List Bk) (hl : list.length ≤ 900000) (hz : ∀ b ∈ list, Sz b.2.1) (hx : ShowZ x) (fired : List Int) (hf : fired.length ≤ 1000000) :
    impl_BookShow.l5 NN NN list fired fired (fired.length : Int) 0 x (cntsL x []) = some (if firedB x fired = true then limR (bookL x fired list) else ([], 2)) := by
  have hsi := showB_iff hs
  have hxl := (artsB_ok hsi.2.1).1
  obtain ⟨k, hk⟩ : ∃ j, NN = j + 1 := ⟨NN - 1, by have := NNb; omega⟩
  have hkb : 1000000000000000 < k := by rw [NN_eq] at hk; omega
  rw [show impl_BookShow.l5 NN NN = impl_BookShow.l5 NN (k + 1) by rw [← hk]]
  have hcl : ((cntsL x []).length : Int) = (x.2.1.length : Int) := by simp [cntsL]
  cases fired with
  | nil =>
    have n1 : ¬ (0 : Int) < (([] : List Int).length : Int) := by simp
    simp only [impl_BookShow.l5, impl_BookShow.g5, n1, decide_false, Bool.false_eq_true, if_false, hcl, List.nil_append]
    rw [if_pos (by rw [room32]; simp; omega), impl_out x [] list hsi.2.1 hx.2.1.2 hl hz]
    simp [firedB, risB]
  | cons f r =>
    simp only [List.length_cons] at hf
    have i1 := impl_chk x hs list hl r [] f k (by simp; omega) (by omega)
    simp only [List.nil_append, List.length_nil] at i1
    have n1 : (0 : Int) < ((f :: r).length : Int) := by simp only [List.length_cons]; omega
    have w2 := w64 (n := (0 : Int) + 1) (by omega) (by omega)
    have g1 : ∀ z, (f :: r).getD (0 : Int).toNat z = f := fun z => rfl
    have eA : ∀ f : Int, (x.2.2.getD f.toNat (0, (0, (ByteArray.empty, 0)))).2.2.1 = cueA x f := fun _ => rfl
    simp only [impl_BookShow.l5, impl_BookShow.g5, n1, w2, g1, Int.le_refl, Int.lt_irrefl, and_self, decide_true, decide_false, Bool.false_eq_true, if_true, if_false, Option.bind_some, impl_isIndex_f f (n := (x.2.2.length : Int)) (by omega) (by omega), eA]
    have hfb : firedB x (f :: r) = (inB f 0 ((x.2.2.length : Int) - 1) && (r.all (inB · 0 ((x.2.2.length : Int) - 1)) && risF f r)) := by
      unfold firedB
      rw [List.all_cons, risB_cons, Bool.and_assoc]
    rw [hfb]
    rcases Bool.eq_false_or_eq_true (inB f 0 ((x.2.2.length : Int) - 1)) with hfi | hfi
    · have hff := inB_iff.1 hfi
      have ha := cue_art hs (f := f) (by omega) (by omega)
      have hbd := artI_bd x.2.1 (cueA x f)
      have hu := cnts_upd hsi.2.1 [] f ha (by simp)
      rw [List.nil_append] at hu
      simp only [hfi, hff.1, show f < (x.2.2.length : Int) from by omega, Bool.not_true, Bool.true_and, if_true, and_self, impl_articleOf_f x.2.1 _ (show x.2.1.length ≤ 140737488355328 by omega), Option.bind_some, ha, hcl, hbd, hu]
      have e0 : ((0 : Nat) : Int) = 0 := rfl
      rw [show [f] ++ r = f :: r from rfl, e0] at i1
      rw [i1, impl_out x (f :: r) list hsi.2.1 hx.2.1.2 hl hz]
      split <;> rfl
    · simp [hfi]
theorem cnts_nil (x : Show) : List.replicate (x.2.1.length : Int).toNat (0 : Int) = cntsL x [] := by
  unfold cntsL cntN
  rw [Int.toNat_natCast]
  apply List.ext_getElem
  · simp
  · intro i h1 h2; simp
theorem impl_BookShow_f (list : List Bk) (x : Show) (fired : List Int) (hl : list.length ≤ 900000) (hz : ∀ b ∈ list, Sz b.2.1) (hx : ShowZ x) (hf : fired.length ≤ 1000000) : impl_BookShow.f list x fired = some (bookS list x fired) := by
  unfold impl_BookShow.f impl_BookShow.fn impl_BookShow.top bookS
  rw [impl_AreBookings_z list (by omega) hz, impl_IsShow_f x hx]
  rcases Bool.eq_false_or_eq_true (booksB list) with hb | hb
  rotate_left
  · simp [hb]
  rcases Bool.eq_false_or_eq_true (showB x) with hs | hs
  rotate_left
  · simp [hb, hs]
  have hsi := showB_iff hs
  have hxl := (artsB_ok hsi.2.1).1
  have hr : (x.2.1.length : Int) < room 8 := by rw [room8]; omega
  have h0 : (0 : Int) ≤ (x.2.1.length : Int) := by omega
  rw [hb, hs, Option.bind_some, if_pos (show (!true) = false from rfl), Option.bind_some, if_neg (show ¬ (!true) = true by simp), if_pos ⟨h0, hr, rfl⟩, cnts_nil, if_pos rfl, if_pos rfl]
  exact impl_chk0 x hs list hl hz hx fired hf
end Go.Pl

namespace Go.Pl
open Go.Ev
set_option linter.unusedVariables false
set_option linter.unusedSimpArgs false
theorem show_z {x : Show} (h : OkShow x) : ShowZ x := ⟨Nat.le_trans h.1.1 (by omega), ⟨Nat.le_trans h.2.1.1 (by omega), fun a ha => Nat.le_trans (h.2.1.2 a ha).1 (by omega)⟩, Nat.le_trans h.2.2.1 (by omega)⟩
theorem BookShow_both (list : List Bk) (x : Show) (fired : List Int) (hl : Lm OkBooking list) (hx : OkShow x) (hf : fired.length ≤ 1000000) : spec_BookShow.f list x fired = some (bookS list x fired) ∧ impl_BookShow.f list x fired = some (bookS list x fired) := by
  have hz : ∀ b ∈ list, Sz b.2.1 := fun b hb => Nat.le_trans (hl.2 b hb).2.1 (by omega)
  have hxz := show_z hx
  rcases Bool.eq_false_or_eq_true (booksB list) with hb | hb
  · have := (booksB_val hb).2
    exact ⟨spec_BookShow_f list x fired (by omega) hz hxz hf, impl_BookShow_f list x fired (by omega) hz hxz hf⟩
  · have hll := hl.1
    unfold spec_BookShow.f spec_BookShow.fn spec_BookShow.top impl_BookShow.f impl_BookShow.fn impl_BookShow.top bookS
    rw [spec_AreBookings_z list hll hz, impl_AreBookings_z list hll hz, hb]
    exact ⟨rfl, rfl⟩
theorem bookL_ok (x : Show) (hx : OkShow x) (fired : List Int) (hf : fired.length ≤ 1000000) : ∀ (aas : List Art) (list : List Bk), (∀ a ∈ aas, OkArticle a) → (∀ b ∈ list, OkBooking b) → (aas.foldl (bookF x fired) list).length ≤ list.length + aas.length ∧ ∀ b ∈ aas.foldl (bookF x fired) list, OkBooking b := by
  intro aas
  induction aas with
  | nil => intro list _ h; exact ⟨by simp, h⟩
  | cons a r ih =>
    intro list ha h
    rw [List.foldl_cons]
    have h1 := bookF_len x fired list a
    have hc := cntN_le x fired a.1
    have h2 : ∀ b ∈ bookF x fired list a, OkBooking b := fun b hb => by
      unfold bookF at hb
      split at hb
      · rcases List.mem_append.1 hb with h3 | h3
        · exact h b h3
        · rw [List.mem_singleton.1 h3]
          exact ⟨wf64.2 (by simp only; omega), (ha a (by simp)).1, wf64.2 (by simp only; omega)⟩
      · exact h b hb
    obtain ⟨k1, k2⟩ := ih (bookF x fired list a) (fun y hy => ha y (by simp [hy])) h2
    exact ⟨by simp only [List.length_cons]; omega, k2⟩
theorem BookShow_core (list : List Bk) (x : Show) (fired : List Int) (hl : Lm OkBooking list) (hx : OkShow x) (hf : Lm (Rg .i64) fired) : ∃ w, spec_BookShow.f list x fired = some w ∧ impl_BookShow.f list x fired = some w ∧ Lm OkBooking w.1 := by
  obtain ⟨e1, e2⟩ := BookShow_both list x fired hl hx hf.1
  refine ⟨_, e1, e2, ?_⟩
  have hz : Lm OkBooking ([] : List Bk) := ⟨by simp, by simp⟩
  unfold bookS
  split
  · split
    · split
      · unfold limR
        split
        · exact hz
        · split
          · rename_i h1 h2
            exact ⟨by simp only; omega, (bookL_ok x hx fired hf.1 x.2.1 list hx.2.1.2 hl.2).2⟩
          · exact hz
      · exact hz
    · exact hz
  · exact hz
end Go.Pl

namespace Go.Pl
open Go.Ev
set_option linter.unusedVariables false
set_option linter.unusedSimpArgs false
def timR (x : Show) : List Int × Int := if showB x = true then (x.2.2.map (fireT x), 0) else ([], 1)
theorem cueB_iff {x : Show} {c : Cue} (h : cueB x c = true) : 0 ≤ artI x.2.1 c.2.2.1 ∧ beatB x.1 c.1 c.2.1 = true ∧ 0 ≤ fireT x c := by
  unfold cueB at h
  simp only [Bool.and_eq_true, decide_eq_true_eq] at h
  exact ⟨h.1.1.2, h.1.2, h.2⟩
theorem showB_all {x : Show} (h : showB x = true) : scoreB x.1 = true ∧ artsB x.2.1 = true ∧ x.2.2.length ≤ 20 ∧ ∀ c ∈ x.2.2, cueB x c = true := by
  unfold showB at h
  simp only [Bool.and_eq_true, decide_eq_true_eq] at h
  exact ⟨h.1.1.1, h.1.1.2, h.1.2, fun c hc => List.all_eq_true.1 h.2 c hc⟩
theorem room8a (st : List Int) (x : Int) (h : st.length ≤ 1000000) : st.length + [x].length < room 8 := by rw [room8]; simp; omega
theorem FireTimes_both (x : Show) (hz : ShowZ x) : impl_FireTimes.f x = some (timR x) ∧ spec_FireTimes.f x = some (timR x) := by
  unfold impl_FireTimes.f impl_FireTimes.fn impl_FireTimes.top spec_FireTimes.f spec_FireTimes.fn spec_FireTimes.top timR
  rw [impl_IsShow_f x hz, spec_IsShow_f x hz]
  by_cases h : showB x = true
  · obtain ⟨h1, h2, h3, h4⟩ := showB_all h
    rw [h]
    have a1 := (fold_fix (E := fun c : Cue => cueB x c = true) (fun p (st : List Int) => st = p.map (fireT x)) (fun _ st c => st ++ [fireT x c]) (fun st => some st) (fun k i st => impl_fireTimes.l3 NN k x.2.2 x.2.2.length i x st) x.2.2 ?_ ?_ [] h4 rfl (by omega) NN (NN_lt (by omega)))
    · have a2 := (fold_fix (E := fun c : Cue => cueB x c = true) (fun p (st : List Int) => st = p.map (fireT x)) (fun _ st c => st ++ [fireT x c]) (fun st => some st) (fun k i st => spec_l08Times.l3 NN k i x st) x.2.2 ?_ ?_ [] h4 rfl (by omega) NN (NN_lt (by omega)))
      · unfold impl_fireTimes.f impl_fireTimes.fn impl_fireTimes.top spec_l08Times.f spec_l08Times.fn spec_l08Times.top
        simp only [and_self, and_true, true_and, decide_true, decide_false, if_true, if_false, mid_get, mid_set, mid_getn, mid_setn, bt_mid, Option.bind_some, Bool.not_true, Bool.not_false, Bool.false_eq_true, Bool.true_eq_false, beq_self_eq_true, bne_self_eq_false, Int.toNat_natCast]
        rw [a1.2, a1.1, a2.2, a2.1]
        exact ⟨rfl, rfl⟩
      · intro k st _
        simp [spec_l08Times.l3, spec_l08Times.g3]
      · intro k p c r st hx hc hI c0 c1 c2 cw g
        have hb := cueB_iff hc
        have hpl : p.length ≤ 20 := by rw [hx] at h3; simp at h3; omega
        have hro := room8a st (fireT x c) (by rw [hI, List.length_map]; omega)
        refine ⟨by rw [hI]; simp, ?_⟩
        simp only [spec_l08Times.l3, spec_l08Times.g3, c0, c1, cw, and_self, and_true, true_and, decide_true, decide_false, if_true, if_false, mid_get, mid_set, mid_getn, mid_setn, bt_mid, Option.bind_some, Bool.not_true, Bool.not_false, Bool.false_eq_true, Bool.true_eq_false, beq_self_eq_true, bne_self_eq_false, Int.toNat_natCast, g]
        rw [spec_l08Time_f x c h1 h2 hb.1 hb.2.1, Option.bind_some, if_pos hro]
    · intro k st _
      simp [impl_fireTimes.l3, impl_fireTimes.g3]
    · intro k p c r st hx hc hI c0 c1 c2 cw g
      have hb := cueB_iff hc
      have hpl : p.length ≤ 20 := by rw [hx] at h3; simp at h3; omega
      have hro := room8a st (fireT x c) (by rw [hI, List.length_map]; omega)
      refine ⟨by rw [hI]; simp, ?_⟩
      simp only [impl_fireTimes.l3, impl_fireTimes.g3, c0, c1, cw, and_self, and_true, true_and, decide_true, decide_false, if_true, if_false, mid_get, mid_set, mid_getn, mid_setn, bt_mid, Option.bind_some, Bool.not_true, Bool.not_false, Bool.false_eq_true, Bool.true_eq_false, beq_self_eq_true, bne_self_eq_false, Int.toNat_natCast, g]
      rw [impl_firedAt_f x c h1 h2, if_pos ⟨hb.1, hb.2.1⟩, if_pos (by omega), Option.bind_some, if_pos hro]
  · have h' : showB x = false := by simpa using h
    rw [h']
    exact ⟨rfl, rfl⟩
def idxP (i : Nat) : List Int → List Int
  | [] => []
  | t :: r => if 0 ≤ t then (i : Int) :: idxP (i + 1) r else idxP (i + 1) r
theorem idxP_len : ∀ (r : List Int) (i : Nat), (idxP i r).length ≤ r.length := by
  intro r
  induction r with
  | nil => intro i; simp [idxP]
  | cons t r ih => intro i; have := ih (i + 1); simp only [idxP, List.length_cons]; split <;> simp <;> omega
/- what a show books -/
def extF (x : Show) (fired : List Int) : List Art → List Bk
  | [] => []
  | a :: r => (if 0 < cntN x fired a.1 then [(1, a.1, (cntN x fired a.1 : Int))] else []) ++ extF x fired r
theorem bookL_ext (x : Show) (fired : List Int) : ∀ (arts : List Art) (out : List Bk), arts.foldl (bookF x fired) out = out ++ extF x fired arts := by
  intro arts
  induction arts with
  | nil => intro out; simp [extF]
  | cons a r ih =>
    intro out
    rw [List.foldl_cons, ih]
    unfold bookF
    simp only [extF]
    split <;> simp
theorem bookS_cases (list : List Bk) (x : Show) (fired : List Int) : ((bookS list x fired).2 ≠ 0 ∧ (bookS list x fired).1 = []) ∨ (booksB list = true ∧ showB x = true ∧ firedB x fired = true ∧ booksB (bookL x fired list) = true ∧ bookS list x fired = (bookL x fired list, 0)) := by
  unfold bookS
  by_cases h1 : booksB list = true
  · by_cases h2 : showB x = true
    · by_cases h3 : firedB x fired = true
      · rw [if_pos h1, if_pos h2, if_pos h3]
        unfold limR
        by_cases h4 : 60 < (bookL x fired list).length
        · rw [if_pos h4]; exact .inl ⟨by simp, rfl⟩
        · rw [if_neg h4]
          by_cases h5 : booksB (bookL x fired list) = true
          · rw [if_pos h5]; exact .inr ⟨h1, h2, h3, h5, rfl⟩
          · rw [if_neg h5]; exact .inl ⟨by simp, rfl⟩
      · rw [if_pos h1, if_pos h2, if_neg h3]; exact .inl ⟨by simp, rfl⟩
    · rw [if_pos h1, if_neg h2]; exact .inl ⟨by simp, rfl⟩
  · rw [if_neg h1]; exact .inl ⟨by simp, rfl⟩
theorem ext_none (x : Show) (fired : List Int) (c : ByteArray) : ∀ (arts : List Art) (s : Int), (∀ a ∈ arts, a.1 ≠ c) → (extF x fired arts).foldl (addL c) s = s := by
  intro arts
  induction arts with
  | nil => intro s _; rfl
  | cons a r ih =>
    intro s h
    have ha := h a (by simp)
    simp only [extF, List.foldl_append]
    rw [ih _ (fun b hb => h b (by simp [hb]))]
    split
    · simp only [List.foldl_cons, List.foldl_nil, addL]
      rw [if_neg ha]
    · rfl
theorem ext_app (x : Show) (fired : List Int) : ∀ (p r : List Art), extF x fired (p ++ r) = extF x fired p ++ extF x fired r := by
  intro p
  induction p with
  | nil => intro r; rfl
  | cons a p ih => intro r; simp only [List.cons_append, extF, ih, List.append_assoc]
theorem ext_left (x : Show) (fired : List Int) (p r : List Art) (a : Art) (hp : ∀ b ∈ p, b.1 ≠ a.1) (hr : ∀ b ∈ r, b.1 ≠ a.1) (s : Int) : (extF x fired (p ++ a :: r)).foldl (addL a.1) s = s - (cntN x fired a.1 : Int) := by
  rw [ext_app, List.foldl_append, ext_none x fired a.1 p s hp]
  simp only [extF, List.foldl_append]
  rw [ext_none x fired a.1 r _ hr]
  by_cases h : 0 < cntN x fired a.1
  · rw [if_pos h]
    simp only [List.foldl_cons, List.foldl_nil, addL, if_true]
    rw [if_neg (by decide)]
  · rw [if_neg h]
    have : cntN x fired a.1 = 0 := by omega
    simp only [List.foldl_nil, this]; omega
theorem arts_ne {xs p r : List Art} {a : Art} (h : artsB xs = true) (hx : xs = p ++ a :: r) : (∀ b ∈ p, b.1 ≠ a.1) ∧ ∀ b ∈ r, b.1 ≠ a.1 := by
  have hla : p.length < xs.length := by rw [hx]; simp
  have ga : xs[p.length] = a := by
    have : xs[p.length]? = some a := by rw [hx]; simp
    exact (List.getElem?_eq_some_iff.1 this).2
  refine ⟨fun b hb e => ?_, fun b hb e => ?_⟩
  · obtain ⟨i, hi, gi⟩ := List.getElem_of_mem hb
    have hli : i < xs.length := by omega
    have gb : xs[i] = b := by
      have : xs[i]? = some b := by rw [hx, List.getElem?_append_left hi, List.getElem?_eq_getElem hi, gi]
      exact (List.getElem?_eq_some_iff.1 this).2
    have := arts_inj h hli hla (by rw [gb, ga, e])
    omega
  · obtain ⟨i, hi, gi⟩ := List.getElem_of_mem hb
    have hli : p.length + 1 + i < xs.length := by rw [hx]; simp; omega
    have gb : xs[p.length + 1 + i] = b := by
      have : xs[p.length + 1 + i]? = some b := by
        rw [hx, List.getElem?_append_right (by omega), show p.length + 1 + i - p.length = i + 1 by omega, List.getElem?_cons_succ, List.getElem?_eq_getElem hi, gi]
      exact (List.getElem?_eq_some_iff.1 this).2
    have := arts_inj h hli hla (by rw [gb, ga, e])
    omega
theorem val_ok {b : Bk} (h : valB b = true) : OkBooking b := by
  have h1 := valB_count h
  unfold valB at h
  simp only [Bool.and_eq_true] at h
  have h2 := wordB_size h.1.2
  refine ⟨?_, Nat.le_trans h2.2 (by omega), ?_⟩ <;> (unfold Rg; simp [Lit.wf, IntKind.min, IntKind.max, IntKind.bits, IntKind.signed]; omega)
theorem books_lm {xs : List Bk} (h : booksB xs = true) : Lm OkBooking xs := by
  have := booksB_val h
  exact ⟨by omega, fun b hb => val_ok (this.1 b hb)⟩
end Go.Pl

namespace Go.Pl
open Go.Ev
set_option linter.unusedVariables false
noncomputable section
def impl_TotalsOf.top (list0 : List (Int × ByteArray × Int)) (article1 : ByteArray) : Option (List Int × Int) :=
  (impl_AreBookings.f list0).bind fun r1 =>
  if (!r1) = false then
    (impl_IsWord.f article1).bind fun r2 =>
    if (!r2) = true then
      some ([], 1)
    else
      (impl_totalsOf.f list0 article1).bind fun r3 =>
      some (r3, 0)
  else
    some ([], 1)
def impl_TotalsOf.fn (n : Nat) (list0 : List (Int × ByteArray × Int)) (article1 : ByteArray) : Option (List Int × Int) := impl_TotalsOf.top list0 article1
def impl_TotalsOf.f (list0 : List (Int × ByteArray × Int)) (article1 : ByteArray) : Option (List Int × Int) := impl_TotalsOf.fn NN list0 article1
end
end Go.Pl

namespace Go.Pl
open Go.Ev
set_option linter.unusedVariables false
noncomputable section
def spec_TotalsOf.g5 (L5 : (List (Int × ByteArray × Int)) → ByteArray → Int → List Int → Option (List Int × Int)) (list0 : List (Int × ByteArray × Int)) (article1 : ByteArray) (i7 : Int) (out6 : List Int) : Option (List Int × Int) :=
  if (decide ((i7 : Int) < (list0.length : Int))) = true then
    if (0 : Int) ≤ i7 ∧ (i7 : Int) < list0.length then
      if ((((list0.getD (i7 : Int).toNat (0, (ByteArray.empty, 0))).2).1).toList == article1.toList) = true then
        if (0 : Int) ≤ i7 ∧ (i7 : Int) < list0.length then
          if (0 : Int) ≤ i7 ∧ (i7 : Int) < list0.length then
            if (0 : Int) ≤ ((list0.getD (i7 : Int).toNat (0, (ByteArray.empty, 0))).1) ∧ (((list0.getD (i7 : Int).toNat (0, (ByteArray.empty, 0))).1) : Int) < out6.length then
              if (0 : Int) ≤ i7 ∧ (i7 : Int) < list0.length then
                if (0 : Int) ≤ ((list0.getD (i7 : Int).toNat (0, (ByteArray.empty, 0))).1) ∧ (((list0.getD (i7 : Int).toNat (0, (ByteArray.empty, 0))).1) : Int) < out6.length then
                  L5 list0 article1 (IntKind.i64.wrap (i7 + 1)) (out6.set (((list0.getD (i7 : Int).toNat (0, (ByteArray.empty, 0))).1) : Int).toNat (IntKind.i64.wrap ((out6.getD (((list0.getD (i7 : Int).toNat (0, (ByteArray.empty, 0))).1) : Int).toNat 0) + (((list0.getD (i7 : Int).toNat (0, (ByteArray.empty, 0))).2).2))))
                else
                  none
              else
                none
            else
              none
          else
            none
        else
          none
      else
        L5 list0 article1 (IntKind.i64.wrap (i7 + 1)) out6
    else
      none
  else
    some (out6, 0)
def spec_TotalsOf.l5 (n : Nat) : Nat → (List (Int × ByteArray × Int)) → ByteArray → Int → List Int → Option (List Int × Int)
  | 0 => fun _ _ _ _ => none
  | k + 1 => spec_TotalsOf.g5 (spec_TotalsOf.l5 n k)
def spec_TotalsOf.top (I5 : (List (Int × ByteArray × Int)) → ByteArray → Int → List Int → Option (List Int × Int)) (list0 : List (Int × ByteArray × Int)) (article1 : ByteArray) : Option (List Int × Int) :=
  (spec_AreBookings.f list0).bind fun r1 =>
  if (!r1) = false then
    (spec_IsWord.f article1).bind fun r2 =>
    if (!r2) = true then
      some ([], 1)
    else if (0 : Int) ≤ 4 ∧ (4 : Int) < room 8 ∧ (4 : Int) = 4 then
      I5 list0 article1 0 (List.replicate (4 : Int).toNat 0)
    else
      none
  else
    some ([], 1)
def spec_TotalsOf.fn (n : Nat) (list0 : List (Int × ByteArray × Int)) (article1 : ByteArray) : Option (List Int × Int) := spec_TotalsOf.top (spec_TotalsOf.l5 n n) list0 article1
def spec_TotalsOf.f (list0 : List (Int × ByteArray × Int)) (article1 : ByteArray) : Option (List Int × Int) := spec_TotalsOf.fn NN list0 article1
end
end Go.Pl

namespace Go.Pl
open Go.Ev
set_option linter.unusedVariables false
set_option linter.unusedSimpArgs false
theorem spec_TotalsOf_l (xs : List (Int × ByteArray × Int)) (a : ByteArray) (h : ∀ b ∈ xs, valB b = true) (hl : xs.length ≤ 1000000) : spec_TotalsOf.l5 NN NN xs a 0 (List.replicate (4 : Int).toNat 0) = some (totL xs a, 0) := by
  have := (fold_fix (E := fun b => valB b = true) (fun p s => (∀ b ∈ p, valB b = true) ∧ s = totL p a) (fun _ => addT a) (fun st => some (st, (0 : Int))) (fun k i s => spec_TotalsOf.l5 NN k xs a i s) xs ?_ ?_ [0, 0, 0, 0] h ⟨by simp, rfl⟩ (by omega) NN (NN_lt (by omega))).2
  · rw [foldi_foldl] at this
    exact this
  · intro k st _
    simp [spec_TotalsOf.l5, spec_TotalsOf.g5]
  · intro k p b r st hx hb hI c0 c1 c2 cw g
    obtain ⟨h1, rfl⟩ := hI
    have h2 := val_snoc h1 hb
    refine ⟨⟨h2, (totL_snoc p b a).symm⟩, ?_⟩
    obtain ⟨t0, t1, t2, t3, e1, e2, e3, e4, e5, e6, e7⟩ := totL_shape a p h1
    have hpl : p.length ≤ 1000000 := by omega
    have hv := valB_count hb
    simp only [spec_TotalsOf.l5, spec_TotalsOf.g5, c0, c1, cw, and_self, and_true, true_and, decide_true, decide_false, if_true, if_false, mid_get, mid_set, mid_getn, mid_setn, bt_mid, Option.bind_some, Bool.not_true, Bool.not_false, Bool.false_eq_true, Bool.true_eq_false, beq_self_eq_true, bne_self_eq_false, Int.toNat_natCast, g, ba_beq]
    unfold addT
    by_cases ha : b.2.1 = a
    · have k1 : b.1 < ((totL p a).length : Int) := by rw [e1]; simp; omega
      have k2 : 0 ≤ (totL p a).getD b.1.toNat 0 ∧ (totL p a).getD b.1.toNat 0 ≤ 1000000000 := by
        rw [e1]
        obtain h | h | h | h : b.1 = 0 ∨ b.1 = 1 ∨ b.1 = 2 ∨ b.1 = 3 := by omega
        all_goals (rw [h]; simp; omega)
      have e := w64 (n := (totL p a).getD b.1.toNat 0 + b.2.2) (by omega) (by omega)
      simp only [ha, decide_true, if_true, hv.2.2.1, k1, and_self, e]
    · simp [ha]
def totR (xs : List (Int × ByteArray × Int)) (a : ByteArray) : List Int × Int := if booksB xs = true ∧ wordB a = true then (totL xs a, 0) else ([], 1)
theorem TotalsOf_both (xs : List (Int × ByteArray × Int)) (a : ByteArray) (h : Lm OkBooking xs) (ha : Sm a) : spec_TotalsOf.f xs a = some (totR xs a) ∧ impl_TotalsOf.f xs a = some (totR xs a) ∧ Lm (Rg .i64) (totR xs a).1 := by
  unfold totR
  refine ⟨?_, ?_, ?_⟩
  · unfold spec_TotalsOf.f spec_TotalsOf.fn spec_TotalsOf.top
    rw [spec_AreBookings_f xs h, spec_IsWord_f a (Nat.le_trans ha (by omega))]
    cases hb : booksB xs
    · rfl
    cases hw : wordB a
    · rfl
    have hv := booksB_val hb
    simp only [and_self, and_true, true_and, decide_true, decide_false, if_true, if_false, mid_get, mid_set, mid_getn, mid_setn, bt_mid, Option.bind_some, Bool.not_true, Bool.not_false, Bool.false_eq_true, Bool.true_eq_false, beq_self_eq_true, bne_self_eq_false, Int.toNat_natCast]
    rw [if_pos (by rw [room8]; omega)]
    exact spec_TotalsOf_l xs a hv.1 (by omega)
  · unfold impl_TotalsOf.f impl_TotalsOf.fn impl_TotalsOf.top
    rw [impl_AreBookings_f xs h, impl_IsWord_f a (Nat.le_trans ha (by omega))]
    cases hb : booksB xs
    · rfl
    cases hw : wordB a
    · rfl
    have hv := booksB_val hb
    simp only [and_self, and_true, true_and, decide_true, decide_false, if_true, if_false, mid_get, mid_set, mid_getn, mid_setn, bt_mid, Option.bind_some, Bool.not_true, Bool.not_false, Bool.false_eq_true, Bool.true_eq_false, beq_self_eq_true, bne_self_eq_false, Int.toNat_natCast]
    rw [impl_totalsOf_f xs a hv.1 (by omega)]; rfl
  · by_cases hb : booksB xs = true ∧ wordB a = true
    · rw [if_pos hb]
      have hv := booksB_val hb.1
      obtain ⟨t0, t1, t2, t3, e1, e2, e3, e4, e5, e6, e7⟩ := totL_shape a xs hv.1
      simp only [e1]
      refine ⟨by simp, fun c hc => wf64.2 ?_⟩
      simp at hc
      omega
    · rw [if_neg hb]; exact ⟨by simp, by simp⟩
theorem TotalsOf_core (xs : List (Int × ByteArray × Int)) (a : ByteArray) (h : Lm OkBooking xs) (ha : Sm a) : ∃ w, spec_TotalsOf.f xs a = some w ∧ impl_TotalsOf.f xs a = some w ∧ Lm (Rg .i64) w.1 :=
  ⟨_, (TotalsOf_both xs a h ha).1, (TotalsOf_both xs a h ha).2.1, (TotalsOf_both xs a h ha).2.2⟩
end Go.Pl

namespace Go.Pl
open Go.Ev
set_option linter.unusedVariables false
noncomputable section
def impl_BookPieces.top (list0 : List (Int × ByteArray × Int)) (b1 : Int × ByteArray × Int) : Option ((List (Int × ByteArray × Int)) × Int) :=
  (impl_AreBookings.f list0).bind fun r1 =>
  if (!r1) = true then
    some ([], 1)
  else if (((list0.length : Int) : Int) == 60) = true then
    some ([], 3)
  else if ([] : List (Int × ByteArray × Int)).length + list0.length < room 32 then
    if (([] : List (Int × ByteArray × Int)) ++ list0).length + ([b1]).length < room 32 then
      (impl_AreBookings.f ((([] : List (Int × ByteArray × Int)) ++ list0) ++ ([b1]))).bind fun r2 =>
      if (!r2) = true then
        some ([], 5)
      else
        some ((([] : List (Int × ByteArray × Int)) ++ list0) ++ ([b1]), 0)
    else
      none
  else
    none
def impl_BookPieces.fn (n : Nat) (list0 : List (Int × ByteArray × Int)) (b1 : Int × ByteArray × Int) : Option ((List (Int × ByteArray × Int)) × Int) := impl_BookPieces.top list0 b1
def impl_BookPieces.f (list0 : List (Int × ByteArray × Int)) (b1 : Int × ByteArray × Int) : Option ((List (Int × ByteArray × Int)) × Int) := impl_BookPieces.fn NN list0 b1
end
end Go.Pl

namespace Go.Pl
open Go.Ev
set_option linter.unusedVariables false
noncomputable section
def spec_BookPieces.top (list0 : List (Int × ByteArray × Int)) (b1 : Int × ByteArray × Int) : Option ((List (Int × ByteArray × Int)) × Int) :=
  (spec_AreBookings.f list0).bind fun r1 =>
  if (!r1) = true then
    some ([], 1)
  else if (((list0.length : Int) : Int) == 60) = true then
    some ([], 3)
  else if ([] : List (Int × ByteArray × Int)).length + list0.length < room 32 then
    if (([] : List (Int × ByteArray × Int)) ++ list0).length + ([b1]).length < room 32 then
      (spec_AreBookings.f ((([] : List (Int × ByteArray × Int)) ++ list0) ++ ([b1]))).bind fun r2 =>
      if (!r2) = true then
        some ([], 5)
      else
        some ((([] : List (Int × ByteArray × Int)) ++ list0) ++ ([b1]), 0)
    else
      none
  else
    none
def spec_BookPieces.fn (n : Nat) (list0 : List (Int × ByteArray × Int)) (b1 : Int × ByteArray × Int) : Option ((List (Int × ByteArray × Int)) × Int) := spec_BookPieces.top list0 b1
def spec_BookPieces.f (list0 : List (Int × ByteArray × Int)) (b1 : Int × ByteArray × Int) : Option ((List (Int × ByteArray × Int)) × Int) := spec_BookPieces.fn NN list0 b1
end
end Go.Pl

namespace Go.Pl
open Go.Ev
set_option linter.unusedVariables false
set_option linter.unusedSimpArgs false
theorem ok_snoc {α : Type} {Q : α → Prop} {xs : List α} {b : α} (h : Lm Q xs) (hb : Q b) (hl : xs.length < 1000000) : Lm Q (xs ++ [b]) :=
  ⟨by simp; omega, fun x hx => by
    rcases List.mem_append.1 hx with h1 | h1
    · exact h.2 x h1
    · rw [List.mem_singleton.1 h1]; exact hb⟩
def bookR (xs : List (Int × ByteArray × Int)) (b : Int × ByteArray × Int) : List (Int × ByteArray × Int) × Int :=
  if booksB xs = true then (if xs.length = 60 then ([], 3) else if booksB (xs ++ [b]) = true then (xs ++ [b], 0) else ([], 5)) else ([], 1)
theorem impl_BookPieces_f (xs : List (Int × ByteArray × Int)) (b : Int × ByteArray × Int) (h : Lm OkBooking xs) (hb : OkBooking b) : impl_BookPieces.f xs b = some (bookR xs b) := by
  unfold impl_BookPieces.f impl_BookPieces.fn impl_BookPieces.top bookR
  rw [impl_AreBookings_f xs h]
  cases hx : booksB xs
  · rfl
  have hv := booksB_val hx
  simp only [and_self, and_true, true_and, decide_true, decide_false, if_true, if_false, mid_get, mid_set, mid_getn, mid_setn, bt_mid, Option.bind_some, Bool.not_true, Bool.not_false, Bool.false_eq_true, Bool.true_eq_false, beq_self_eq_true, bne_self_eq_false, Int.toNat_natCast]
  by_cases h60 : xs.length = 60
  · simp [h60]
  · have e1 : ((xs.length : Int) == 60) = false := by rw [beq_eq_false_iff_ne]; omega
    have e2 : ([] : List (Int × ByteArray × Int)).length + xs.length < room 32 := by rw [room32]; simp; omega
    have e3 : (([] : List (Int × ByteArray × Int)) ++ xs).length + [b].length < room 32 := by rw [room32]; simp; omega
    simp only [e1, e2, e3, h60, and_self, and_true, true_and, decide_true, decide_false, if_true, if_false, mid_get, mid_set, mid_getn, mid_setn, bt_mid, Option.bind_some, Bool.not_true, Bool.not_false, Bool.false_eq_true, Bool.true_eq_false, beq_self_eq_true, bne_self_eq_false, Int.toNat_natCast]
    rw [List.nil_append, impl_AreBookings_f (xs ++ [b]) (ok_snoc h hb (by omega))]
    cases booksB (xs ++ [b]) <;> rfl
theorem spec_BookPieces_f (xs : List (Int × ByteArray × Int)) (b : Int × ByteArray × Int) (h : Lm OkBooking xs) (hb : OkBooking b) : spec_BookPieces.f xs b = some (bookR xs b) := by
  unfold spec_BookPieces.f spec_BookPieces.fn spec_BookPieces.top bookR
  rw [spec_AreBookings_f xs h]
  cases hx : booksB xs
  · rfl
  have hv := booksB_val hx
  simp only [and_self, and_true, true_and, decide_true, decide_false, if_true, if_false, mid_get, mid_set, mid_getn, mid_setn, bt_mid, Option.bind_some, Bool.not_true, Bool.not_false, Bool.false_eq_true, Bool.true_eq_false, beq_self_eq_true, bne_self_eq_false, Int.toNat_natCast]
  by_cases h60 : xs.length = 60
  · simp [h60]
  · have e1 : ((xs.length : Int) == 60) = false := by rw [beq_eq_false_iff_ne]; omega
    have e2 : ([] : List (Int × ByteArray × Int)).length + xs.length < room 32 := by rw [room32]; simp; omega
    have e3 : (([] : List (Int × ByteArray × Int)) ++ xs).length + [b].length < room 32 := by rw [room32]; simp; omega
    simp only [e1, e2, e3, h60, and_self, and_true, true_and, decide_true, decide_false, if_true, if_false, mid_get, mid_set, mid_getn, mid_setn, bt_mid, Option.bind_some, Bool.not_true, Bool.not_false, Bool.false_eq_true, Bool.true_eq_false, beq_self_eq_true, bne_self_eq_false, Int.toNat_natCast]
    rw [List.nil_append, spec_AreBookings_f (xs ++ [b]) (ok_snoc h hb (by omega))]
    cases booksB (xs ++ [b]) <;> rfl
theorem bookR_ok (xs : List (Int × ByteArray × Int)) (b : Int × ByteArray × Int) (h : Lm OkBooking xs) (hb : OkBooking b) : Lm OkBooking (bookR xs b).1 := by
  unfold bookR
  split
  · rename_i hx
    have hv := booksB_val hx
    split
    · exact ⟨by simp, by simp⟩
    · split
      · exact ok_snoc h hb (by omega)
      · exact ⟨by simp, by simp⟩
  · exact ⟨by simp, by simp⟩
theorem BookPieces_core (xs : List (Int × ByteArray × Int)) (b : Int × ByteArray × Int) (h : Lm OkBooking xs) (hb : OkBooking b) : ∃ w, spec_BookPieces.f xs b = some w ∧ impl_BookPieces.f xs b = some w ∧ Lm OkBooking w.1 :=
  ⟨_, spec_BookPieces_f xs b h hb, impl_BookPieces_f xs b h hb, bookR_ok xs b h hb⟩
end Go.Pl

namespace Go.Pl
open Go.Ev
set_option linter.unusedVariables false
noncomputable section
def spec_l01From.g3 (L3 : List Int → Int → List Int → Int → Int → Option (List Int × Int × Int)) (code0 : List Int) (i4 : Int) (s3a : List Int) (s3ba : Int) (s3bb : Int) : Option (List Int × Int × Int) :=
  if (decide ((i4 : Int) < (code0.length : Int))) = true then
    if (decide ((i4 : Int) < 64)) = true then
      if (0 : Int) ≤ i4 ∧ (i4 : Int) < code0.length then
        L3 code0 (IntKind.i64.wrap (i4 + 1)) s3a s3ba (Int.tmod (IntKind.i64.wrap ((IntKind.i64.wrap (s3bb * 83)) + (IntKind.i64.wrap (code0.getD (i4 : Int).toNat 0)))) 2147483647)
      else
        none
    else
      some (s3a, (s3ba, s3bb))
  else
    some (s3a, (s3ba, s3bb))
def spec_l01From.l3 (n : Nat) : Nat → List Int → Int → List Int → Int → Int → Option (List Int × Int × Int)
  | 0 => fun _ _ _ _ _ => none
  | k + 1 => spec_l01From.g3 (spec_l01From.l3 n k)
def spec_l01From.top (I3 : List Int → Int → List Int → Int → Int → Option (List Int × Int × Int)) (code0 : List Int) : Option (List Int × Int × Int) :=
  I3 code0 0 code0 0 61043
def spec_l01From.fn (n : Nat) (code0 : List Int) : Option (List Int × Int × Int) := spec_l01From.top (spec_l01From.l3 n n) code0
def spec_l01From.f (code0 : List Int) : Option (List Int × Int × Int) := spec_l01From.fn NN code0
end
end Go.Pl

namespace Go.Pl
open Go.Ev
set_option linter.unusedVariables false
noncomputable section
def spec_l01Next.top (s0 : List Int × Int × Int) (n1 : Int) : Option (Int × List Int × Int × Int) :=
  if (decide ((n1 : Int) ≤ 1)) = true then
    some (0, s0)
  else if (decide ((s0.2.1 : Int) < (s0.1.length : Int))) = true then
    if (0 : Int) ≤ s0.2.1 ∧ (s0.2.1 : Int) < s0.1.length then
      if (decide ((n1 : Int) ≤ 256)) = true then
        if (((Int.tmod (IntKind.i64.wrap (s0.2.1 + 1)) 2) : Int) == 0) = true then
          if (0 : Int) ≤ (IntKind.i64.wrap ((IntKind.i64.wrap (s0.2.1 + 1)) - 1)) ∧ ((IntKind.i64.wrap ((IntKind.i64.wrap (s0.2.1 + 1)) - 1)) : Int) < s0.1.length then
            if n1 = 0 then
              none
            else
              some (Int.tmod (IntKind.i64.wrap (s0.1.getD ((IntKind.i64.wrap ((IntKind.i64.wrap (s0.2.1 + 1)) - 1)) : Int).toNat 0)) n1, (s0.1, (IntKind.i64.wrap (s0.2.1 + 1), Int.tmod (IntKind.i64.wrap ((IntKind.i64.wrap (s0.2.2 * 48271)) + 29)) 2147483647)))
          else
            none
        else if n1 = 0 then
          none
        else
          some (Int.tmod (IntKind.i64.wrap ((IntKind.i64.wrap (Int.tdiv (Int.tmod (IntKind.i64.wrap ((IntKind.i64.wrap (s0.2.2 * 48271)) + 29)) 2147483647) 31)) + (IntKind.i64.wrap (s0.1.getD (s0.2.1 : Int).toNat 0)))) n1, (s0.1, (IntKind.i64.wrap (s0.2.1 + 1), Int.tmod (IntKind.i64.wrap ((IntKind.i64.wrap (s0.2.2 * 48271)) + 29)) 2147483647)))
      else if n1 = 0 then
        none
      else
        some (Int.tmod (IntKind.i64.wrap ((IntKind.i64.wrap (Int.tdiv (Int.tmod (IntKind.i64.wrap ((IntKind.i64.wrap (s0.2.2 * 48271)) + 29)) 2147483647) 31)) + (IntKind.i64.wrap (s0.1.getD (s0.2.1 : Int).toNat 0)))) n1, (s0.1, (IntKind.i64.wrap (s0.2.1 + 1), Int.tmod (IntKind.i64.wrap ((IntKind.i64.wrap (s0.2.2 * 48271)) + 29)) 2147483647)))
    else
      none
  else if n1 = 0 then
    none
  else
    some (Int.tmod (IntKind.i64.wrap (Int.tdiv (Int.tmod (IntKind.i64.wrap ((IntKind.i64.wrap (s0.2.2 * 48271)) + 29)) 2147483647) 31)) n1, (s0.1, (s0.2.1, Int.tmod (IntKind.i64.wrap ((IntKind.i64.wrap (s0.2.2 * 48271)) + 29)) 2147483647)))
def spec_l01Next.fn (n : Nat) (s0 : List Int × Int × Int) (n1 : Int) : Option (Int × List Int × Int × Int) := spec_l01Next.top s0 n1
def spec_l01Next.f (s0 : List Int × Int × Int) (n1 : Int) : Option (Int × List Int × Int × Int) := spec_l01Next.fn NN s0 n1
end
end Go.Pl

namespace Go.Pl
open Go.Ev
set_option linter.unusedVariables false
noncomputable section
def spec_l01Pick.top (s0 : List Int × Int × Int) (list1 : List Int) : Option (Int × List Int × Int × Int) :=
  (spec_l01Next.f s0 (list1.length : Int)).bind fun r1 =>
  if (0 : Int) ≤ r1.1 ∧ (r1.1 : Int) < list1.length then
    some (list1.getD (r1.1 : Int).toNat 0, r1.2)
  else
    none
def spec_l01Pick.fn (n : Nat) (s0 : List Int × Int × Int) (list1 : List Int) : Option (Int × List Int × Int × Int) := spec_l01Pick.top s0 list1
def spec_l01Pick.f (s0 : List Int × Int × Int) (list1 : List Int) : Option (Int × List Int × Int × Int) := spec_l01Pick.fn NN s0 list1
end
end Go.Pl

namespace Go.Pl
open Go.Ev
set_option linter.unusedVariables false
noncomputable section
def laws_big.top (code0 : List Int) : Option Bool :=
  some (decide ((4096 : Int) < (code0.length : Int)))
def laws_big.fn (n : Nat) (code0 : List Int) : Option Bool := laws_big.top code0
def laws_big.f (code0 : List Int) : Option Bool := laws_big.fn NN code0
end
end Go.Pl

namespace Go.Pl
open Go.Ev
set_option linter.unusedVariables false
set_option linter.unusedSimpArgs false
/-- a source of numbers -/
def SrcOk (s : List Int × Int × Int) : Prop := s.1.length ≤ 4096 ∧ (∀ c ∈ s.1, 0 ≤ c ∧ c ≤ 255) ∧ (0 ≤ s.2.1 ∧ s.2.1 ≤ (s.1.length : Int)) ∧ 0 ≤ s.2.2 ∧ s.2.2 < 2147483647
theorem tmod_bd {a n : Int} (h : 0 ≤ a) (hn : 0 < n) : 0 ≤ Int.tmod a n ∧ Int.tmod a n < n := by
  rw [Int.tmod_eq_emod_of_nonneg h]
  exact ⟨Int.emod_nonneg _ (by omega), Int.emod_lt_of_pos _ hn⟩
theorem getD_mem {xs : List Int} {i : Nat} (h : i < xs.length) : xs.getD i 0 ∈ xs := by
  rw [List.getD_eq_getElem?_getD, List.getElem?_eq_getElem h]; exact List.getElem_mem h
theorem next_ok {s : List Int × Int × Int} (hs : SrcOk s) (n : Int) (hn : n ≤ 1000000000000000) : ∃ x s', spec_l01Next.f s n = some (x, s') ∧ SrcOk s' ∧ 0 ≤ x ∧ (x < n ∨ x = 0) := by
  obtain ⟨code, at_, seed⟩ := s
  obtain ⟨h1, h2, h3, h4, h5⟩ := hs
  simp only at h1 h2 h3 h4 h5
  unfold spec_l01Next.f spec_l01Next.fn spec_l01Next.top
  by_cases hn1 : n ≤ 1
  · simp only [hn1, decide_true, if_true]
    exact ⟨0, _, rfl, ⟨h1, h2, h3, h4, h5⟩, by omega, .inr rfl⟩
  have w1 := w64 (n := seed * 48271) (by omega) (by omega)
  have w2 := w64 (n := seed * 48271 + 29) (by omega) (by omega)
  have hm := @tmod_bd (seed * 48271 + 29) 2147483647 (by omega) (by omega)
  have hd : Int.tdiv (Int.tmod (seed * 48271 + 29) 2147483647) 31 = Int.tmod (seed * 48271 + 29) 2147483647 / 31 := Int.tdiv_eq_ediv_of_nonneg hm.1
  have w3 := w64 (n := Int.tdiv (Int.tmod (seed * 48271 + 29) 2147483647) 31) (by omega) (by omega)
  have w4 := w64 (n := at_ + 1) (by omega) (by omega)
  have w5 := w64 (n := at_ + 1 - 1) (by omega) (by omega)
  have hnz : ¬ n = 0 := by omega
  simp only [hn1, decide_false, Bool.false_eq_true, if_false, w1, w2, w3, w4, w5, hnz, decide_eq_true_eq]
  by_cases ha : at_ < (code.length : Int)
  · have hc := h2 _ (getD_mem (show at_.toNat < code.length by omega))
    have hc' : (0 : Int) ≤ at_ + 1 - 1 ∧ at_ + 1 - 1 < (code.length : Int) := by omega
    have e1 : (at_ + 1 - 1).toNat = at_.toNat := by omega
    have w6 := w64 (n := code.getD at_.toNat 0) (by omega) (by omega)
    have w7 := w64 (n := Int.tdiv (Int.tmod (seed * 48271 + 29) 2147483647) 31 + code.getD at_.toNat 0) (by omega) (by omega)
    have b1 := @tmod_bd (code.getD at_.toNat 0) n hc.1 (by omega)
    have b2 := @tmod_bd (Int.tdiv (Int.tmod (seed * 48271 + 29) 2147483647) 31 + code.getD at_.toNat 0) n (by omega) (by omega)
    have hs' : SrcOk (code, at_ + 1, Int.tmod (seed * 48271 + 29) 2147483647) := ⟨h1, h2, ⟨by simp only; omega, by simp only; omega⟩, hm.1, hm.2⟩
    simp only [ha, h3.1, and_self, if_true, hc', e1, w6, w7]
    by_cases h256 : n ≤ 256
    · simp only [h256, if_true]
      split
      · exact ⟨_, _, rfl, hs', b1.1, .inl b1.2⟩
      · exact ⟨_, _, rfl, hs', b2.1, .inl b2.2⟩
    · simp only [h256, if_false]
      exact ⟨_, _, rfl, hs', b2.1, .inl b2.2⟩
  · have b3 := @tmod_bd (Int.tdiv (Int.tmod (seed * 48271 + 29) 2147483647) 31) n (by omega) (by omega)
    simp only [ha, if_false]
    exact ⟨_, _, rfl, ⟨h1, h2, h3, hm.1, hm.2⟩, b3.1, .inl b3.2⟩
theorem pick_ok {s : List Int × Int × Int} (hs : SrcOk s) (xs : List Int) (h : 1 ≤ xs.length) (hl : xs.length ≤ 1000) : ∃ x s', spec_l01Pick.f s xs = some (x, s') ∧ SrcOk s' ∧ x ∈ xs := by
  obtain ⟨x, s', e, h1, h2, h3⟩ := next_ok hs (xs.length : Int) (by omega)
  have hx : x < (xs.length : Int) := by omega
  unfold spec_l01Pick.f spec_l01Pick.fn spec_l01Pick.top
  rw [e]
  simp only [Option.bind_some, h2, hx, and_self, if_true]
  exact ⟨_, _, rfl, h1, getD_mem (by omega)⟩
theorem from_l (code : List Int) (hl : code.length ≤ 4096) (hc : ∀ c ∈ code, 0 ≤ c ∧ c ≤ 255) (c : List Int) (b : Int) : ∀ (d i k : Nat) (seed : Int), i + d = code.length → d < k → 0 ≤ seed → seed < 2147483647 → ∃ seed', spec_l01From.l3 NN k code i c b seed = some (c, b, seed') ∧ 0 ≤ seed' ∧ seed' < 2147483647 := by
  intro d
  induction d with
  | zero =>
    intro i k seed hi hk h0 h1
    obtain ⟨k, rfl⟩ : ∃ j, k = j + 1 := ⟨k - 1, by omega⟩
    have n1 : ¬ (i : Int) < (code.length : Int) := by omega
    exact ⟨seed, by simp only [spec_l01From.l3, spec_l01From.g3, n1, decide_false, Bool.false_eq_true, if_false], h0, h1⟩
  | succ d ih =>
    intro i k seed hi hk h0 h1
    obtain ⟨k, rfl⟩ : ∃ j, k = j + 1 := ⟨k - 1, by omega⟩
    have n1 : (i : Int) < (code.length : Int) := by omega
    by_cases h64 : (i : Int) < 64
    · have hcc := hc _ (getD_mem (show i < code.length by omega))
      have w1 := w64 (n := seed * 83) (by omega) (by omega)
      have w2 := w64 (n := code.getD i 0) (by omega) (by omega)
      have w3 := w64 (n := seed * 83 + code.getD i 0) (by omega) (by omega)
      have w4 := w64 (n := (i : Int) + 1) (by omega) (by omega)
      have hm := @tmod_bd (seed * 83 + code.getD i 0) 2147483647 (by omega) (by omega)
      obtain ⟨s', e1, e2⟩ := ih (i + 1) k (Int.tmod (seed * 83 + code.getD i 0) 2147483647) (by omega) (by omega) hm.1 hm.2
      refine ⟨s', ?_, e2⟩
      simp only [spec_l01From.l3, spec_l01From.g3, n1, h64, decide_true, if_true, Int.toNat_natCast, w1, w2, w3, w4, show (0 : Int) ≤ (i : Int) from by omega, and_self]
      exact e1
    · exact ⟨seed, by simp only [spec_l01From.l3, spec_l01From.g3, n1, h64, decide_true, if_true, decide_false, Bool.false_eq_true, if_false], h0, h1⟩
def CodeOk (code : List Int) : Prop := code.length ≤ 4096 ∧ ∀ c ∈ code, 0 ≤ c ∧ c ≤ 255
theorem from_ok {code : List Int} (h : CodeOk code) : ∃ s, spec_l01From.f code = some s ∧ SrcOk s := by
  obtain ⟨s', e, h1, h2⟩ := from_l code h.1 h.2 code 0 code.length 0 NN 61043 (by omega) (by have := h.1; exact NN_lt (by omega)) (by omega) (by omega)
  exact ⟨(code, 0, s'), e, h.1, h.2, ⟨by simp only; omega, by simp only; omega⟩, h1, h2⟩
theorem big_f (code : List Int) : laws_big.f code = some (decide ((4096 : Int) < (code.length : Int))) := rfl
theorem code_of {code : List Int} (h : Ls (Rg .u8) code) (hb : ¬ (4096 : Int) < (code.length : Int)) : CodeOk code := ⟨by omega, fun c hc => wf8.1 (h.2 c hc)⟩
end Go.Pl

namespace Go.Pl
open Go.Ev
set_option linter.unusedVariables false
noncomputable section
def laws_hasInt.g2 (L2 : List Int → Int → Int → Option Bool) (list0 : List Int) (x1 : Int) (i5 : Int) : Option Bool :=
  if (decide ((i5 : Int) < (list0.length : Int))) = true then
    if (0 : Int) ≤ i5 ∧ (i5 : Int) < list0.length then
      if (((list0.getD (i5 : Int).toNat 0) : Int) == x1) = true then
        some true
      else
        L2 list0 x1 (IntKind.i64.wrap (i5 + 1))
    else
      none
  else
    some false
def laws_hasInt.l2 (n : Nat) : Nat → List Int → Int → Int → Option Bool
  | 0 => fun _ _ _ => none
  | k + 1 => laws_hasInt.g2 (laws_hasInt.l2 n k)
def laws_hasInt.top (I2 : List Int → Int → Int → Option Bool) (list0 : List Int) (x1 : Int) : Option Bool :=
  I2 list0 x1 0
def laws_hasInt.fn (n : Nat) (list0 : List Int) (x1 : Int) : Option Bool := laws_hasInt.top (laws_hasInt.l2 n n) list0 x1
def laws_hasInt.f (list0 : List Int) (x1 : Int) : Option Bool := laws_hasInt.fn NN list0 x1
end
end Go.Pl

namespace Go.Pl
open Go.Ev
set_option linter.unusedVariables false
set_option linter.unusedSimpArgs false
theorem likeInts_self (a : List Int) (hl : a.length ≤ 140737488355328) : laws_likeInts.f a a = some true := by
  unfold laws_likeInts.f laws_likeInts.fn laws_likeInts.top
  simp only [bne_self_eq_false, Bool.false_eq_true, if_false]
  refine eqS_loop (E := fun _ => True) (fun k a b i => laws_likeInts.l4 NN k a b i) a (fun _ _ => trivial) ?_ ?_ NN (NN_lt (by omega))
  · intro k p x r hx ha
    subst ha
    have hm := mid_len p r x
    have c1 : (p.length : Int) < ((p ++ x :: r).length : Int) := by omega
    have c0 : (0 : Int) ≤ (p.length : Int) := by omega
    have cw := w64 (n := (p.length : Int) + 1) (by omega) (by omega)
    simp only [laws_likeInts.l4, laws_likeInts.g4, c0, c1, cw, and_self, and_true, true_and, decide_true, decide_false, if_true, if_false, mid_get, mid_set, mid_getn, mid_setn, bt_mid, Option.bind_some, Bool.not_true, Bool.not_false, Bool.false_eq_true, Bool.true_eq_false, beq_self_eq_true, bne_self_eq_false, Int.toNat_natCast]
  · intro k
    simp [laws_likeInts.l4, laws_likeInts.g4]
theorem hasInt_f (xs : List Int) (x : Int) (hl : xs.length ≤ 140737488355328) : laws_hasInt.f xs x = some (decide (x ∈ xs)) := by
  have := find_loop (E := fun _ => True) (fun c : Int => c == x) (fun _ _ => some true) (fun _ => some false) (fun k xs i => laws_hasInt.l2 NN k xs x i) ?_ ?_ xs (fun _ _ => trivial) (by omega) NN (NN_lt (by omega))
  · refine this.trans ?_
    have key : ∀ (xs : List Int) (i : Nat), (firstOf (fun c : Int => c == x) i xs).elim (some false) (fun _ => some true) = some (decide (x ∈ xs)) := by
      intro xs
      induction xs with
      | nil => intro i; simp [firstOf]
      | cons a r ih =>
        intro i
        by_cases h : a = x
        · subst h; simp [firstOf]
        · have h1 : (a == x) = false := by rw [beq_eq_false_iff_ne]; exact h
          have h2 : ¬ x = a := fun e => h e.symm
          simp only [firstOf, h1, Bool.false_eq_true, if_false, List.mem_cons, h2, false_or]
          exact ih _
    exact key xs 0
  · intro k p
    simp [laws_hasInt.l2, laws_hasInt.g2]
  · intro k p a r _ c0 c1 c2 cw
    simp only [laws_hasInt.l2, laws_hasInt.g2, c0, c1, cw, and_self, and_true, true_and, decide_true, decide_false, if_true, if_false, mid_get, mid_set, mid_getn, mid_setn, bt_mid, Option.bind_some, Bool.not_true, Bool.not_false, Bool.false_eq_true, Bool.true_eq_false, beq_self_eq_true, bne_self_eq_false, Int.toNat_natCast]
end Go.Pl
