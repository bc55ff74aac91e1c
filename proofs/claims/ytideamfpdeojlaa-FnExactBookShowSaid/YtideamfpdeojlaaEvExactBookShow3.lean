/- Part 3 of what the law FnExactBookShow stands on: an evaluator of the model's code, proved sound; the functions as plain texts; their contracts. -/
import Derived.Test.YtideamfpdeojlaaChecked
import Derived.Test.YtideamfpdeojlaaProg
import Derived.Test.YtideamfpdeojlaaRows
import Derived.Below
import Derived.Calls
import Derived.Carry
import Derived.ChangeArms
import Derived.ChangeKeysEq
import Derived.ChangeOld
import Derived.Deep.Quiet
import Derived.KernelRfl
import Derived.Laws.Append
import Derived.Laws.BytesString
import Derived.Laws.MakeOwn
import Derived.Laws.Strings
import Derived.Laws.StructEq
import Derived.OpenShut
import Derived.OrdersHeld
import Derived.ProofKit
import Derived.ShutString
import Derived.SizedLaws
import Derived.Tactics
import Derived.WalkKit
import Derived.WideShapes
import Derived.Test.YtideamfpdeojlaaEvExactBookShow2
namespace Go.Pl
open Go.Ev
set_option linter.unusedVariables false
set_option linter.unusedSimpArgs false
def PlRatio (x : Int × Int) : Prop := Rg .i64 x.1 ∧ Rg .i64 x.2
def OkRatio (x : Int × Int) : Prop := Rg .i64 x.1 ∧ Rg .i64 x.2
def PlArticle (x : ByteArray × Int × Int × Int × Int × Int × Int × Int × Int) : Prop := Sz x.1 ∧ Rg .i64 x.2.1 ∧ Rg .i64 x.2.2.1 ∧ Rg .i64 x.2.2.2.1 ∧ Rg .i64 x.2.2.2.2.1 ∧ Rg .i64 x.2.2.2.2.2.1 ∧ Rg .i64 x.2.2.2.2.2.2.1 ∧ Rg .i64 x.2.2.2.2.2.2.2.1 ∧ Rg .i64 x.2.2.2.2.2.2.2.2
def OkArticle (x : ByteArray × Int × Int × Int × Int × Int × Int × Int × Int) : Prop := Sm x.1 ∧ Rg .i64 x.2.1 ∧ Rg .i64 x.2.2.1 ∧ Rg .i64 x.2.2.2.1 ∧ Rg .i64 x.2.2.2.2.1 ∧ Rg .i64 x.2.2.2.2.2.1 ∧ Rg .i64 x.2.2.2.2.2.2.1 ∧ Rg .i64 x.2.2.2.2.2.2.2.1 ∧ Rg .i64 x.2.2.2.2.2.2.2.2
def PlLayer (x : Int × Int × Int) : Prop := Rg .i64 x.1 ∧ Rg .i64 x.2.1 ∧ Rg .i64 x.2.2
def OkLayer (x : Int × Int × Int) : Prop := Rg .i64 x.1 ∧ Rg .i64 x.2.1 ∧ Rg .i64 x.2.2
def PlShot (x : Int × Int × Int × Int) : Prop := Rg .i64 x.1 ∧ Rg .i64 x.2.1 ∧ Rg .i64 x.2.2.1 ∧ Rg .i64 x.2.2.2
def OkShot (x : Int × Int × Int × Int) : Prop := Rg .i64 x.1 ∧ Rg .i64 x.2.1 ∧ Rg .i64 x.2.2.1 ∧ Rg .i64 x.2.2.2
def PlBar (x : Int × Int) : Prop := Rg .i64 x.1 ∧ Rg .i64 x.2
def OkBar (x : Int × Int) : Prop := Rg .i64 x.1 ∧ Rg .i64 x.2
def PlCue (x : Int × Int × ByteArray × Int) : Prop := Rg .i64 x.1 ∧ Rg .i64 x.2.1 ∧ Sz x.2.2.1 ∧ Rg .i64 x.2.2.2
def OkCue (x : Int × Int × ByteArray × Int) : Prop := Rg .i64 x.1 ∧ Rg .i64 x.2.1 ∧ Sm x.2.2.1 ∧ Rg .i64 x.2.2.2
def PlShow (x : (List (Int × Int)) × (List (ByteArray × Int × Int × Int × Int × Int × Int × Int × Int)) × (List (Int × Int × ByteArray × Int))) : Prop := Ls PlBar x.1 ∧ Ls PlArticle x.2.1 ∧ Ls PlCue x.2.2
def OkShow (x : (List (Int × Int)) × (List (ByteArray × Int × Int × Int × Int × Int × Int × Int × Int)) × (List (Int × Int × ByteArray × Int))) : Prop := Lm OkBar x.1 ∧ Lm OkArticle x.2.1 ∧ Lm OkCue x.2.2
def PlFuse (x : Int × Int × Int × Int) : Prop := Rg .i64 x.1 ∧ Rg .i64 x.2.1 ∧ Rg .i64 x.2.2.1 ∧ Rg .i64 x.2.2.2
def OkFuse (x : Int × Int × Int × Int) : Prop := Rg .i64 x.1 ∧ Rg .i64 x.2.1 ∧ Rg .i64 x.2.2.1 ∧ Rg .i64 x.2.2.2
def PlLink (x : Int × Int) : Prop := Rg .i64 x.1 ∧ Rg .i64 x.2
def OkLink (x : Int × Int) : Prop := Rg .i64 x.1 ∧ Rg .i64 x.2
def PlModule (x : Int × Int) : Prop := Rg .i64 x.1 ∧ Rg .i64 x.2
def OkModule (x : Int × Int) : Prop := Rg .i64 x.1 ∧ Rg .i64 x.2
def PlWire (x : Int × Int × Int) : Prop := Rg .i64 x.1 ∧ Rg .i64 x.2.1 ∧ Rg .i64 x.2.2
def OkWire (x : Int × Int × Int) : Prop := Rg .i64 x.1 ∧ Rg .i64 x.2.1 ∧ Rg .i64 x.2.2
def PlCircuit (x : Int × List Int) : Prop := Rg .i64 x.1 ∧ Ls (Rg .i64) x.2
def OkCircuit (x : Int × List Int) : Prop := Rg .i64 x.1 ∧ Lm (Rg .i64) x.2
def PlArea (x : Int × Int × Int × Int × Int) : Prop := Rg .i64 x.1 ∧ Rg .i64 x.2.1 ∧ Rg .i64 x.2.2.1 ∧ Rg .i64 x.2.2.2.1 ∧ Rg .i64 x.2.2.2.2
def OkArea (x : Int × Int × Int × Int × Int) : Prop := Rg .i64 x.1 ∧ Rg .i64 x.2.1 ∧ Rg .i64 x.2.2.1 ∧ Rg .i64 x.2.2.2.1 ∧ Rg .i64 x.2.2.2.2
def PlDemand (x : Int × Int × Int) : Prop := Rg .i64 x.1 ∧ Rg .i64 x.2.1 ∧ Rg .i64 x.2.2
def OkDemand (x : Int × Int × Int) : Prop := Rg .i64 x.1 ∧ Rg .i64 x.2.1 ∧ Rg .i64 x.2.2
def PlRack (x : Int × Int × List Int × List ByteArray) : Prop := Rg .i64 x.1 ∧ Rg .i64 x.2.1 ∧ Ls (Rg .i64) x.2.2.1 ∧ Ls Sz x.2.2.2
def OkRack (x : Int × Int × List Int × List ByteArray) : Prop := Rg .i64 x.1 ∧ Rg .i64 x.2.1 ∧ Lm (Rg .i64) x.2.2.1 ∧ Lm Sm x.2.2.2
def PlField (x : (List (Int × Int × Int)) × (List (Int × Int × Int × Int × Int)) × List Int × List Int × List Int × Int) : Prop := Ls PlDemand x.1 ∧ Ls PlArea x.2.1 ∧ Ls (Rg .i64) x.2.2.1 ∧ Ls (Rg .i64) x.2.2.2.1 ∧ Ls (Rg .i64) x.2.2.2.2.1 ∧ Rg .i64 x.2.2.2.2.2
def OkField (x : (List (Int × Int × Int)) × (List (Int × Int × Int × Int × Int)) × List Int × List Int × List Int × Int) : Prop := Lm OkDemand x.1 ∧ Lm OkArea x.2.1 ∧ Lm (Rg .i64) x.2.2.1 ∧ Lm (Rg .i64) x.2.2.2.1 ∧ Lm (Rg .i64) x.2.2.2.2.1 ∧ Rg .i64 x.2.2.2.2.2
def PlMove (x : Int × ByteArray × Int) : Prop := Rg .i64 x.1 ∧ Sz x.2.1 ∧ Rg .i64 x.2.2
def OkMove (x : Int × ByteArray × Int) : Prop := Rg .i64 x.1 ∧ Sm x.2.1 ∧ Rg .i64 x.2.2
def PlController (x : Bool × Bool × Bool × Bool × Bool × Int) : Prop := True ∧ True ∧ True ∧ True ∧ True ∧ Rg .i64 x.2.2.2.2.2
def OkController (x : Bool × Bool × Bool × Bool × Bool × Int) : Prop := True ∧ True ∧ True ∧ True ∧ True ∧ Rg .i64 x.2.2.2.2.2
def PlSignal (x : Int × Int) : Prop := Rg .i64 x.1 ∧ Rg .i64 x.2
def OkSignal (x : Int × Int) : Prop := Rg .i64 x.1 ∧ Rg .i64 x.2
def PlTry (x : Int × Int × Bool) : Prop := Rg .i64 x.1 ∧ Rg .i64 x.2.1 ∧ True
def OkTry (x : Int × Int × Bool) : Prop := Rg .i64 x.1 ∧ Rg .i64 x.2.1 ∧ True
def PlMagazine (x : Int × List Int) : Prop := Rg .i64 x.1 ∧ Ls (Rg .i64) x.2
def OkMagazine (x : Int × List Int) : Prop := Rg .i64 x.1 ∧ Lm (Rg .i64) x.2
def PlDepot (x : Int × Int × Int) : Prop := Rg .i64 x.1 ∧ Rg .i64 x.2.1 ∧ Rg .i64 x.2.2
def OkDepot (x : Int × Int × Int) : Prop := Rg .i64 x.1 ∧ Rg .i64 x.2.1 ∧ Rg .i64 x.2.2
def PlBox (x : Int × Int) : Prop := Rg .i64 x.1 ∧ Rg .i64 x.2
def OkBox (x : Int × Int) : Prop := Rg .i64 x.1 ∧ Rg .i64 x.2
def PlLine (x : ByteArray × Int) : Prop := Sz x.1 ∧ Rg .i64 x.2
def OkLine (x : ByteArray × Int) : Prop := Sm x.1 ∧ Rg .i64 x.2
def PlPaper (x : ByteArray × Int × (List (ByteArray × Int))) : Prop := Sz x.1 ∧ Rg .i64 x.2.1 ∧ Ls PlLine x.2.2
def OkPaper (x : ByteArray × Int × (List (ByteArray × Int))) : Prop := Sm x.1 ∧ Rg .i64 x.2.1 ∧ Lm OkLine x.2.2
def PlPermit (x : Int × Int × Int × Int × List Int × Int) : Prop := Rg .i64 x.1 ∧ Rg .i64 x.2.1 ∧ Rg .i64 x.2.2.1 ∧ Rg .i64 x.2.2.2.1 ∧ Ls (Rg .i64) x.2.2.2.2.1 ∧ Rg .i64 x.2.2.2.2.2
def OkPermit (x : Int × Int × Int × Int × List Int × Int) : Prop := Rg .i64 x.1 ∧ Rg .i64 x.2.1 ∧ Rg .i64 x.2.2.1 ∧ Rg .i64 x.2.2.2.1 ∧ Lm (Rg .i64) x.2.2.2.2.1 ∧ Rg .i64 x.2.2.2.2.2
def PlGrid (x : Int × Int × List Bool) : Prop := Rg .i64 x.1 ∧ Rg .i64 x.2.1 ∧ Ls (fun _ => True) x.2.2
def OkGrid (x : Int × Int × List Bool) : Prop := Rg .i64 x.1 ∧ Rg .i64 x.2.1 ∧ Lm (fun _ => True) x.2.2
def PlBooking (x : Int × ByteArray × Int) : Prop := Rg .i64 x.1 ∧ Sz x.2.1 ∧ Rg .i64 x.2.2
def OkBooking (x : Int × ByteArray × Int) : Prop := Rg .i64 x.1 ∧ Sm x.2.1 ∧ Rg .i64 x.2.2
def PlEntry (x : Int × ByteArray) : Prop := Rg .u8 x.1 ∧ Sz x.2
def OkEntry (x : Int × ByteArray) : Prop := Rg .u8 x.1 ∧ Sm x.2
def PlDesk (x : (List (Int × ByteArray × Int)) × (List (Int × Int)) × (List (Int × ByteArray × Int))) : Prop := Ls PlMove x.1 ∧ Ls PlSignal x.2.1 ∧ Ls PlBooking x.2.2
def OkDesk (x : (List (Int × ByteArray × Int)) × (List (Int × Int)) × (List (Int × ByteArray × Int))) : Prop := Lm OkMove x.1 ∧ Lm OkSignal x.2.1 ∧ Lm OkBooking x.2.2
end Go.Pl

namespace Go.Pl
open Go.Ev
set_option linter.unusedVariables false
set_option linter.unusedSimpArgs false
theorem laws_eqBooking_self (a : Int × ByteArray × Int) : laws_eqBooking.f a a = some true := by
  unfold laws_eqBooking.f laws_eqBooking.fn laws_eqBooking.top
  simp []
end Go.Pl

namespace Go.Pl
open Go.Ev
set_option linter.unusedVariables false
set_option linter.unusedSimpArgs false
theorem laws_eqBookingS_self (a : List (Int × ByteArray × Int)) (hl : a.length ≤ 140737488355328) : laws_eqBookingS.f a a = some true := by
  unfold laws_eqBookingS.f laws_eqBookingS.fn laws_eqBookingS.top
  simp only [bne_self_eq_false, Bool.false_eq_true, if_false]
  refine eqS_loop (E := fun _ => True) (fun k a b i => laws_eqBookingS.l4 NN k a b i) a (fun _ _ => trivial) ?_ ?_ NN (NN_lt (by omega))
  · intro k p x r hx ha
    subst ha
    show laws_eqBookingS.g4 (laws_eqBookingS.l4 NN k) (p ++ x :: r) (p ++ x :: r) p.length = _
    unfold laws_eqBookingS.g4
    have hm := mid_len p r x
    have c1 : (p.length : Int) < ((p ++ x :: r).length : Int) := by omega
    have c0 : (0 : Int) ≤ (p.length : Int) := by omega
    have cw := w64 (n := (p.length : Int) + 1) (by omega) (by omega)
    simp only [c0, c1, and_self, decide_true, if_true, mid_get, laws_eqBooking_self x, Option.bind_some, cw, Bool.not_true, Bool.false_eq_true, if_false]
  · intro k
    show laws_eqBookingS.g4 (laws_eqBookingS.l4 NN k) a a a.length = _
    unfold laws_eqBookingS.g4
    simp
end Go.Pl

/- Loops of a few sorts, and what they come to. -/
namespace Go.Pl
open Go.Ev
set_option linter.unusedVariables false

/-- false at the first element that fails -/
theorem all_loop {α : Type} {E : α → Prop} (P : α → Bool) (fin : List α → Option Bool) (l : Nat → List α → Int → Option Bool)
    (hn : ∀ k p, l (k + 1) p p.length = fin p)
    (hc : ∀ k p a r, E a → (0 : Int) ≤ (p.length : Int) → (p.length : Int) < ((p ++ a :: r).length : Int) → IntKind.i64.wrap ((p.length : Int) + 1) = (p.length : Int) + 1 → l (k + 1) (p ++ a :: r) p.length = if P a = true then l k (p ++ a :: r) ((p.length : Int) + 1) else some false)
    (xs : List α) (hE : ∀ x ∈ xs, E x) (hB : xs.length ≤ 140737488355328) (k : Nat) (hk : xs.length < k) : l k xs 0 = if xs.all P = true then fin xs else some false := by
  have key : ∀ (r p : List α) (k : Nat), p.length + r.length ≤ 140737488355328 → (∀ x ∈ r, E x) → r.length < k → l k (p ++ r) p.length = if r.all P = true then fin (p ++ r) else some false := by
    intro r
    induction r with
    | nil =>
      intro p k _ _ hk
      obtain ⟨k, rfl⟩ : ∃ j, k = j + 1 := ⟨k - 1, by omega⟩
      rw [List.append_nil, hn]; simp
    | cons a r ih =>
      intro p k hb he hk
      simp only [List.length_cons] at hk hb
      obtain ⟨k, rfl⟩ : ∃ j, k = j + 1 := ⟨k - 1, by omega⟩
      have hm := mid_len p r a
      rw [hc k p a r (he a (by simp)) (by omega) (by omega) (w64 (by omega) (by omega))]
      have := ih (p ++ [a]) k (by simp; omega) (fun y hy => he y (by simp [hy])) (by omega)
      rw [mid_snoc, snoc_len] at this
      rw [this]
      cases h : P a <;> simp [h]
  have := key xs [] k (by simpa using hB) hE hk
  simpa using this
/-- the same over a string's bytes -/
theorem all_loop_str (P : UInt8 → Bool) (fin : ByteArray → Option Bool) (l : Nat → ByteArray → Int → Option Bool)
    (hn : ∀ k p, l (k + 1) (ob p) p.length = fin (ob p))
    (hc : ∀ k p a r, (0 : Int) ≤ (p.length : Int) → (p.length : Int) < ((ob (p ++ a :: r)).size : Int) → IntKind.i64.wrap ((p.length : Int) + 1) = (p.length : Int) + 1 → l (k + 1) (ob (p ++ a :: r)) p.length = if P a = true then l k (ob (p ++ a :: r)) ((p.length : Int) + 1) else some false)
    (s : ByteArray) (hB : s.size ≤ 140737488355328) (k : Nat) (hk : s.size < k) : l k s 0 = if (bl s).all P = true then fin s else some false := by
  have := all_loop (E := fun _ => True) P (fun x => fin (ob x)) (fun k x i => l k (ob x) i) hn (fun k p a r _ h1 h2 h3 => hc k p a r h1 (by rw [ob_size]; exact h2) h3) (bl s) (fun _ _ => trivial) (by rw [bl_length]; exact hB) k (by rw [bl_length]; exact hk)
  rw [ob_bl] at this
  exact this

def foldi {α σ : Type} (f : Nat → σ → α → σ) : Nat → σ → List α → σ
  | _, st, [] => st
  | i, st, a :: r => foldi f (i + 1) (f i st a) r
theorem foldi_foldl {α σ : Type} (f : σ → α → σ) : ∀ (xs : List α) (i : Nat) (st : σ), foldi (fun _ => f) i st xs = xs.foldl f st := by
  intro xs
  induction xs with
  | nil => intro i st; rfl
  | cons a r ih => intro i st; exact ih _ _
theorem foldi_append {α σ : Type} (f : Nat → σ → α → σ) : ∀ (xs ys : List α) (i : Nat) (st : σ), foldi f i st (xs ++ ys) = foldi f (i + xs.length) (foldi f i st xs) ys := by
  intro xs
  induction xs with
  | nil => intro ys i st; rfl
  | cons a r ih => intro ys i st; simp only [List.cons_append, foldi, List.length_cons]; rw [ih, show i + 1 + r.length = i + (r.length + 1) by omega]
/-- a state that goes from element to element; I: what holds of it behind a part of the row -/
theorem fold_loop {α σ ρ : Type} {E : α → Prop} (I : List α → σ → Prop) (f : Nat → σ → α → σ) (fin : List α → σ → Option ρ) (l : Nat → List α → Int → σ → Option ρ)
    (hn : ∀ k p st, I p st → l (k + 1) p p.length st = fin p st)
    (hc : ∀ k p a r st, E a → I p st → (0 : Int) ≤ (p.length : Int) → (p.length : Int) < ((p ++ a :: r).length : Int) → p.length < 140737488355328 → IntKind.i64.wrap ((p.length : Int) + 1) = (p.length : Int) + 1 →
      I (p ++ [a]) (f p.length st a) ∧ l (k + 1) (p ++ a :: r) p.length st = l k (p ++ a :: r) ((p.length : Int) + 1) (f p.length st a))
    (xs : List α) (st : σ) (hE : ∀ x ∈ xs, E x) (hI : I [] st) (hB : xs.length ≤ 140737488355328) (k : Nat) (hk : xs.length < k) :
    I xs (foldi f 0 st xs) ∧ l k xs 0 st = fin xs (foldi f 0 st xs) := by
  have key : ∀ (r p : List α) (k : Nat) (st : σ), p.length + r.length ≤ 140737488355328 → (∀ x ∈ r, E x) → I p st → r.length < k → I (p ++ r) (foldi f p.length st r) ∧ l k (p ++ r) p.length st = fin (p ++ r) (foldi f p.length st r) := by
    intro r
    induction r with
    | nil =>
      intro p k st _ _ hI hk
      obtain ⟨k, rfl⟩ : ∃ j, k = j + 1 := ⟨k - 1, by omega⟩
      rw [List.append_nil]; exact ⟨hI, hn k p st hI⟩
    | cons a r ih =>
      intro p k st hb he hI hk
      simp only [List.length_cons] at hk hb
      obtain ⟨k, rfl⟩ : ∃ j, k = j + 1 := ⟨k - 1, by omega⟩
      have hm := mid_len p r a
      obtain ⟨h1, h2⟩ := hc k p a r st (he a (by simp)) hI (by omega) (by omega) (by omega) (w64 (by omega) (by omega))
      have := ih (p ++ [a]) k (f p.length st a) (by simp; omega) (fun y hy => he y (by simp [hy])) h1 (by omega)
      rw [mid_snoc, snoc_len] at this
      rw [h2]
      simpa [foldi] using this
  have := key xs [] k st (by simpa using hB) hE hI hk
  simpa using this
/-- the same over a string's bytes -/
theorem fold_loop_str {σ ρ : Type} (I : List UInt8 → σ → Prop) (f : Nat → σ → UInt8 → σ) (fin : ByteArray → σ → Option ρ) (l : Nat → ByteArray → Int → σ → Option ρ)
    (hn : ∀ k p st, I p st → l (k + 1) (ob p) p.length st = fin (ob p) st)
    (hc : ∀ k p a r st, I p st → (0 : Int) ≤ (p.length : Int) → (p.length : Int) < ((ob (p ++ a :: r)).size : Int) → p.length < 140737488355328 → IntKind.i64.wrap ((p.length : Int) + 1) = (p.length : Int) + 1 →
      I (p ++ [a]) (f p.length st a) ∧ l (k + 1) (ob (p ++ a :: r)) p.length st = l k (ob (p ++ a :: r)) ((p.length : Int) + 1) (f p.length st a))
    (s : ByteArray) (st : σ) (hI : I [] st) (hB : s.size ≤ 140737488355328) (k : Nat) (hk : s.size < k) :
    I (bl s) (foldi f 0 st (bl s)) ∧ l k s 0 st = fin s (foldi f 0 st (bl s)) := by
  have := fold_loop (E := fun _ => True) I f (fun x => fin (ob x)) (fun k x i st => l k (ob x) i st) hn (fun k p a r st _ hI h1 h2 h3 h4 => hc k p a r st hI h1 (by rw [ob_size]; exact h2) h3 h4) (bl s) st (fun _ _ => trivial) hI (by rw [bl_length]; exact hB) k (by rw [bl_length]; exact hk)
  rw [ob_bl] at this
  exact this
/-- fold_loop, of one row: the rounds may look at it as a whole -/
theorem fold_fix {α σ ρ : Type} {E : α → Prop} (I : List α → σ → Prop) (f : Nat → σ → α → σ) (fin : σ → Option ρ) (l : Nat → Int → σ → Option ρ) (xs : List α)
    (hn : ∀ k st, I xs st → l (k + 1) xs.length st = fin st)
    (hc : ∀ k p a r st, xs = p ++ a :: r → E a → I p st → (0 : Int) ≤ (p.length : Int) → (p.length : Int) < (xs.length : Int) → p.length < 140737488355328 → IntKind.i64.wrap ((p.length : Int) + 1) = (p.length : Int) + 1 → (∀ z, xs.getD p.length z = a) →
      I (p ++ [a]) (f p.length st a) ∧ l (k + 1) p.length st = l k ((p.length : Int) + 1) (f p.length st a))
    (st : σ) (hE : ∀ x ∈ xs, E x) (hI : I [] st) (hB : xs.length ≤ 140737488355328) (k : Nat) (hk : xs.length < k) :
    I xs (foldi f 0 st xs) ∧ l k 0 st = fin (foldi f 0 st xs) := by
  have key : ∀ (r p : List α) (k : Nat) (st : σ), xs = p ++ r → (∀ x ∈ r, E x) → I p st → r.length < k → I xs (foldi f p.length st r) ∧ l k p.length st = fin (foldi f p.length st r) := by
    intro r
    induction r with
    | nil =>
      intro p k st hx _ hI hk
      obtain ⟨k, rfl⟩ : ∃ j, k = j + 1 := ⟨k - 1, by omega⟩
      rw [List.append_nil] at hx
      subst hx; exact ⟨hI, hn k st hI⟩
    | cons a r ih =>
      intro p k st hx he hI hk
      simp only [List.length_cons] at hk
      obtain ⟨k, rfl⟩ : ∃ j, k = j + 1 := ⟨k - 1, by omega⟩
      have hm := mid_len p r a
      have hxl : (xs.length : Int) = ((p ++ a :: r).length : Int) := by rw [hx]
      obtain ⟨h1, h2⟩ := hc k p a r st hx (he a (by simp)) hI (by omega) (by omega) (by omega) (w64 (by omega) (by omega)) (fun z => by rw [hx, mid_getn])
      have := ih (p ++ [a]) k (f p.length st a) (by rw [hx]; simp) (fun y hy => he y (by simp [hy])) h1 (by omega)
      rw [snoc_len] at this
      rw [h2]
      simpa [foldi] using this
  have := key xs [] k st (by simp) hE hI hk
  simpa using this
/-- the first element that is looked for, and its number -/
def firstOf {α : Type} (P : α → Bool) : Nat → List α → Option (Nat × α)
  | _, [] => none
  | i, a :: r => if P a = true then some (i, a) else firstOf P (i + 1) r
theorem find_loop {α ρ : Type} {E : α → Prop} (P : α → Bool) (hit : Nat → α → Option ρ) (fin : List α → Option ρ) (l : Nat → List α → Int → Option ρ)
    (hn : ∀ k p, l (k + 1) p p.length = fin p)
    (hc : ∀ k p a r, E a → (0 : Int) ≤ (p.length : Int) → (p.length : Int) < ((p ++ a :: r).length : Int) → p.length < 140737488355328 → IntKind.i64.wrap ((p.length : Int) + 1) = (p.length : Int) + 1 → l (k + 1) (p ++ a :: r) p.length = if P a = true then hit p.length a else l k (p ++ a :: r) ((p.length : Int) + 1))
    (xs : List α) (hE : ∀ x ∈ xs, E x) (hB : xs.length ≤ 140737488355328) (k : Nat) (hk : xs.length < k) : l k xs 0 = (firstOf P 0 xs).elim (fin xs) (fun x => hit x.1 x.2) := by
  have key : ∀ (r p : List α) (k : Nat), p.length + r.length ≤ 140737488355328 → (∀ x ∈ r, E x) → r.length < k → l k (p ++ r) p.length = (firstOf P p.length r).elim (fin (p ++ r)) (fun x => hit x.1 x.2) := by
    intro r
    induction r with
    | nil =>
      intro p k _ _ hk
      obtain ⟨k, rfl⟩ : ∃ j, k = j + 1 := ⟨k - 1, by omega⟩
      rw [List.append_nil, hn]; rfl
    | cons a r ih =>
      intro p k hb he hk
      simp only [List.length_cons] at hk hb
      obtain ⟨k, rfl⟩ : ∃ j, k = j + 1 := ⟨k - 1, by omega⟩
      have hm := mid_len p r a
      rw [hc k p a r (he a (by simp)) (by omega) (by omega) (by omega) (w64 (by omega) (by omega))]
      have := ih (p ++ [a]) k (by simp; omega) (fun y hy => he y (by simp [hy])) (by omega)
      rw [mid_snoc, snoc_len] at this
      rw [this]
      cases h : P a <;> simp [h, firstOf]
  have := key xs [] k (by simpa using hB) hE hk
  simpa using this
end Go.Pl

namespace Go.Pl
open Go.Ev
set_option linter.unusedVariables false
set_option linter.unusedSimpArgs false
theorem markText_some (n : Int) (h0 : 0 ≤ n) (h1 : n ≤ 100000000000000) : ∃ t, laws_markText.f n = some t := by
  have key : ∀ (m : Nat) (n : Int) (out : ByteArray) (k : Nat), 0 ≤ n → n ≤ m → (out.size : Int) + n ≤ 1000000000000000 → m < k → ∃ t, laws_markText.l4 NN k n out = some t := by
    intro m
    induction m with
    | zero =>
      intro n out k h0 h1 h2 hk
      obtain ⟨k, rfl⟩ : ∃ j, k = j + 1 := ⟨k - 1, by omega⟩
      obtain rfl : n = 0 := by omega
      have z : (⟨#[109]⟩ : ByteArray).size = 1 := rfl
      exact ⟨_, by
        simp only [laws_markText.l4, laws_markText.g4]
        rw [if_neg (by simp), if_pos (by omega)]⟩
    | succ m ih =>
      intro n out k h0 h1 h2 hk
      obtain ⟨k, rfl⟩ : ∃ j, k = j + 1 := ⟨k - 1, by omega⟩
      by_cases hn : 0 < n
      · have z : (bytesOf [IntKind.u8.wrap (IntKind.i64.wrap (48 + n.tmod 10))]).size = 1 := rfl
        have hd : n.tdiv 10 = n / 10 := Int.tdiv_eq_ediv_of_nonneg h0
        have hw := w64 (n := n.tdiv 10) (by omega) (by omega)
        obtain ⟨t, ht⟩ := ih (n.tdiv 10) (bytesOf [IntKind.u8.wrap (IntKind.i64.wrap (48 + n.tmod 10))] ++ out) k (by omega) (by omega) (by rw [ByteArray.size_append, z]; omega) (by omega)
        refine ⟨t, ?_⟩
        simp only [laws_markText.l4, laws_markText.g4]
        rw [if_pos (by simpa using hn), if_pos (by omega), hw]
        exact ht
      · have z : (⟨#[109]⟩ : ByteArray).size = 1 := rfl
        exact ⟨_, by
          simp only [laws_markText.l4, laws_markText.g4]
          rw [if_neg (by simpa using hn), if_pos (by omega)]⟩
  unfold laws_markText.f laws_markText.fn laws_markText.top
  by_cases hn : n ≤ 0
  · exact ⟨_, by rw [if_pos (by simpa using hn)]⟩
  · rw [if_neg (by simpa using hn)]
    exact key n.toNat n ⟨#[]⟩ NN h0 (by omega) (by rw [show (⟨#[]⟩ : ByteArray).size = 0 from rfl]; omega) (NN_lt (by omega))
end Go.Pl

namespace Go.Pl
open Go.Ev
set_option linter.unusedVariables false
set_option linter.unusedSimpArgs false
theorem laws_markBookingS_ok (a : List (Int × ByteArray × Int)) (ha : Lm OkBooking a) (n : Int) (h0 : 0 ≤ n) (h1 : n ≤ 1000000000000) : ∃ n' a', laws_markBookingS.f a n = some (n', a') ∧ laws_heldBookingS.f a' n = some n' ∧ n ≤ n' ∧ n' ≤ n + 3000000 := by
  have := mark_held (Q := OkBooking) (fun k a n i => laws_markBookingS.l2 NN k n i a) (fun k a n i => laws_heldBookingS.l2 NN k a n i) 3 2000000000000 ?_ ?_ ?_ a ha n h0 (by omega) NN NN (NN_lt (by omega)) (NN_lt (by omega))
  · obtain ⟨n1, a1, e1, e2, e3, e4⟩ := this
    exact ⟨n1, a1, e1, e2, e3, by omega⟩
  · intro k p n
    show laws_markBookingS.g2 (laws_markBookingS.l2 NN k) n p.length p = _
    unfold laws_markBookingS.g2
    simp
  · intro k p n
    show laws_heldBookingS.g2 (laws_heldBookingS.l2 NN k) p n p.length = _
    unfold laws_heldBookingS.g2
    simp
  · intro x hx n n0 n1
    obtain ⟨t1, ht1⟩ := markText_some (n + 1) (by omega) (by omega)
    have wk : ∀ i : Int, 0 ≤ i → i ≤ 3000000000000 → IntKind.i64.wrap i = i := fun i h h2 => w64 (by omega) (by omega)
    refine ⟨(n, t1, ((n + 1) + 1)), (((n + 1) + 1) + 1), by omega, by omega, fun k p r hb => ?_, fun k p r hb => ?_⟩
    · show laws_markBookingS.g2 (laws_markBookingS.l2 NN k) n p.length (p ++ x :: r) = _
      unfold laws_markBookingS.g2
      have c1 : ∀ y, (p.length : Int) < ((p ++ y :: r).length : Int) := fun y => by have := mid_len p r y; omega
      have c0 : (0 : Int) ≤ (p.length : Int) := by omega
      have cw := w64 (n := (p.length : Int) + 1) (by omega) (by omega)
      have q0 := wk (n + 1) (by omega) (by omega)
      have q1 := wk ((n + 1) + 1) (by omega) (by omega)
      have q2 := wk (((n + 1) + 1) + 1) (by omega) (by omega)
      have u0 := wk n (by omega) (by omega)
      have u1 := wk (n + 1) (by omega) (by omega)
      have u2 := wk ((n + 1) + 1) (by omega) (by omega)
      simp only [c0, c1, and_self, decide_true, if_true, mid_get, mid_set, cw, Option.bind_some, bne_self_eq_false, beq_self_eq_true, Bool.not_true, Bool.false_eq_true, if_false, ht1, q0, q1, q2, u0]
    · show laws_heldBookingS.g2 (laws_heldBookingS.l2 NN k) (p ++ (n, t1, ((n + 1) + 1)) :: r) n p.length = _
      unfold laws_heldBookingS.g2
      have c1 : ∀ y, (p.length : Int) < ((p ++ y :: r).length : Int) := fun y => by have := mid_len p r y; omega
      have c0 : (0 : Int) ≤ (p.length : Int) := by omega
      have cw := w64 (n := (p.length : Int) + 1) (by omega) (by omega)
      have q0 := wk (n + 1) (by omega) (by omega)
      have q1 := wk ((n + 1) + 1) (by omega) (by omega)
      have q2 := wk (((n + 1) + 1) + 1) (by omega) (by omega)
      have u0 := wk n (by omega) (by omega)
      have u1 := wk (n + 1) (by omega) (by omega)
      have u2 := wk ((n + 1) + 1) (by omega) (by omega)
      simp only [c0, c1, and_self, decide_true, if_true, mid_get, mid_set, cw, Option.bind_some, bne_self_eq_false, beq_self_eq_true, Bool.not_true, Bool.false_eq_true, if_false, ht1, q0, q1, q2, u0]
end Go.Pl

namespace Go.Pl
open Go.Ev
set_option linter.unusedVariables false
noncomputable section
def laws_heldInt64S.g2 (L2 : List Int → Int → Int → Option Int) (a0 : List Int) (k1 : Int) (i5 : Int) : Option Int :=
  if (decide ((i5 : Int) < (a0.length : Int))) = true then
    if (0 : Int) ≤ i5 ∧ (i5 : Int) < a0.length then
      if (((a0.getD (i5 : Int).toNat 0) : Int) != k1) = true then
        some (-1)
      else
        L2 a0 (IntKind.i64.wrap (k1 + 1)) (IntKind.i64.wrap (i5 + 1))
    else
      none
  else
    some k1
def laws_heldInt64S.l2 (n : Nat) : Nat → List Int → Int → Int → Option Int
  | 0 => fun _ _ _ => none
  | k + 1 => laws_heldInt64S.g2 (laws_heldInt64S.l2 n k)
def laws_heldInt64S.top (I2 : List Int → Int → Int → Option Int) (a0 : List Int) (k1 : Int) : Option Int :=
  I2 a0 k1 0
def laws_heldInt64S.fn (n : Nat) (a0 : List Int) (k1 : Int) : Option Int := laws_heldInt64S.top (laws_heldInt64S.l2 n n) a0 k1
def laws_heldInt64S.f (a0 : List Int) (k1 : Int) : Option Int := laws_heldInt64S.fn NN a0 k1
end
end Go.Pl

namespace Go.Pl
open Go.Ev
set_option linter.unusedVariables false
set_option linter.unusedSimpArgs false
theorem laws_markInt64S_ok (a : List Int) (ha : Lm (Rg .i64) a) (n : Int) (h0 : 0 ≤ n) (h1 : n ≤ 1000000000000) : ∃ n' a', laws_markInt64S.f a n = some (n', a') ∧ laws_heldInt64S.f a' n = some n' ∧ n ≤ n' ∧ n' ≤ n + 1000000 := by
  have := mark_held (Q := Rg .i64) (fun k a n i => laws_markInt64S.l2 NN k n i a) (fun k a n i => laws_heldInt64S.l2 NN k a n i) 1 2000000000000 ?_ ?_ ?_ a ha n h0 (by omega) NN NN (NN_lt (by omega)) (NN_lt (by omega))
  · obtain ⟨n1, a1, e1, e2, e3, e4⟩ := this
    exact ⟨n1, a1, e1, e2, e3, by omega⟩
  · intro k p n
    show laws_markInt64S.g2 (laws_markInt64S.l2 NN k) n p.length p = _
    unfold laws_markInt64S.g2
    simp
  · intro k p n
    show laws_heldInt64S.g2 (laws_heldInt64S.l2 NN k) p n p.length = _
    unfold laws_heldInt64S.g2
    simp
  · intro x hx n n0 n1
    have wk : ∀ i : Int, 0 ≤ i → i ≤ 3000000000000 → IntKind.i64.wrap i = i := fun i h h2 => w64 (by omega) (by omega)
    refine ⟨n, (n + 1), by omega, by omega, fun k p r hb => ?_, fun k p r hb => ?_⟩
    · show laws_markInt64S.g2 (laws_markInt64S.l2 NN k) n p.length (p ++ x :: r) = _
      unfold laws_markInt64S.g2
      have c1 : ∀ y, (p.length : Int) < ((p ++ y :: r).length : Int) := fun y => by have := mid_len p r y; omega
      have c0 : (0 : Int) ≤ (p.length : Int) := by omega
      have cw := w64 (n := (p.length : Int) + 1) (by omega) (by omega)
      have q0 := wk (n + 1) (by omega) (by omega)
      have u0 := wk n (by omega) (by omega)
      simp only [c0, c1, and_self, decide_true, if_true, mid_get, mid_set, cw, Option.bind_some, bne_self_eq_false, beq_self_eq_true, Bool.not_true, Bool.false_eq_true, if_false, q0, u0]
    · show laws_heldInt64S.g2 (laws_heldInt64S.l2 NN k) (p ++ n :: r) n p.length = _
      unfold laws_heldInt64S.g2
      have c1 : ∀ y, (p.length : Int) < ((p ++ y :: r).length : Int) := fun y => by have := mid_len p r y; omega
      have c0 : (0 : Int) ≤ (p.length : Int) := by omega
      have cw := w64 (n := (p.length : Int) + 1) (by omega) (by omega)
      have q0 := wk (n + 1) (by omega) (by omega)
      have u0 := wk n (by omega) (by omega)
      simp only [c0, c1, and_self, decide_true, if_true, mid_get, mid_set, cw, Option.bind_some, bne_self_eq_false, beq_self_eq_true, Bool.not_true, Bool.false_eq_true, if_false, q0, u0]
end Go.Pl

namespace Go.Pl
open Go.Ev
set_option linter.unusedVariables false
set_option linter.unusedSimpArgs false
/-- Rows that are marked. -/
theorem mark_only {α : Type} {Q : α → Prop} (l : Nat → List α → Int → Int → Option (Int × List α)) (C : Nat) (K : Int)
    (he : ∀ k p n, l (k + 1) p n p.length = some (n, p))
    (hs : ∀ x, Q x → ∀ n, 0 ≤ n → n ≤ K → ∃ x' n', n ≤ n' ∧ n' ≤ n + C ∧ (∀ k p r, p.length + r.length + 1 ≤ 1000000 → l (k + 1) (p ++ x :: r) n p.length = l k (p ++ x' :: r) n' ((p.length : Int) + 1)))
    (a : List α) (ha : Lm Q a) (n : Int) (h0 : 0 ≤ n) (h1 : n + (1000000 * C : Nat) ≤ K) (k : Nat) (hk : 1000000 < k) :
    ∃ n' a', l k a n 0 = some (n', a') ∧ n ≤ n' ∧ n' ≤ n + (1000000 * C : Nat) := by
  have key : ∀ (r p : List α) (k : Nat) (n : Int), p.length + r.length ≤ 1000000 → (∀ x ∈ r, Q x) → 0 ≤ n → n + ((r.length * C : Nat) : Int) ≤ K → r.length < k →
      ∃ n' r', l k (p ++ r) n p.length = some (n', p ++ r') ∧ n ≤ n' ∧ n' ≤ n + ((r.length * C : Nat) : Int) := by
    intro r
    induction r with
    | nil =>
      intro p k n _ _ h0 _ hk
      obtain ⟨k, rfl⟩ : ∃ j, k = j + 1 := ⟨k - 1, by omega⟩
      exact ⟨n, [], by rw [List.append_nil]; exact he k p n, by omega, by simp⟩
    | cons x r ih =>
      intro p k n hb hq h0 hK hk
      simp only [List.length_cons] at hk hb hK
      obtain ⟨k, rfl⟩ : ∃ j, k = j + 1 := ⟨k - 1, by omega⟩
      have hm : (r.length + 1) * C = r.length * C + C := by rw [Nat.add_mul, Nat.one_mul]
      rw [hm] at hK
      obtain ⟨x', n1, a1, a2, a3⟩ := hs x (hq x (by simp)) n h0 (by omega)
      rw [a3 k p r (by omega)]
      obtain ⟨n', r', b1, b3, b4⟩ := ih (p ++ [x']) k n1 (by simp; omega) (fun y hy => hq y (by simp [hy])) (by omega) (by omega) (by omega)
      rw [mid_snoc, snoc_len] at b1
      exact ⟨n', x' :: r', by rw [b1]; simp, by omega, by simp only [List.length_cons]; rw [hm]; omega⟩
  have hle : ((a.length * C : Nat) : Int) ≤ ((1000000 * C : Nat) : Int) := Int.ofNat_le.2 (Nat.mul_le_mul_right _ ha.1)
  obtain ⟨n', r', b1, b3, b4⟩ := key a [] k n (by simpa using ha.1) ha.2 h0 (by omega) (by have := ha.1; omega)
  exact ⟨n', r', by simpa using b1, b3, by omega⟩
end Go.Pl

namespace Go.Pl
open Go.Ev
set_option linter.unusedVariables false
set_option linter.unusedSimpArgs false
set_option maxHeartbeats 4000000 in
theorem laws_markArticleS_ok (a : List (ByteArray × Int × Int × Int × Int × Int × Int × Int × Int)) (ha : Lm OkArticle a) (n : Int) (h0 : 0 ≤ n) (h1 : n ≤ 1000000000000) : ∃ n' a', laws_markArticleS.f a n = some (n', a') ∧ True ∧ n ≤ n' ∧ n' ≤ n + 9000000 := by
  have := mark_only (Q := OkArticle) (fun k a n i => laws_markArticleS.l2 NN k n i a) 9 2000000000000 ?_ ?_ a ha n h0 (by omega) NN (NN_lt (by omega))
  · obtain ⟨n1, a1, e1, e3, e4⟩ := this
    exact ⟨n1, a1, e1, trivial, e3, by omega⟩
  · intro k p n
    show laws_markArticleS.g2 (laws_markArticleS.l2 NN k) n p.length p = _
    unfold laws_markArticleS.g2
    simp
  · intro x hx n n0 n1
    obtain ⟨t0, ht0⟩ := markText_some n (by omega) (by omega)
    have wk : ∀ i : Int, 0 ≤ i → i ≤ 3000000000000 → IntKind.i64.wrap i = i := fun i h h2 => w64 (by omega) (by omega)
    refine ⟨(t0, (n + 1), ((n + 1) + 1), (((n + 1) + 1) + 1), ((((n + 1) + 1) + 1) + 1), (((((n + 1) + 1) + 1) + 1) + 1), ((((((n + 1) + 1) + 1) + 1) + 1) + 1), (((((((n + 1) + 1) + 1) + 1) + 1) + 1) + 1), ((((((((n + 1) + 1) + 1) + 1) + 1) + 1) + 1) + 1)), (((((((((n + 1) + 1) + 1) + 1) + 1) + 1) + 1) + 1) + 1), by omega, by omega, fun k p r hb => ?_⟩
    · show laws_markArticleS.g2 (laws_markArticleS.l2 NN k) n p.length (p ++ x :: r) = _
      unfold laws_markArticleS.g2
      have c1 : ∀ y, (p.length : Int) < ((p ++ y :: r).length : Int) := fun y => by have := mid_len p r y; omega
      have c0 : (0 : Int) ≤ (p.length : Int) := by omega
      have cw := w64 (n := (p.length : Int) + 1) (by omega) (by omega)
      have q0 := wk (n + 1) (by omega) (by omega)
      have q1 := wk ((n + 1) + 1) (by omega) (by omega)
      have q2 := wk (((n + 1) + 1) + 1) (by omega) (by omega)
      have q3 := wk ((((n + 1) + 1) + 1) + 1) (by omega) (by omega)
      have q4 := wk (((((n + 1) + 1) + 1) + 1) + 1) (by omega) (by omega)
      have q5 := wk ((((((n + 1) + 1) + 1) + 1) + 1) + 1) (by omega) (by omega)
      have q6 := wk (((((((n + 1) + 1) + 1) + 1) + 1) + 1) + 1) (by omega) (by omega)
      have q7 := wk ((((((((n + 1) + 1) + 1) + 1) + 1) + 1) + 1) + 1) (by omega) (by omega)
      have q8 := wk (((((((((n + 1) + 1) + 1) + 1) + 1) + 1) + 1) + 1) + 1) (by omega) (by omega)
      have u0 := wk n (by omega) (by omega)
      have u1 := wk (n + 1) (by omega) (by omega)
      have u2 := wk ((n + 1) + 1) (by omega) (by omega)
      have u3 := wk (((n + 1) + 1) + 1) (by omega) (by omega)
      have u4 := wk ((((n + 1) + 1) + 1) + 1) (by omega) (by omega)
      have u5 := wk (((((n + 1) + 1) + 1) + 1) + 1) (by omega) (by omega)
      have u6 := wk ((((((n + 1) + 1) + 1) + 1) + 1) + 1) (by omega) (by omega)
      have u7 := wk (((((((n + 1) + 1) + 1) + 1) + 1) + 1) + 1) (by omega) (by omega)
      have u8 := wk ((((((((n + 1) + 1) + 1) + 1) + 1) + 1) + 1) + 1) (by omega) (by omega)
      simp only [c0, c1, and_self, decide_true, if_true, mid_get, mid_set, cw, Option.bind_some, bne_self_eq_false, beq_self_eq_true, Bool.not_true, Bool.false_eq_true, if_false, ht0, q0, q1, q2, q3, q4, q5, q6, q7, q8, u0]
end Go.Pl

namespace Go.Pl
open Go.Ev
set_option linter.unusedVariables false
set_option linter.unusedSimpArgs false
theorem laws_markBarS_ok (a : List (Int × Int)) (ha : Lm OkBar a) (n : Int) (h0 : 0 ≤ n) (h1 : n ≤ 1000000000000) : ∃ n' a', laws_markBarS.f a n = some (n', a') ∧ True ∧ n ≤ n' ∧ n' ≤ n + 2000000 := by
  have := mark_only (Q := OkBar) (fun k a n i => laws_markBarS.l2 NN k n i a) 2 2000000000000 ?_ ?_ a ha n h0 (by omega) NN (NN_lt (by omega))
  · obtain ⟨n1, a1, e1, e3, e4⟩ := this
    exact ⟨n1, a1, e1, trivial, e3, by omega⟩
  · intro k p n
    show laws_markBarS.g2 (laws_markBarS.l2 NN k) n p.length p = _
    unfold laws_markBarS.g2
    simp
  · intro x hx n n0 n1
    have wk : ∀ i : Int, 0 ≤ i → i ≤ 3000000000000 → IntKind.i64.wrap i = i := fun i h h2 => w64 (by omega) (by omega)
    refine ⟨(n, (n + 1)), ((n + 1) + 1), by omega, by omega, fun k p r hb => ?_⟩
    · show laws_markBarS.g2 (laws_markBarS.l2 NN k) n p.length (p ++ x :: r) = _
      unfold laws_markBarS.g2
      have c1 : ∀ y, (p.length : Int) < ((p ++ y :: r).length : Int) := fun y => by have := mid_len p r y; omega
      have c0 : (0 : Int) ≤ (p.length : Int) := by omega
      have cw := w64 (n := (p.length : Int) + 1) (by omega) (by omega)
      have q0 := wk (n + 1) (by omega) (by omega)
      have q1 := wk ((n + 1) + 1) (by omega) (by omega)
      have u0 := wk n (by omega) (by omega)
      have u1 := wk (n + 1) (by omega) (by omega)
      simp only [c0, c1, and_self, decide_true, if_true, mid_get, mid_set, cw, Option.bind_some, bne_self_eq_false, beq_self_eq_true, Bool.not_true, Bool.false_eq_true, if_false, q0, q1, u0]
end Go.Pl

namespace Go.Pl
open Go.Ev
set_option linter.unusedVariables false
set_option linter.unusedSimpArgs false
theorem laws_markCueS_ok (a : List (Int × Int × ByteArray × Int)) (ha : Lm OkCue a) (n : Int) (h0 : 0 ≤ n) (h1 : n ≤ 1000000000000) : ∃ n' a', laws_markCueS.f a n = some (n', a') ∧ True ∧ n ≤ n' ∧ n' ≤ n + 4000000 := by
  have := mark_only (Q := OkCue) (fun k a n i => laws_markCueS.l2 NN k n i a) 4 2000000000000 ?_ ?_ a ha n h0 (by omega) NN (NN_lt (by omega))
  · obtain ⟨n1, a1, e1, e3, e4⟩ := this
    exact ⟨n1, a1, e1, trivial, e3, by omega⟩
  · intro k p n
    show laws_markCueS.g2 (laws_markCueS.l2 NN k) n p.length p = _
    unfold laws_markCueS.g2
    simp
  · intro x hx n n0 n1
    obtain ⟨t2, ht2⟩ := markText_some ((n + 1) + 1) (by omega) (by omega)
    have wk : ∀ i : Int, 0 ≤ i → i ≤ 3000000000000 → IntKind.i64.wrap i = i := fun i h h2 => w64 (by omega) (by omega)
    refine ⟨(n, (n + 1), t2, (((n + 1) + 1) + 1)), ((((n + 1) + 1) + 1) + 1), by omega, by omega, fun k p r hb => ?_⟩
    · show laws_markCueS.g2 (laws_markCueS.l2 NN k) n p.length (p ++ x :: r) = _
      unfold laws_markCueS.g2
      have c1 : ∀ y, (p.length : Int) < ((p ++ y :: r).length : Int) := fun y => by have := mid_len p r y; omega
      have c0 : (0 : Int) ≤ (p.length : Int) := by omega
      have cw := w64 (n := (p.length : Int) + 1) (by omega) (by omega)
      have q0 := wk (n + 1) (by omega) (by omega)
      have q1 := wk ((n + 1) + 1) (by omega) (by omega)
      have q2 := wk (((n + 1) + 1) + 1) (by omega) (by omega)
      have q3 := wk ((((n + 1) + 1) + 1) + 1) (by omega) (by omega)
      have u0 := wk n (by omega) (by omega)
      have u1 := wk (n + 1) (by omega) (by omega)
      have u2 := wk ((n + 1) + 1) (by omega) (by omega)
      have u3 := wk (((n + 1) + 1) + 1) (by omega) (by omega)
      simp only [c0, c1, and_self, decide_true, if_true, mid_get, mid_set, cw, Option.bind_some, bne_self_eq_false, beq_self_eq_true, Bool.not_true, Bool.false_eq_true, if_false, ht2, q0, q1, q2, q3, u0]
end Go.Pl

namespace Go.Pl
open Go.Ev
set_option linter.unusedVariables false
set_option linter.unusedSimpArgs false
theorem laws_markShow_ok (a : (List (Int × Int)) × (List (ByteArray × Int × Int × Int × Int × Int × Int × Int × Int)) × (List (Int × Int × ByteArray × Int))) (ha : OkShow a) (n : Int) (h0 : 0 ≤ n) (h1 : n ≤ 900000000000) : ∃ (n' : Int) (a0 : List (Int × Int)) (a1 : List (ByteArray × Int × Int × Int × Int × Int × Int × Int × Int)) (a2 : List (Int × Int × ByteArray × Int)), laws_markShow.f a n = some (n', (a0, a1, a2)) ∧ True ∧ n ≤ n' ∧ n' ≤ n + 15000000 := by
  obtain ⟨n0, a0, x0, y0, z0, w0⟩ := laws_markBarS_ok a.1 ha.1 n (by omega) (by omega)
  obtain ⟨n1, a1, x1, y1, z1, w1⟩ := laws_markArticleS_ok a.2.1 ha.2.1 n0 (by omega) (by omega)
  obtain ⟨n2, a2, x2, y2, z2, w2⟩ := laws_markCueS_ok a.2.2 ha.2.2 n1 (by omega) (by omega)
  refine ⟨n2, a0, a1, a2, ?_, trivial, by omega, by omega⟩
  · unfold laws_markShow.f laws_markShow.fn laws_markShow.top
    simp only [x0, x1, x2, Option.bind_some]
end Go.Pl

namespace Go.Pl
open Go.Ev
set_option linter.unusedVariables false
set_option linter.unusedSimpArgs false
theorem laws_szBooking_ok (a : Int × ByteArray × Int) (left : Int) (h0 : -1000000000000000 ≤ left) (h1 : left ≤ 1000000) (ha : PlBooking a) : ∃ s, laws_szBooking.f a left = some s ∧ s ≤ 1000000 ∧ (0 ≤ s → s ≤ left ∧ OkBooking a) := by
  unfold laws_szBooking.f laws_szBooking.fn laws_szBooking.top
  have hz1 : a.2.1.size ≤ 140737488355328 := ha.2.1
  have hw1 := w64 (n := left - (a.2.1.size : Int)) (by omega) (by omega)
  simp only [hw1]
  by_cases hn1 : left - (a.2.1.size : Int) < 0
  · exact ⟨-1, by simp [hn1], by omega, by omega⟩
  simp only [hn1, decide_false, Bool.false_eq_true, if_false]
  exact ⟨_, rfl, by omega, fun h => ⟨by omega, ha.1, (by unfold Sm; omega), ha.2.2⟩⟩
end Go.Pl

namespace Go.Pl
open Go.Ev
set_option linter.unusedVariables false
set_option linter.unusedSimpArgs false
theorem laws_szBookingS_ok (a : List (Int × ByteArray × Int)) (left : Int) (h0 : -1000000000000000 ≤ left) (h1 : left ≤ 1000000) (ha : Ls PlBooking a) : ∃ s, laws_szBookingS.f a left = some s ∧ s ≤ 1000000 ∧ (0 ≤ s → s ≤ left ∧ Lm OkBooking a) := by
  unfold laws_szBookingS.f laws_szBookingS.fn laws_szBookingS.top
  have hl : a.length ≤ 140737488355328 := ha.1
  have hw := w64 (n := left - (a.length : Int)) (by omega) (by omega)
  simp only [hw]
  by_cases hn : left - (a.length : Int) < 0
  · exact ⟨-1, by simp [hn], by omega, by omega⟩
  · simp only [hn, decide_false, Bool.false_eq_true, if_false]
    have := szS_loop (Q := PlBooking) (R := OkBooking) (fun k a left i => laws_szBookingS.l5 NN k a left i) ?_ ?_ a NN (left - (a.length : Int)) (by omega) (by omega) ha (NN_lt (by omega))
    · obtain ⟨s, s1, s2, s3⟩ := this
      exact ⟨s, s1, by omega, fun h => ⟨by have := (s3 h).1; omega, by omega, (s3 h).2⟩⟩
    · intro k p left
      show laws_szBookingS.g5 (laws_szBookingS.l5 NN k) p left p.length = _
      unfold laws_szBookingS.g5
      simp
    · intro x hx left l0 l1
      obtain ⟨s, s1, s2, s3⟩ := laws_szBooking_ok x left l0 l1 hx
      refine ⟨s, s2, s3, fun k p r hb => ?_⟩
      show laws_szBookingS.g5 (laws_szBookingS.l5 NN k) (p ++ x :: r) left p.length = _
      unfold laws_szBookingS.g5
      have hl := mid_len p r x
      have c1 : (p.length : Int) < ((p ++ x :: r).length : Int) := by omega
      have c0 : (0 : Int) ≤ (p.length : Int) := by omega
      have cw := w64 (n := (p.length : Int) + 1) (by omega) (by omega)
      simp only [c0, c1, and_self, decide_true, if_true, mid_get, s1, Option.bind_some, cw, decide_eq_true_eq]
end Go.Pl

namespace Go.Pl
open Go.Ev
set_option linter.unusedVariables false
set_option linter.unusedSimpArgs false
theorem laws_szArticle_ok (a : ByteArray × Int × Int × Int × Int × Int × Int × Int × Int) (left : Int) (h0 : -1000000000000000 ≤ left) (h1 : left ≤ 1000000) (ha : PlArticle a) : ∃ s, laws_szArticle.f a left = some s ∧ s ≤ 1000000 ∧ (0 ≤ s → s ≤ left ∧ OkArticle a) := by
  unfold laws_szArticle.f laws_szArticle.fn laws_szArticle.top
  have hz1 : a.1.size ≤ 140737488355328 := ha.1
  have hw1 := w64 (n := left - (a.1.size : Int)) (by omega) (by omega)
  simp only [hw1]
  by_cases hn1 : left - (a.1.size : Int) < 0
  · exact ⟨-1, by simp [hn1], by omega, by omega⟩
  simp only [hn1, decide_false, Bool.false_eq_true, if_false]
  exact ⟨_, rfl, by omega, fun h => ⟨by omega, (by unfold Sm; omega), ha.2.1, ha.2.2.1, ha.2.2.2.1, ha.2.2.2.2.1, ha.2.2.2.2.2.1, ha.2.2.2.2.2.2.1, ha.2.2.2.2.2.2.2.1, ha.2.2.2.2.2.2.2.2⟩⟩
end Go.Pl

namespace Go.Pl
open Go.Ev
set_option linter.unusedVariables false
set_option linter.unusedSimpArgs false
theorem laws_szArticleS_ok (a : List (ByteArray × Int × Int × Int × Int × Int × Int × Int × Int)) (left : Int) (h0 : -1000000000000000 ≤ left) (h1 : left ≤ 1000000) (ha : Ls PlArticle a) : ∃ s, laws_szArticleS.f a left = some s ∧ s ≤ 1000000 ∧ (0 ≤ s → s ≤ left ∧ Lm OkArticle a) := by
  unfold laws_szArticleS.f laws_szArticleS.fn laws_szArticleS.top
  have hl : a.length ≤ 140737488355328 := ha.1
  have hw := w64 (n := left - (a.length : Int)) (by omega) (by omega)
  simp only [hw]
  by_cases hn : left - (a.length : Int) < 0
  · exact ⟨-1, by simp [hn], by omega, by omega⟩
  · simp only [hn, decide_false, Bool.false_eq_true, if_false]
    have := szS_loop (Q := PlArticle) (R := OkArticle) (fun k a left i => laws_szArticleS.l5 NN k a left i) ?_ ?_ a NN (left - (a.length : Int)) (by omega) (by omega) ha (NN_lt (by omega))
    · obtain ⟨s, s1, s2, s3⟩ := this
      exact ⟨s, s1, by omega, fun h => ⟨by have := (s3 h).1; omega, by omega, (s3 h).2⟩⟩
    · intro k p left
      show laws_szArticleS.g5 (laws_szArticleS.l5 NN k) p left p.length = _
      unfold laws_szArticleS.g5
      simp
    · intro x hx left l0 l1
      obtain ⟨s, s1, s2, s3⟩ := laws_szArticle_ok x left l0 l1 hx
      refine ⟨s, s2, s3, fun k p r hb => ?_⟩
      show laws_szArticleS.g5 (laws_szArticleS.l5 NN k) (p ++ x :: r) left p.length = _
      unfold laws_szArticleS.g5
      have hl := mid_len p r x
      have c1 : (p.length : Int) < ((p ++ x :: r).length : Int) := by omega
      have c0 : (0 : Int) ≤ (p.length : Int) := by omega
      have cw := w64 (n := (p.length : Int) + 1) (by omega) (by omega)
      simp only [c0, c1, and_self, decide_true, if_true, mid_get, s1, Option.bind_some, cw, decide_eq_true_eq]
end Go.Pl

namespace Go.Pl
open Go.Ev
set_option linter.unusedVariables false
set_option linter.unusedSimpArgs false
theorem laws_szBarS_ok (a : List (Int × Int)) (left : Int) (h0 : -1000000000000000 ≤ left) (h1 : left ≤ 1000000) (ha : Ls PlBar a) : ∃ s, laws_szBarS.f a left = some s ∧ s ≤ 1000000 ∧ (0 ≤ s → s ≤ left ∧ Lm OkBar a) := by
  unfold laws_szBarS.f laws_szBarS.fn laws_szBarS.top
  have hl : a.length ≤ 140737488355328 := ha.1
  have hw := w64 (n := left - (a.length : Int)) (by omega) (by omega)
  simp only [hw]
  by_cases hn : left - (a.length : Int) < 0
  · exact ⟨-1, by simp [hn], by omega, by omega⟩
  · simp only [hn, decide_false, Bool.false_eq_true, if_false]
    exact ⟨_, rfl, by omega, fun h => ⟨by omega, by omega, ha.2⟩⟩
end Go.Pl

namespace Go.Pl
open Go.Ev
set_option linter.unusedVariables false
set_option linter.unusedSimpArgs false
theorem laws_szCue_ok (a : Int × Int × ByteArray × Int) (left : Int) (h0 : -1000000000000000 ≤ left) (h1 : left ≤ 1000000) (ha : PlCue a) : ∃ s, laws_szCue.f a left = some s ∧ s ≤ 1000000 ∧ (0 ≤ s → s ≤ left ∧ OkCue a) := by
  unfold laws_szCue.f laws_szCue.fn laws_szCue.top
  have hz1 : a.2.2.1.size ≤ 140737488355328 := ha.2.2.1
  have hw1 := w64 (n := left - (a.2.2.1.size : Int)) (by omega) (by omega)
  simp only [hw1]
  by_cases hn1 : left - (a.2.2.1.size : Int) < 0
  · exact ⟨-1, by simp [hn1], by omega, by omega⟩
  simp only [hn1, decide_false, Bool.false_eq_true, if_false]
  exact ⟨_, rfl, by omega, fun h => ⟨by omega, ha.1, ha.2.1, (by unfold Sm; omega), ha.2.2.2⟩⟩
end Go.Pl

namespace Go.Pl
open Go.Ev
set_option linter.unusedVariables false
set_option linter.unusedSimpArgs false
theorem laws_szCueS_ok (a : List (Int × Int × ByteArray × Int)) (left : Int) (h0 : -1000000000000000 ≤ left) (h1 : left ≤ 1000000) (ha : Ls PlCue a) : ∃ s, laws_szCueS.f a left = some s ∧ s ≤ 1000000 ∧ (0 ≤ s → s ≤ left ∧ Lm OkCue a) := by
  unfold laws_szCueS.f laws_szCueS.fn laws_szCueS.top
  have hl : a.length ≤ 140737488355328 := ha.1
  have hw := w64 (n := left - (a.length : Int)) (by omega) (by omega)
  simp only [hw]
  by_cases hn : left - (a.length : Int) < 0
  · exact ⟨-1, by simp [hn], by omega, by omega⟩
  · simp only [hn, decide_false, Bool.false_eq_true, if_false]
    have := szS_loop (Q := PlCue) (R := OkCue) (fun k a left i => laws_szCueS.l5 NN k a left i) ?_ ?_ a NN (left - (a.length : Int)) (by omega) (by omega) ha (NN_lt (by omega))
    · obtain ⟨s, s1, s2, s3⟩ := this
      exact ⟨s, s1, by omega, fun h => ⟨by have := (s3 h).1; omega, by omega, (s3 h).2⟩⟩
    · intro k p left
      show laws_szCueS.g5 (laws_szCueS.l5 NN k) p left p.length = _
      unfold laws_szCueS.g5
      simp
    · intro x hx left l0 l1
      obtain ⟨s, s1, s2, s3⟩ := laws_szCue_ok x left l0 l1 hx
      refine ⟨s, s2, s3, fun k p r hb => ?_⟩
      show laws_szCueS.g5 (laws_szCueS.l5 NN k) (p ++ x :: r) left p.length = _
      unfold laws_szCueS.g5
      have hl := mid_len p r x
      have c1 : (p.length : Int) < ((p ++ x :: r).length : Int) := by omega
      have c0 : (0 : Int) ≤ (p.length : Int) := by omega
      have cw := w64 (n := (p.length : Int) + 1) (by omega) (by omega)
      simp only [c0, c1, and_self, decide_true, if_true, mid_get, s1, Option.bind_some, cw, decide_eq_true_eq]
end Go.Pl

namespace Go.Pl
open Go.Ev
set_option linter.unusedVariables false
set_option linter.unusedSimpArgs false
theorem laws_szShow_ok (a : (List (Int × Int)) × (List (ByteArray × Int × Int × Int × Int × Int × Int × Int × Int)) × (List (Int × Int × ByteArray × Int))) (left : Int) (h0 : -1000000000000000 ≤ left) (h1 : left ≤ 1000000) (ha : PlShow a) : ∃ s, laws_szShow.f a left = some s ∧ s ≤ 1000000 ∧ (0 ≤ s → s ≤ left ∧ OkShow a) := by
  unfold laws_szShow.f laws_szShow.fn laws_szShow.top
  obtain ⟨s1, e1, l1, k1⟩ := laws_szBarS_ok a.1 left (by omega) (by omega) ha.1
  simp only [e1, Option.bind_some, decide_eq_true_eq]
  by_cases hn1 : s1 < 0
  · exact ⟨-1, by simp [hn1], by omega, by omega⟩
  simp only [hn1, if_false]
  obtain ⟨s2, e2, l2, k2⟩ := laws_szArticleS_ok a.2.1 s1 (by omega) (by omega) ha.2.1
  simp only [e2, Option.bind_some, decide_eq_true_eq]
  by_cases hn2 : s2 < 0
  · exact ⟨-1, by simp [hn2], by omega, by omega⟩
  simp only [hn2, if_false]
  obtain ⟨s3, e3, l3, k3⟩ := laws_szCueS_ok a.2.2 s2 (by omega) (by omega) ha.2.2
  simp only [e3, Option.bind_some, decide_eq_true_eq]
  by_cases hn3 : s3 < 0
  · exact ⟨-1, by simp [hn3], by omega, by omega⟩
  simp only [hn3, if_false]
  exact ⟨_, rfl, by omega, fun h => ⟨by have t1 := (k1 (by omega)).1; have t2 := (k2 (by omega)).1; have t3 := (k3 (by omega)).1; omega, (k1 (by omega)).2, (k2 (by omega)).2, (k3 (by omega)).2⟩⟩
end Go.Pl

namespace Go.Pl
open Go.Ev
set_option linter.unusedVariables false
set_option linter.unusedSimpArgs false
theorem roomBehind_le (n : Int) (h0 : 0 ≤ n) : ∃ r, laws_roomBehind.f n = some r ∧ 0 ≤ r ∧ (r ≤ n ∨ r = 1) := by
  unfold laws_roomBehind.f laws_roomBehind.fn laws_roomBehind.top
  split
  · exact ⟨0, rfl, by omega, by omega⟩
  · split
    · exact ⟨1, rfl, by omega, .inr rfl⟩
    · exact ⟨n, rfl, h0, .inl (by omega)⟩
theorem roomv1 : room 1 = 140737488355328 := by decide
theorem roomv8 : room 8 = 17592186044416 := by decide
theorem roomv16 : room 16 = 8796093022208 := by decide
theorem roomv24 : room 24 = 5864062014805 := by decide
theorem roomv32 : room 32 = 4398046511104 := by decide
theorem roomv40 : room 40 = 3518437208883 := by decide
theorem roomv48 : room 48 = 2932031007402 := by decide
theorem roomv56 : room 56 = 2513169434916 := by decide
theorem roomv64 : room 64 = 2199023255552 := by decide
theorem roomv72 : room 72 = 1954687338268 := by decide
theorem roomv80 : room 80 = 1759218604441 := by decide
theorem roomv88 : room 88 = 1599289640401 := by decide
theorem roomv96 : room 96 = 1466015503701 := by decide
theorem roomv104 : room 104 = 1353245080339 := by decide
theorem roomv112 : room 112 = 1256584717458 := by decide
theorem roomv120 : room 120 = 1172812402961 := by decide
theorem roomv128 : room 128 = 1099511627776 := by decide
end Go.Pl

namespace Go.Pl
open Go.Ev
set_option linter.unusedVariables false
set_option linter.unusedSimpArgs false
theorem laws_toBooking_ok (a : Int × ByteArray × Int) : laws_toBooking.f a = some a := rfl
end Go.Pl

namespace Go.Pl
open Go.Ev
set_option linter.unusedVariables false
set_option linter.unusedSimpArgs false
theorem laws_toBookingS_ok (a : List (Int × ByteArray × Int)) (ha : Lm OkBooking a) (bare : Bool) : ∃ fil, laws_toBookingS.f a bare = some (a, fil) ∧ (bare = false → laws_roomBehind.f a.length = some (fil.length : Int)) ∧ fil.length ≤ 1000001 ∧ ∀ x ∈ fil, (fun _ => True) x := by
  have hl : a.length ≤ 1000000 := ha.1
  obtain ⟨r, h1, h2, h3⟩ := roomBehind_le a.length (by omega)
  have hw := w64 (n := (a.length : Int) + r) (by omega) (by omega)
  have c1 : (0 : Int) ≤ a.length + r ∧ (a.length : Int) + r < (room 32 : Nat) ∧ (a.length : Int) + r = a.length + r := by rw [roomv32]; omega
  have key : ∃ fil, laws_toBookingS.l5 NN NN a 0 (List.replicate ((a.length : Int) + r).toNat (0, (ByteArray.empty, 0))) = some (a, fil) ∧ fil.length = ((a.length : Int) + r).toNat - a.length ∧ ∀ x ∈ fil, (fun _ => True) x := by
    have := toS_loop (Z := fun _ => True) (R := OkBooking) (fun k a i out => laws_toBookingS.l5 NN k a i out) (fun k a i out => laws_toBookingS.l9 NN k a i out) ?_ ?_ ?_ ?_ a (List.replicate ((a.length : Int) + r).toNat (0, (ByteArray.empty, 0))) NN ha.2 (by rw [List.length_replicate]; omega) (by rw [List.length_replicate]; omega) (NN_lt (by omega))
    · simpa using this
    · intro k a out h
      show laws_toBookingS.g9 (laws_toBookingS.l9 NN k) a out.length out = _
      unfold laws_toBookingS.g9
      have c2 : (0 : Int) ≤ (a.length : Int) := by omega
      simp [h]
    · intro k a i out hi hb
      have d1 : (i : Int) < (out.length : Int) := by omega
      have d0 : (0 : Int) ≤ (i : Int) := by omega
      have dw := w64 (n := (i : Int) + 1) (by omega) (by omega)
      have e : laws_toBookingS.g9 (laws_toBookingS.l9 NN k) a i out = laws_toBookingS.l9 NN k a ((i : Int) + 1) (out.set i ((-7000000000000000101), ((⟨#[126, 115, 112, 97, 114, 101, 126]⟩ : ByteArray), (-7000000000000000101)))) := by
        unfold laws_toBookingS.g9
        simp only [d0, d1, and_self, decide_true, if_true, dw, Int.toNat_natCast, laws_fillerBooking.f, laws_fillerBooking.fn, laws_fillerBooking.top, Option.bind_some]
      exact ⟨_, trivial, e⟩
    · intro k a out
      show laws_toBookingS.g5 (laws_toBookingS.l9 NN NN) (laws_toBookingS.l5 NN k) a a.length out = _
      unfold laws_toBookingS.g5
      simp
    · intro k p r x q s y hx hpq hb hb2
      have hm := mid_len p r x
      have hm2 := mid_len q s y
      have d1 : (p.length : Int) < ((p ++ x :: r).length : Int) := by omega
      have d2 : (q.length : Int) < ((q ++ y :: s).length : Int) := by omega
      have d0 : (0 : Int) ≤ (q.length : Int) := by omega
      have dw := w64 (n := (q.length : Int) + 1) (by omega) (by omega)
      have g := mid_get p r x (0, (ByteArray.empty, 0))
      show laws_toBookingS.g5 (laws_toBookingS.l9 NN NN) (laws_toBookingS.l5 NN k) (p ++ x :: r) p.length (q ++ y :: s) = laws_toBookingS.l5 NN k (p ++ x :: r) ((p.length : Int) + 1) (q ++ x :: s)
      unfold laws_toBookingS.g5
      rw [hpq] at d1 g ⊢
      have e5 := hpq
      simp only [d0, d1, d2, and_self, decide_true, if_true, g, laws_toBooking_ok, Option.bind_some, dw, mid_set]
  obtain ⟨fil, k1, k2, k3⟩ := key
  have k4 : (fil.length : Int) = r := by omega
  unfold laws_toBookingS.f laws_toBookingS.fn laws_toBookingS.top
  simp only [h1, Option.bind_some, hw, c1, and_self, if_true]
  by_cases hb : bare = true
  · simp only [hb, if_true]
    by_cases he : a = []
    · subst he
      exact ⟨[], by simp, by simp, by simp, by simp⟩
    · have : ((a.length : Int) == 0) = false := by simpa using he
      simp only [this, Bool.false_eq_true, if_false]
      exact ⟨fil, by first | exact k1 | (rw [hb] at k1; exact k1), by simp, by omega, k3⟩
  · simp only [hb, Bool.false_eq_true, if_false]
    exact ⟨fil, by first | exact k1 | (rw [Bool.not_eq_true] at hb; rw [hb] at k1; exact k1), fun _ => by rw [k4], by omega, k3⟩
theorem laws_intactBookingS_self (a fil : List (Int × ByteArray × Int)) (ha : Lm OkBooking a) (h1 : laws_roomBehind.f a.length = some (fil.length : Int)) (h2 : fil.length ≤ 1000001) (h3 : ∀ x ∈ fil, (fun _ => True) x) : laws_intactBookingS.f (a, fil) (a, fil) = some true := by
  have hl : a.length ≤ 1000000 := ha.1
  unfold laws_intactBookingS.f laws_intactBookingS.fn laws_intactBookingS.top
  have hw := w64 (n := (a.length : Int) + (fil.length : Int)) (by omega) (by omega)
  have c1 : (0 : Int) ≤ a.length + fil.length ∧ (a.length : Int) + fil.length ≤ ((a ++ fil).length : Nat) := by rw [List.length_append]; omega
  simp only [h1, Option.bind_some, hw, beq_self_eq_true, if_true, c1, and_self]
  rw [laws_eqBookingS_self _ (by rw [List.length_take, List.length_append]; omega)]
  rfl
theorem laws_toBookingS_both (a : List (Int × ByteArray × Int)) (ha : Lm OkBooking a) : ∃ f : Bool → List (Int × ByteArray × Int), (∀ bare, laws_toBookingS.f a bare = some (a, f bare)) ∧ laws_intactBookingS.f (a, f false) (a, f false) = some true := by
  obtain ⟨f1, a1, a2, a3, a4⟩ := laws_toBookingS_ok a ha false
  obtain ⟨f2, b1, b2, b3, b4⟩ := laws_toBookingS_ok a ha true
  refine ⟨fun bare => if bare = true then f2 else f1, fun bare => ?_, ?_⟩
  · cases bare
    · simpa using a1
    · simpa using b1
  · simpa using laws_intactBookingS_self a f1 ha (a2 rfl) a3 a4
end Go.Pl

namespace Go.Pl
open Go.Ev
set_option linter.unusedVariables false
set_option linter.unusedSimpArgs false
theorem laws_eqInt64S_self (a : List Int) (hl : a.length ≤ 140737488355328) : laws_eqInt64S.f a a = some true := by
  unfold laws_eqInt64S.f laws_eqInt64S.fn laws_eqInt64S.top
  simp only [bne_self_eq_false, Bool.false_eq_true, if_false]
  refine eqS_loop (E := fun _ => True) (fun k a b i => laws_eqInt64S.l4 NN k a b i) a (fun _ _ => trivial) ?_ ?_ NN (NN_lt (by omega))
  · intro k p x r hx ha
    subst ha
    show laws_eqInt64S.g4 (laws_eqInt64S.l4 NN k) (p ++ x :: r) (p ++ x :: r) p.length = _
    unfold laws_eqInt64S.g4
    have hm := mid_len p r x
    have c1 : (p.length : Int) < ((p ++ x :: r).length : Int) := by omega
    have c0 : (0 : Int) ≤ (p.length : Int) := by omega
    have cw := w64 (n := (p.length : Int) + 1) (by omega) (by omega)
    simp only [c0, c1, and_self, decide_true, if_true, mid_get, beq_self_eq_true, bne_self_eq_false, Option.bind_some, cw, Bool.not_true, Bool.false_eq_true, if_false]
  · intro k
    show laws_eqInt64S.g4 (laws_eqInt64S.l4 NN k) a a a.length = _
    unfold laws_eqInt64S.g4
    simp
end Go.Pl

namespace Go.Pl
open Go.Ev
set_option linter.unusedVariables false
set_option linter.unusedSimpArgs false
theorem laws_toInt64S_ok (a : List Int) (ha : Lm (Rg .i64) a) (bare : Bool) : ∃ fil, laws_toInt64S.f a bare = some (a, fil) ∧ (bare = false → laws_roomBehind.f a.length = some (fil.length : Int)) ∧ fil.length ≤ 1000001 ∧ ∀ x ∈ fil, (fun _ => True) x := by
  have hl : a.length ≤ 1000000 := ha.1
  obtain ⟨r, h1, h2, h3⟩ := roomBehind_le a.length (by omega)
  have hw := w64 (n := (a.length : Int) + r) (by omega) (by omega)
  have c1 : (0 : Int) ≤ a.length + r ∧ (a.length : Int) + r < (room 8 : Nat) ∧ (a.length : Int) + r = a.length + r := by rw [roomv8]; omega
  have key : ∃ fil, laws_toInt64S.l5 NN NN a 0 (List.replicate ((a.length : Int) + r).toNat 0) = some (a, fil) ∧ fil.length = ((a.length : Int) + r).toNat - a.length ∧ ∀ x ∈ fil, (fun _ => True) x := by
    have := toS_loop (Z := fun _ => True) (R := Rg .i64) (fun k a i out => laws_toInt64S.l5 NN k a i out) (fun k a i out => laws_toInt64S.l9 NN k a i out) ?_ ?_ ?_ ?_ a (List.replicate ((a.length : Int) + r).toNat 0) NN ha.2 (by rw [List.length_replicate]; omega) (by rw [List.length_replicate]; omega) (NN_lt (by omega))
    · simpa using this
    · intro k a out h
      show laws_toInt64S.g9 (laws_toInt64S.l9 NN k) a out.length out = _
      unfold laws_toInt64S.g9
      have c2 : (0 : Int) ≤ (a.length : Int) := by omega
      simp [h]
    · intro k a i out hi hb
      have d1 : (i : Int) < (out.length : Int) := by omega
      have d0 : (0 : Int) ≤ (i : Int) := by omega
      have dw := w64 (n := (i : Int) + 1) (by omega) (by omega)
      have e : laws_toInt64S.g9 (laws_toInt64S.l9 NN k) a i out = laws_toInt64S.l9 NN k a ((i : Int) + 1) (out.set i (-7000000000000000101)) := by
        unfold laws_toInt64S.g9
        simp only [d0, d1, and_self, decide_true, if_true, dw, Int.toNat_natCast]
      exact ⟨_, trivial, e⟩
    · intro k a out
      show laws_toInt64S.g5 (laws_toInt64S.l9 NN NN) (laws_toInt64S.l5 NN k) a a.length out = _
      unfold laws_toInt64S.g5
      simp
    · intro k p r x q s y hx hpq hb hb2
      have hm := mid_len p r x
      have hm2 := mid_len q s y
      have d1 : (p.length : Int) < ((p ++ x :: r).length : Int) := by omega
      have d2 : (q.length : Int) < ((q ++ y :: s).length : Int) := by omega
      have d0 : (0 : Int) ≤ (q.length : Int) := by omega
      have dw := w64 (n := (q.length : Int) + 1) (by omega) (by omega)
      have g := mid_get p r x 0
      show laws_toInt64S.g5 (laws_toInt64S.l9 NN NN) (laws_toInt64S.l5 NN k) (p ++ x :: r) p.length (q ++ y :: s) = laws_toInt64S.l5 NN k (p ++ x :: r) ((p.length : Int) + 1) (q ++ x :: s)
      unfold laws_toInt64S.g5
      rw [hpq] at d1 g ⊢
      have e5 := hpq
      simp only [d0, d1, d2, and_self, decide_true, if_true, g, dw, mid_set]
  obtain ⟨fil, k1, k2, k3⟩ := key
  have k4 : (fil.length : Int) = r := by omega
  unfold laws_toInt64S.f laws_toInt64S.fn laws_toInt64S.top
  simp only [h1, Option.bind_some, hw, c1, and_self, if_true]
  by_cases hb : bare = true
  · simp only [hb, if_true]
    by_cases he : a = []
    · subst he
      exact ⟨[], by simp, by simp, by simp, by simp⟩
    · have : ((a.length : Int) == 0) = false := by simpa using he
      simp only [this, Bool.false_eq_true, if_false]
      exact ⟨fil, by first | exact k1 | (rw [hb] at k1; exact k1), by simp, by omega, k3⟩
  · simp only [hb, Bool.false_eq_true, if_false]
    exact ⟨fil, by first | exact k1 | (rw [Bool.not_eq_true] at hb; rw [hb] at k1; exact k1), fun _ => by rw [k4], by omega, k3⟩
theorem laws_intactInt64S_self (a fil : List Int) (ha : Lm (Rg .i64) a) (h1 : laws_roomBehind.f a.length = some (fil.length : Int)) (h2 : fil.length ≤ 1000001) (h3 : ∀ x ∈ fil, (fun _ => True) x) : laws_intactInt64S.f (a, fil) (a, fil) = some true := by
  have hl : a.length ≤ 1000000 := ha.1
  unfold laws_intactInt64S.f laws_intactInt64S.fn laws_intactInt64S.top
  have hw := w64 (n := (a.length : Int) + (fil.length : Int)) (by omega) (by omega)
  have c1 : (0 : Int) ≤ a.length + fil.length ∧ (a.length : Int) + fil.length ≤ ((a ++ fil).length : Nat) := by rw [List.length_append]; omega
  simp only [h1, Option.bind_some, hw, beq_self_eq_true, if_true, c1, and_self]
  rw [laws_eqInt64S_self _ (by rw [List.length_take, List.length_append]; omega)]
  rfl
theorem laws_toInt64S_both (a : List Int) (ha : Lm (Rg .i64) a) : ∃ f : Bool → List Int, (∀ bare, laws_toInt64S.f a bare = some (a, f bare)) ∧ laws_intactInt64S.f (a, f false) (a, f false) = some true := by
  obtain ⟨f1, a1, a2, a3, a4⟩ := laws_toInt64S_ok a ha false
  obtain ⟨f2, b1, b2, b3, b4⟩ := laws_toInt64S_ok a ha true
  refine ⟨fun bare => if bare = true then f2 else f1, fun bare => ?_, ?_⟩
  · cases bare
    · simpa using a1
    · simpa using b1
  · simpa using laws_intactInt64S_self a f1 ha (a2 rfl) a3 a4
end Go.Pl

namespace Go.Pl
open Go.Ev
set_option linter.unusedVariables false
set_option linter.unusedSimpArgs false
theorem laws_eqArticle_self (a : ByteArray × Int × Int × Int × Int × Int × Int × Int × Int) : laws_eqArticle.f a a = some true := by
  unfold laws_eqArticle.f laws_eqArticle.fn laws_eqArticle.top
  simp []
end Go.Pl

namespace Go.Pl
open Go.Ev
set_option linter.unusedVariables false
set_option linter.unusedSimpArgs false
theorem laws_eqArticleS_self (a : List (ByteArray × Int × Int × Int × Int × Int × Int × Int × Int)) (hl : a.length ≤ 140737488355328) : laws_eqArticleS.f a a = some true := by
  unfold laws_eqArticleS.f laws_eqArticleS.fn laws_eqArticleS.top
  simp only [bne_self_eq_false, Bool.false_eq_true, if_false]
  refine eqS_loop (E := fun _ => True) (fun k a b i => laws_eqArticleS.l4 NN k a b i) a (fun _ _ => trivial) ?_ ?_ NN (NN_lt (by omega))
  · intro k p x r hx ha
    subst ha
    show laws_eqArticleS.g4 (laws_eqArticleS.l4 NN k) (p ++ x :: r) (p ++ x :: r) p.length = _
    unfold laws_eqArticleS.g4
    have hm := mid_len p r x
    have c1 : (p.length : Int) < ((p ++ x :: r).length : Int) := by omega
    have c0 : (0 : Int) ≤ (p.length : Int) := by omega
    have cw := w64 (n := (p.length : Int) + 1) (by omega) (by omega)
    simp only [c0, c1, and_self, decide_true, if_true, mid_get, laws_eqArticle_self x, Option.bind_some, cw, Bool.not_true, Bool.false_eq_true, if_false]
  · intro k
    show laws_eqArticleS.g4 (laws_eqArticleS.l4 NN k) a a a.length = _
    unfold laws_eqArticleS.g4
    simp
end Go.Pl

namespace Go.Pl
open Go.Ev
set_option linter.unusedVariables false
set_option linter.unusedSimpArgs false
theorem laws_toArticle_ok (a : ByteArray × Int × Int × Int × Int × Int × Int × Int × Int) : laws_toArticle.f a = some a := rfl
end Go.Pl

namespace Go.Pl
open Go.Ev
set_option linter.unusedVariables false
set_option linter.unusedSimpArgs false
theorem laws_toArticleS_ok (a : List (ByteArray × Int × Int × Int × Int × Int × Int × Int × Int)) (ha : Lm OkArticle a) (bare : Bool) : ∃ fil, laws_toArticleS.f a bare = some (a, fil) ∧ (bare = false → laws_roomBehind.f a.length = some (fil.length : Int)) ∧ fil.length ≤ 1000001 ∧ ∀ x ∈ fil, (fun _ => True) x := by
  have hl : a.length ≤ 1000000 := ha.1
  obtain ⟨r, h1, h2, h3⟩ := roomBehind_le a.length (by omega)
  have hw := w64 (n := (a.length : Int) + r) (by omega) (by omega)
  have c1 : (0 : Int) ≤ a.length + r ∧ (a.length : Int) + r < (room 80 : Nat) ∧ (a.length : Int) + r = a.length + r := by rw [roomv80]; omega
  have key : ∃ fil, laws_toArticleS.l5 NN NN a 0 (List.replicate ((a.length : Int) + r).toNat (ByteArray.empty, (0, (0, (0, (0, (0, (0, (0, 0))))))))) = some (a, fil) ∧ fil.length = ((a.length : Int) + r).toNat - a.length ∧ ∀ x ∈ fil, (fun _ => True) x := by
    have := toS_loop (Z := fun _ => True) (R := OkArticle) (fun k a i out => laws_toArticleS.l5 NN k a i out) (fun k a i out => laws_toArticleS.l9 NN k a i out) ?_ ?_ ?_ ?_ a (List.replicate ((a.length : Int) + r).toNat (ByteArray.empty, (0, (0, (0, (0, (0, (0, (0, 0))))))))) NN ha.2 (by rw [List.length_replicate]; omega) (by rw [List.length_replicate]; omega) (NN_lt (by omega))
    · simpa using this
    · intro k a out h
      show laws_toArticleS.g9 (laws_toArticleS.l9 NN k) a out.length out = _
      unfold laws_toArticleS.g9
      have c2 : (0 : Int) ≤ (a.length : Int) := by omega
      simp [h]
    · intro k a i out hi hb
      have d1 : (i : Int) < (out.length : Int) := by omega
      have d0 : (0 : Int) ≤ (i : Int) := by omega
      have dw := w64 (n := (i : Int) + 1) (by omega) (by omega)
      have e : laws_toArticleS.g9 (laws_toArticleS.l9 NN k) a i out = laws_toArticleS.l9 NN k a ((i : Int) + 1) (out.set i ((⟨#[126, 115, 112, 97, 114, 101, 126]⟩ : ByteArray), ((-7000000000000000101), ((-7000000000000000101), ((-7000000000000000101), ((-7000000000000000101), ((-7000000000000000101), ((-7000000000000000101), ((-7000000000000000101), (-7000000000000000101)))))))))) := by
        unfold laws_toArticleS.g9
        simp only [d0, d1, and_self, decide_true, if_true, dw, Int.toNat_natCast, laws_fillerArticle.f, laws_fillerArticle.fn, laws_fillerArticle.top, Option.bind_some]
      exact ⟨_, trivial, e⟩
    · intro k a out
      show laws_toArticleS.g5 (laws_toArticleS.l9 NN NN) (laws_toArticleS.l5 NN k) a a.length out = _
      unfold laws_toArticleS.g5
      simp
    · intro k p r x q s y hx hpq hb hb2
      have hm := mid_len p r x
      have hm2 := mid_len q s y
      have d1 : (p.length : Int) < ((p ++ x :: r).length : Int) := by omega
      have d2 : (q.length : Int) < ((q ++ y :: s).length : Int) := by omega
      have d0 : (0 : Int) ≤ (q.length : Int) := by omega
      have dw := w64 (n := (q.length : Int) + 1) (by omega) (by omega)
      have g := mid_get p r x (ByteArray.empty, (0, (0, (0, (0, (0, (0, (0, 0))))))))
      show laws_toArticleS.g5 (laws_toArticleS.l9 NN NN) (laws_toArticleS.l5 NN k) (p ++ x :: r) p.length (q ++ y :: s) = laws_toArticleS.l5 NN k (p ++ x :: r) ((p.length : Int) + 1) (q ++ x :: s)
      unfold laws_toArticleS.g5
      rw [hpq] at d1 g ⊢
      have e5 := hpq
      simp only [d0, d1, d2, and_self, decide_true, if_true, g, laws_toArticle_ok, Option.bind_some, dw, mid_set]
  obtain ⟨fil, k1, k2, k3⟩ := key
  have k4 : (fil.length : Int) = r := by omega
  unfold laws_toArticleS.f laws_toArticleS.fn laws_toArticleS.top
  simp only [h1, Option.bind_some, hw, c1, and_self, if_true]
  by_cases hb : bare = true
  · simp only [hb, if_true]
    by_cases he : a = []
    · subst he
      exact ⟨[], by simp, by simp, by simp, by simp⟩
    · have : ((a.length : Int) == 0) = false := by simpa using he
      simp only [this, Bool.false_eq_true, if_false]
      exact ⟨fil, by first | exact k1 | (rw [hb] at k1; exact k1), by simp, by omega, k3⟩
  · simp only [hb, Bool.false_eq_true, if_false]
    exact ⟨fil, by first | exact k1 | (rw [Bool.not_eq_true] at hb; rw [hb] at k1; exact k1), fun _ => by rw [k4], by omega, k3⟩
theorem laws_intactArticleS_self (a fil : List (ByteArray × Int × Int × Int × Int × Int × Int × Int × Int)) (ha : Lm OkArticle a) (h1 : laws_roomBehind.f a.length = some (fil.length : Int)) (h2 : fil.length ≤ 1000001) (h3 : ∀ x ∈ fil, (fun _ => True) x) : laws_intactArticleS.f (a, fil) (a, fil) = some true := by
  have hl : a.length ≤ 1000000 := ha.1
  unfold laws_intactArticleS.f laws_intactArticleS.fn laws_intactArticleS.top
  have hw := w64 (n := (a.length : Int) + (fil.length : Int)) (by omega) (by omega)
  have c1 : (0 : Int) ≤ a.length + fil.length ∧ (a.length : Int) + fil.length ≤ ((a ++ fil).length : Nat) := by rw [List.length_append]; omega
  simp only [h1, Option.bind_some, hw, beq_self_eq_true, if_true, c1, and_self]
  rw [laws_eqArticleS_self _ (by rw [List.length_take, List.length_append]; omega)]
  rfl
theorem laws_toArticleS_both (a : List (ByteArray × Int × Int × Int × Int × Int × Int × Int × Int)) (ha : Lm OkArticle a) : ∃ f : Bool → List (ByteArray × Int × Int × Int × Int × Int × Int × Int × Int), (∀ bare, laws_toArticleS.f a bare = some (a, f bare)) ∧ laws_intactArticleS.f (a, f false) (a, f false) = some true := by
  obtain ⟨f1, a1, a2, a3, a4⟩ := laws_toArticleS_ok a ha false
  obtain ⟨f2, b1, b2, b3, b4⟩ := laws_toArticleS_ok a ha true
  refine ⟨fun bare => if bare = true then f2 else f1, fun bare => ?_, ?_⟩
  · cases bare
    · simpa using a1
    · simpa using b1
  · simpa using laws_intactArticleS_self a f1 ha (a2 rfl) a3 a4
end Go.Pl

namespace Go.Pl
open Go.Ev
set_option linter.unusedVariables false
set_option linter.unusedSimpArgs false
theorem laws_eqBar_self (a : Int × Int) : laws_eqBar.f a a = some true := by
  unfold laws_eqBar.f laws_eqBar.fn laws_eqBar.top
  simp []
end Go.Pl

namespace Go.Pl
open Go.Ev
set_option linter.unusedVariables false
set_option linter.unusedSimpArgs false
theorem laws_eqBarS_self (a : List (Int × Int)) (hl : a.length ≤ 140737488355328) : laws_eqBarS.f a a = some true := by
  unfold laws_eqBarS.f laws_eqBarS.fn laws_eqBarS.top
  simp only [bne_self_eq_false, Bool.false_eq_true, if_false]
  refine eqS_loop (E := fun _ => True) (fun k a b i => laws_eqBarS.l4 NN k a b i) a (fun _ _ => trivial) ?_ ?_ NN (NN_lt (by omega))
  · intro k p x r hx ha
    subst ha
    show laws_eqBarS.g4 (laws_eqBarS.l4 NN k) (p ++ x :: r) (p ++ x :: r) p.length = _
    unfold laws_eqBarS.g4
    have hm := mid_len p r x
    have c1 : (p.length : Int) < ((p ++ x :: r).length : Int) := by omega
    have c0 : (0 : Int) ≤ (p.length : Int) := by omega
    have cw := w64 (n := (p.length : Int) + 1) (by omega) (by omega)
    simp only [c0, c1, and_self, decide_true, if_true, mid_get, laws_eqBar_self x, Option.bind_some, cw, Bool.not_true, Bool.false_eq_true, if_false]
  · intro k
    show laws_eqBarS.g4 (laws_eqBarS.l4 NN k) a a a.length = _
    unfold laws_eqBarS.g4
    simp
end Go.Pl

namespace Go.Pl
open Go.Ev
set_option linter.unusedVariables false
set_option linter.unusedSimpArgs false
theorem laws_toBar_ok (a : Int × Int) : laws_toBar.f a = some a := rfl
end Go.Pl

namespace Go.Pl
open Go.Ev
set_option linter.unusedVariables false
set_option linter.unusedSimpArgs false
theorem laws_toBarS_ok (a : List (Int × Int)) (ha : Lm OkBar a) (bare : Bool) : ∃ fil, laws_toBarS.f a bare = some (a, fil) ∧ (bare = false → laws_roomBehind.f a.length = some (fil.length : Int)) ∧ fil.length ≤ 1000001 ∧ ∀ x ∈ fil, (fun _ => True) x := by
  have hl : a.length ≤ 1000000 := ha.1
  obtain ⟨r, h1, h2, h3⟩ := roomBehind_le a.length (by omega)
  have hw := w64 (n := (a.length : Int) + r) (by omega) (by omega)
  have c1 : (0 : Int) ≤ a.length + r ∧ (a.length : Int) + r < (room 16 : Nat) ∧ (a.length : Int) + r = a.length + r := by rw [roomv16]; omega
  have key : ∃ fil, laws_toBarS.l5 NN NN a 0 (List.replicate ((a.length : Int) + r).toNat (0, 0)) = some (a, fil) ∧ fil.length = ((a.length : Int) + r).toNat - a.length ∧ ∀ x ∈ fil, (fun _ => True) x := by
    have := toS_loop (Z := fun _ => True) (R := OkBar) (fun k a i out => laws_toBarS.l5 NN k a i out) (fun k a i out => laws_toBarS.l9 NN k a i out) ?_ ?_ ?_ ?_ a (List.replicate ((a.length : Int) + r).toNat (0, 0)) NN ha.2 (by rw [List.length_replicate]; omega) (by rw [List.length_replicate]; omega) (NN_lt (by omega))
    · simpa using this
    · intro k a out h
      show laws_toBarS.g9 (laws_toBarS.l9 NN k) a out.length out = _
      unfold laws_toBarS.g9
      have c2 : (0 : Int) ≤ (a.length : Int) := by omega
      simp [h]
    · intro k a i out hi hb
      have d1 : (i : Int) < (out.length : Int) := by omega
      have d0 : (0 : Int) ≤ (i : Int) := by omega
      have dw := w64 (n := (i : Int) + 1) (by omega) (by omega)
      have e : laws_toBarS.g9 (laws_toBarS.l9 NN k) a i out = laws_toBarS.l9 NN k a ((i : Int) + 1) (out.set i ((-7000000000000000101), (-7000000000000000101))) := by
        unfold laws_toBarS.g9
        simp only [d0, d1, and_self, decide_true, if_true, dw, Int.toNat_natCast, laws_fillerBar.f, laws_fillerBar.fn, laws_fillerBar.top, Option.bind_some]
      exact ⟨_, trivial, e⟩
    · intro k a out
      show laws_toBarS.g5 (laws_toBarS.l9 NN NN) (laws_toBarS.l5 NN k) a a.length out = _
      unfold laws_toBarS.g5
      simp
    · intro k p r x q s y hx hpq hb hb2
      have hm := mid_len p r x
      have hm2 := mid_len q s y
      have d1 : (p.length : Int) < ((p ++ x :: r).length : Int) := by omega
      have d2 : (q.length : Int) < ((q ++ y :: s).length : Int) := by omega
      have d0 : (0 : Int) ≤ (q.length : Int) := by omega
      have dw := w64 (n := (q.length : Int) + 1) (by omega) (by omega)
      have g := mid_get p r x (0, 0)
      show laws_toBarS.g5 (laws_toBarS.l9 NN NN) (laws_toBarS.l5 NN k) (p ++ x :: r) p.length (q ++ y :: s) = laws_toBarS.l5 NN k (p ++ x :: r) ((p.length : Int) + 1) (q ++ x :: s)
      unfold laws_toBarS.g5
      rw [hpq] at d1 g ⊢
      have e5 := hpq
      simp only [d0, d1, d2, and_self, decide_true, if_true, g, laws_toBar_ok, Option.bind_some, dw, mid_set]
  obtain ⟨fil, k1, k2, k3⟩ := key
  have k4 : (fil.length : Int) = r := by omega
  unfold laws_toBarS.f laws_toBarS.fn laws_toBarS.top
  simp only [h1, Option.bind_some, hw, c1, and_self, if_true]
  by_cases hb : bare = true
  · simp only [hb, if_true]
    by_cases he : a = []
    · subst he
      exact ⟨[], by simp, by simp, by simp, by simp⟩
    · have : ((a.length : Int) == 0) = false := by simpa using he
      simp only [this, Bool.false_eq_true, if_false]
      exact ⟨fil, by first | exact k1 | (rw [hb] at k1; exact k1), by simp, by omega, k3⟩
  · simp only [hb, Bool.false_eq_true, if_false]
    exact ⟨fil, by first | exact k1 | (rw [Bool.not_eq_true] at hb; rw [hb] at k1; exact k1), fun _ => by rw [k4], by omega, k3⟩
theorem laws_intactBarS_self (a fil : List (Int × Int)) (ha : Lm OkBar a) (h1 : laws_roomBehind.f a.length = some (fil.length : Int)) (h2 : fil.length ≤ 1000001) (h3 : ∀ x ∈ fil, (fun _ => True) x) : laws_intactBarS.f (a, fil) (a, fil) = some true := by
  have hl : a.length ≤ 1000000 := ha.1
  unfold laws_intactBarS.f laws_intactBarS.fn laws_intactBarS.top
  have hw := w64 (n := (a.length : Int) + (fil.length : Int)) (by omega) (by omega)
  have c1 : (0 : Int) ≤ a.length + fil.length ∧ (a.length : Int) + fil.length ≤ ((a ++ fil).length : Nat) := by rw [List.length_append]; omega
  simp only [h1, Option.bind_some, hw, beq_self_eq_true, if_true, c1, and_self]
  rw [laws_eqBarS_self _ (by rw [List.length_take, List.length_append]; omega)]
  rfl
theorem laws_toBarS_both (a : List (Int × Int)) (ha : Lm OkBar a) : ∃ f : Bool → List (Int × Int), (∀ bare, laws_toBarS.f a bare = some (a, f bare)) ∧ laws_intactBarS.f (a, f false) (a, f false) = some true := by
  obtain ⟨f1, a1, a2, a3, a4⟩ := laws_toBarS_ok a ha false
  obtain ⟨f2, b1, b2, b3, b4⟩ := laws_toBarS_ok a ha true
  refine ⟨fun bare => if bare = true then f2 else f1, fun bare => ?_, ?_⟩
  · cases bare
    · simpa using a1
    · simpa using b1
  · simpa using laws_intactBarS_self a f1 ha (a2 rfl) a3 a4
end Go.Pl

namespace Go.Pl
open Go.Ev
set_option linter.unusedVariables false
set_option linter.unusedSimpArgs false
theorem laws_eqCue_self (a : Int × Int × ByteArray × Int) : laws_eqCue.f a a = some true := by
  unfold laws_eqCue.f laws_eqCue.fn laws_eqCue.top
  simp []
end Go.Pl

namespace Go.Pl
open Go.Ev
set_option linter.unusedVariables false
set_option linter.unusedSimpArgs false
theorem laws_eqCueS_self (a : List (Int × Int × ByteArray × Int)) (hl : a.length ≤ 140737488355328) : laws_eqCueS.f a a = some true := by
  unfold laws_eqCueS.f laws_eqCueS.fn laws_eqCueS.top
  simp only [bne_self_eq_false, Bool.false_eq_true, if_false]
  refine eqS_loop (E := fun _ => True) (fun k a b i => laws_eqCueS.l4 NN k a b i) a (fun _ _ => trivial) ?_ ?_ NN (NN_lt (by omega))
  · intro k p x r hx ha
    subst ha
    show laws_eqCueS.g4 (laws_eqCueS.l4 NN k) (p ++ x :: r) (p ++ x :: r) p.length = _
    unfold laws_eqCueS.g4
    have hm := mid_len p r x
    have c1 : (p.length : Int) < ((p ++ x :: r).length : Int) := by omega
    have c0 : (0 : Int) ≤ (p.length : Int) := by omega
    have cw := w64 (n := (p.length : Int) + 1) (by omega) (by omega)
    simp only [c0, c1, and_self, decide_true, if_true, mid_get, laws_eqCue_self x, Option.bind_some, cw, Bool.not_true, Bool.false_eq_true, if_false]
  · intro k
    show laws_eqCueS.g4 (laws_eqCueS.l4 NN k) a a a.length = _
    unfold laws_eqCueS.g4
    simp
end Go.Pl

namespace Go.Pl
open Go.Ev
set_option linter.unusedVariables false
set_option linter.unusedSimpArgs false
theorem laws_toCue_ok (a : Int × Int × ByteArray × Int) : laws_toCue.f a = some a := rfl
end Go.Pl

namespace Go.Pl
open Go.Ev
set_option linter.unusedVariables false
set_option linter.unusedSimpArgs false
theorem laws_toCueS_ok (a : List (Int × Int × ByteArray × Int)) (ha : Lm OkCue a) (bare : Bool) : ∃ fil, laws_toCueS.f a bare = some (a, fil) ∧ (bare = false → laws_roomBehind.f a.length = some (fil.length : Int)) ∧ fil.length ≤ 1000001 ∧ ∀ x ∈ fil, (fun _ => True) x := by
  have hl : a.length ≤ 1000000 := ha.1
  obtain ⟨r, h1, h2, h3⟩ := roomBehind_le a.length (by omega)
  have hw := w64 (n := (a.length : Int) + r) (by omega) (by omega)
  have c1 : (0 : Int) ≤ a.length + r ∧ (a.length : Int) + r < (room 40 : Nat) ∧ (a.length : Int) + r = a.length + r := by rw [roomv40]; omega
  have key : ∃ fil, laws_toCueS.l5 NN NN a 0 (List.replicate ((a.length : Int) + r).toNat (0, (0, (ByteArray.empty, 0)))) = some (a, fil) ∧ fil.length = ((a.length : Int) + r).toNat - a.length ∧ ∀ x ∈ fil, (fun _ => True) x := by
    have := toS_loop (Z := fun _ => True) (R := OkCue) (fun k a i out => laws_toCueS.l5 NN k a i out) (fun k a i out => laws_toCueS.l9 NN k a i out) ?_ ?_ ?_ ?_ a (List.replicate ((a.length : Int) + r).toNat (0, (0, (ByteArray.empty, 0)))) NN ha.2 (by rw [List.length_replicate]; omega) (by rw [List.length_replicate]; omega) (NN_lt (by omega))
    · simpa using this
    · intro k a out h
      show laws_toCueS.g9 (laws_toCueS.l9 NN k) a out.length out = _
      unfold laws_toCueS.g9
      have c2 : (0 : Int) ≤ (a.length : Int) := by omega
      simp [h]
    · intro k a i out hi hb
      have d1 : (i : Int) < (out.length : Int) := by omega
      have d0 : (0 : Int) ≤ (i : Int) := by omega
      have dw := w64 (n := (i : Int) + 1) (by omega) (by omega)
      have e : laws_toCueS.g9 (laws_toCueS.l9 NN k) a i out = laws_toCueS.l9 NN k a ((i : Int) + 1) (out.set i ((-7000000000000000101), ((-7000000000000000101), ((⟨#[126, 115, 112, 97, 114, 101, 126]⟩ : ByteArray), (-7000000000000000101))))) := by
        unfold laws_toCueS.g9
        simp only [d0, d1, and_self, decide_true, if_true, dw, Int.toNat_natCast, laws_fillerCue.f, laws_fillerCue.fn, laws_fillerCue.top, Option.bind_some]
      exact ⟨_, trivial, e⟩
    · intro k a out
      show laws_toCueS.g5 (laws_toCueS.l9 NN NN) (laws_toCueS.l5 NN k) a a.length out = _
      unfold laws_toCueS.g5
      simp
    · intro k p r x q s y hx hpq hb hb2
      have hm := mid_len p r x
      have hm2 := mid_len q s y
      have d1 : (p.length : Int) < ((p ++ x :: r).length : Int) := by omega
      have d2 : (q.length : Int) < ((q ++ y :: s).length : Int) := by omega
      have d0 : (0 : Int) ≤ (q.length : Int) := by omega
      have dw := w64 (n := (q.length : Int) + 1) (by omega) (by omega)
      have g := mid_get p r x (0, (0, (ByteArray.empty, 0)))
      show laws_toCueS.g5 (laws_toCueS.l9 NN NN) (laws_toCueS.l5 NN k) (p ++ x :: r) p.length (q ++ y :: s) = laws_toCueS.l5 NN k (p ++ x :: r) ((p.length : Int) + 1) (q ++ x :: s)
      unfold laws_toCueS.g5
      rw [hpq] at d1 g ⊢
      have e5 := hpq
      simp only [d0, d1, d2, and_self, decide_true, if_true, g, laws_toCue_ok, Option.bind_some, dw, mid_set]
  obtain ⟨fil, k1, k2, k3⟩ := key
  have k4 : (fil.length : Int) = r := by omega
  unfold laws_toCueS.f laws_toCueS.fn laws_toCueS.top
  simp only [h1, Option.bind_some, hw, c1, and_self, if_true]
  by_cases hb : bare = true
  · simp only [hb, if_true]
    by_cases he : a = []
    · subst he
      exact ⟨[], by simp, by simp, by simp, by simp⟩
    · have : ((a.length : Int) == 0) = false := by simpa using he
      simp only [this, Bool.false_eq_true, if_false]
      exact ⟨fil, by first | exact k1 | (rw [hb] at k1; exact k1), by simp, by omega, k3⟩
  · simp only [hb, Bool.false_eq_true, if_false]
    exact ⟨fil, by first | exact k1 | (rw [Bool.not_eq_true] at hb; rw [hb] at k1; exact k1), fun _ => by rw [k4], by omega, k3⟩
theorem laws_intactCueS_self (a fil : List (Int × Int × ByteArray × Int)) (ha : Lm OkCue a) (h1 : laws_roomBehind.f a.length = some (fil.length : Int)) (h2 : fil.length ≤ 1000001) (h3 : ∀ x ∈ fil, (fun _ => True) x) : laws_intactCueS.f (a, fil) (a, fil) = some true := by
  have hl : a.length ≤ 1000000 := ha.1
  unfold laws_intactCueS.f laws_intactCueS.fn laws_intactCueS.top
  have hw := w64 (n := (a.length : Int) + (fil.length : Int)) (by omega) (by omega)
  have c1 : (0 : Int) ≤ a.length + fil.length ∧ (a.length : Int) + fil.length ≤ ((a ++ fil).length : Nat) := by rw [List.length_append]; omega
  simp only [h1, Option.bind_some, hw, beq_self_eq_true, if_true, c1, and_self]
  rw [laws_eqCueS_self _ (by rw [List.length_take, List.length_append]; omega)]
  rfl
theorem laws_toCueS_both (a : List (Int × Int × ByteArray × Int)) (ha : Lm OkCue a) : ∃ f : Bool → List (Int × Int × ByteArray × Int), (∀ bare, laws_toCueS.f a bare = some (a, f bare)) ∧ laws_intactCueS.f (a, f false) (a, f false) = some true := by
  obtain ⟨f1, a1, a2, a3, a4⟩ := laws_toCueS_ok a ha false
  obtain ⟨f2, b1, b2, b3, b4⟩ := laws_toCueS_ok a ha true
  refine ⟨fun bare => if bare = true then f2 else f1, fun bare => ?_, ?_⟩
  · cases bare
    · simpa using a1
    · simpa using b1
  · simpa using laws_intactCueS_self a f1 ha (a2 rfl) a3 a4
end Go.Pl

namespace Go.Pl
open Go.Ev
set_option linter.unusedVariables false
set_option linter.unusedSimpArgs false
theorem laws_toShow_both (a : (List (Int × Int)) × (List (ByteArray × Int × Int × Int × Int × Int × Int × Int × Int)) × (List (Int × Int × ByteArray × Int))) (ha : OkShow a) : ∃ (f0 : Bool → List (Int × Int)) (f1 : Bool → List (ByteArray × Int × Int × Int × Int × Int × Int × Int × Int)) (f2 : Bool → List (Int × Int × ByteArray × Int)), (∀ bare, laws_toShow.f a bare = some ((a.1, f0 bare), (a.2.1, f1 bare), (a.2.2, f2 bare))) ∧ laws_intactShow.f ((a.1, f0 false), (a.2.1, f1 false), (a.2.2, f2 false)) ((a.1, f0 false), (a.2.1, f1 false), (a.2.2, f2 false)) = some true := by
  obtain ⟨f0, a0, i0⟩ := laws_toBarS_both a.1 ha.1
  obtain ⟨f1, a1, i1⟩ := laws_toArticleS_both a.2.1 ha.2.1
  obtain ⟨f2, a2, i2⟩ := laws_toCueS_both a.2.2 ha.2.2
  refine ⟨f0, f1, f2, fun bare => ?_, ?_⟩
  · unfold laws_toShow.f laws_toShow.fn laws_toShow.top
    simp only [a0, a1, a2, Option.bind_some]
  · unfold laws_intactShow.f laws_intactShow.fn laws_intactShow.top
    simp [i0, i1, i2]
end Go.Pl

namespace Go.Pl
open Go.Ev
set_option linter.unusedVariables false
set_option linter.unusedSimpArgs false
def inB (n lo hi : Int) : Bool := decide (lo ≤ n) && decide (n ≤ hi)
theorem inB_iff {n lo hi : Int} : inB n lo hi = true ↔ lo ≤ n ∧ n ≤ hi := by unfold inB; simp
theorem impl_within_f (n lo hi : Int) : impl_within.f n lo hi = some (inB n lo hi) := by
  unfold impl_within.f impl_within.fn impl_within.top inB
  by_cases h : lo ≤ n <;> simp [h]
theorem spec_l01In_f (n lo hi : Int) : spec_l01In.f n lo hi = some (inB n lo hi) := by
  unfold spec_l01In.f spec_l01In.fn spec_l01In.top inB
  by_cases h : lo ≤ n <;> simp [h]
/-- a letter -/
def letB (c : UInt8) : Bool := !(decide ((c.toNat : Int) < 97)) && !(decide (122 < (c.toNat : Int)))
def wordB (s : ByteArray) : Bool := decide (1 ≤ s.size) && decide (s.size ≤ 16) && (bl s).all letB
theorem wordB_size {s : ByteArray} (h : wordB s = true) : 1 ≤ s.size ∧ s.size ≤ 16 := by
  unfold wordB at h; simp at h; exact h.1
theorem impl_IsWord_loop (s : ByteArray) (h : s.size ≤ 140737488355328) : impl_IsWord.l4 NN NN s 0 = if (bl s).all letB = true then some true else some false := by
  refine all_loop_str letB (fun s => some true) (fun k s i => impl_IsWord.l4 NN k s i) ?_ ?_ s h NN (NN_lt (by omega))
  · intro k p
    show impl_IsWord.g4 _ (ob p) p.length = _
    simp [impl_IsWord.g4, ob_size, spec_l01In_f]
  · intro k p a r c0 c1 cw
    show impl_IsWord.g4 (impl_IsWord.l4 NN k) (ob (p ++ a :: r)) p.length = _
    simp only [impl_IsWord.g4, c0, c1, cw, and_self, and_true, true_and, decide_true, decide_false, if_true, if_false, mid_get, mid_set, mid_getn, mid_setn, bt_mid, Option.bind_some, Bool.not_true, Bool.not_false, Bool.false_eq_true, Bool.true_eq_false, beq_self_eq_true, bne_self_eq_false, Int.toNat_natCast]
    unfold letB
    by_cases h1 : (a.toNat : Int) < 97 <;> by_cases h2 : (122 : Int) < (a.toNat : Int) <;> simp [h1, h2]
theorem spec_IsWord_loop (s : ByteArray) (h : s.size ≤ 140737488355328) : spec_IsWord.l2 NN NN s 0 = if (bl s).all letB = true then some (inB s.size 1 16) else some false := by
  refine all_loop_str letB (fun s => some (inB s.size 1 16)) (fun k s i => spec_IsWord.l2 NN k s i) ?_ ?_ s h NN (NN_lt (by omega))
  · intro k p
    show spec_IsWord.g2 _ (ob p) p.length = _
    simp [spec_IsWord.g2, ob_size, spec_l01In_f]
  · intro k p a r c0 c1 cw
    show spec_IsWord.g2 (spec_IsWord.l2 NN k) (ob (p ++ a :: r)) p.length = _
    simp only [spec_IsWord.g2, c0, c1, cw, and_self, and_true, true_and, decide_true, decide_false, if_true, if_false, mid_get, mid_set, mid_getn, mid_setn, bt_mid, Option.bind_some, Bool.not_true, Bool.not_false, Bool.false_eq_true, Bool.true_eq_false, beq_self_eq_true, bne_self_eq_false, Int.toNat_natCast]
    unfold letB
    by_cases h1 : (a.toNat : Int) < 97 <;> by_cases h2 : (122 : Int) < (a.toNat : Int) <;> simp [h1, h2]
theorem impl_IsWord_f (s : ByteArray) (h : s.size ≤ 140737488355328) : impl_IsWord.f s = some (wordB s) := by
  unfold impl_IsWord.f impl_IsWord.fn impl_IsWord.top
  rw [impl_IsWord_loop s h]
  unfold wordB
  by_cases h1 : (s.size : Int) < 1
  · have : ¬ 1 ≤ s.size := by omega
    simp [h1, this]
  · have e1 : 1 ≤ s.size := by omega
    by_cases h2 : (16 : Int) < s.size
    · have : ¬ s.size ≤ 16 := by omega
      simp [h1, h2, this]
    · have : s.size ≤ 16 := by omega
      cases h3 : (bl s).all letB <;> simp [h1, h2, this, h3, e1]
theorem spec_IsWord_f (s : ByteArray) (h : s.size ≤ 140737488355328) : spec_IsWord.f s = some (wordB s) := by
  unfold spec_IsWord.f spec_IsWord.fn spec_IsWord.top
  rw [spec_IsWord_loop s h]
  unfold wordB inB
  have e1 : decide ((1 : Int) ≤ s.size) = decide (1 ≤ s.size) := by congr 1; simp; omega
  have e2 : decide ((s.size : Int) ≤ 16) = decide (s.size ≤ 16) := by congr 1; simp; omega
  rw [e1, e2]
  cases h3 : (bl s).all letB <;> simp
end Go.Pl

namespace Go.Pl
open Go.Ev
set_option linter.unusedVariables false
noncomputable section
def impl_isDay.top (day0 : Int) : Option Bool :=
  (impl_within.f day0 0 100000).bind fun r1 =>
  some r1
def impl_isDay.fn (n : Nat) (day0 : Int) : Option Bool := impl_isDay.top day0
def impl_isDay.f (day0 : Int) : Option Bool := impl_isDay.fn NN day0
end
end Go.Pl

namespace Go.Pl
open Go.Ev
set_option linter.unusedVariables false
noncomputable section
def impl_isCalibre.top (n0 : Int) : Option Bool :=
  (impl_within.f n0 20 300).bind fun r1 =>
  some r1
def impl_isCalibre.fn (n : Nat) (n0 : Int) : Option Bool := impl_isCalibre.top n0
def impl_isCalibre.f (n0 : Int) : Option Bool := impl_isCalibre.fn NN n0
end
end Go.Pl

namespace Go.Pl
open Go.Ev
set_option linter.unusedVariables false
noncomputable section
def impl_allWithin.g2 (L2 : Int → Int → List Int → Int → Int → Option Bool) (low1 : Int) (high2 : Int) (v9 : List Int) (v10 : Int) (v11 : Int) : Option Bool :=
  if (decide ((v11 : Int) < v10)) = true then
    if (0 : Int) ≤ v11 ∧ (v11 : Int) < v9.length then
      (impl_within.f (v9.getD (v11 : Int).toNat 0) low1 high2).bind fun r1 =>
      if (!r1) = true then
        some false
      else
        L2 low1 high2 v9 v10 (IntKind.i64.wrap (v11 + 1))
    else
      none
  else
    some true
def impl_allWithin.l2 (n : Nat) : Nat → Int → Int → List Int → Int → Int → Option Bool
  | 0 => fun _ _ _ _ _ => none
  | k + 1 => impl_allWithin.g2 (impl_allWithin.l2 n k)
def impl_allWithin.top (I2 : Int → Int → List Int → Int → Int → Option Bool) (list0 : List Int) (low1 : Int) (high2 : Int) : Option Bool :=
  I2 low1 high2 list0 (list0.length : Int) 0
def impl_allWithin.fn (n : Nat) (list0 : List Int) (low1 : Int) (high2 : Int) : Option Bool := impl_allWithin.top (impl_allWithin.l2 n n) list0 low1 high2
def impl_allWithin.f (list0 : List Int) (low1 : Int) (high2 : Int) : Option Bool := impl_allWithin.fn NN list0 low1 high2
end
end Go.Pl

namespace Go.Pl
open Go.Ev
set_option linter.unusedVariables false
noncomputable section
def impl_IsPermit.g4 (L4 : Int → (Int × Int × Int × Int × List Int × Int) → Option Bool) (i3 : Int) (p1 : Int × Int × Int × Int × List Int × Int) : Option Bool :=
  if (decide ((i3 : Int) < (p1.2.2.2.2.1.length : Int))) = true then
    if (0 : Int) ≤ (IntKind.i64.wrap (i3 - 1)) ∧ ((IntKind.i64.wrap (i3 - 1)) : Int) < p1.2.2.2.2.1.length then
      if (0 : Int) ≤ i3 ∧ (i3 : Int) < p1.2.2.2.2.1.length then
        if (decide (((p1.2.2.2.2.1.getD (i3 : Int).toNat 0) : Int) ≤ (p1.2.2.2.2.1.getD ((IntKind.i64.wrap (i3 - 1)) : Int).toNat 0))) = true then
          some false
        else
          L4 (IntKind.i64.wrap (i3 + 1)) p1
      else
        none
    else
      none
  else
    some true
def impl_IsPermit.l4 (n : Nat) : Nat → Int → (Int × Int × Int × Int × List Int × Int) → Option Bool
  | 0 => fun _ _ => none
  | k + 1 => impl_IsPermit.g4 (impl_IsPermit.l4 n k)
def impl_IsPermit.top (I4 : Int → (Int × Int × Int × Int × List Int × Int) → Option Bool) (p0 : Int × Int × Int × Int × List Int × Int) : Option Bool :=
  (impl_isDay.f p0.1).bind fun r1 =>
  if (!r1) = false then
    (impl_isDay.f p0.2.1).bind fun r2 =>
    if (!r2) = false then
      if (decide ((p0.2.1 : Int) < p0.1)) = false then
        (impl_within.f p0.2.2.1 0 1000000000).bind fun r3 =>
        if (!r3) = false then
          (impl_isCalibre.f p0.2.2.2.1).bind fun r4 =>
          if (!r4) = false then
            (impl_within.f p0.2.2.2.2.2 0 3).bind fun r5 =>
            if (!r5) = false then
              (impl_allWithin.f p0.2.2.2.2.1 0 3).bind fun r6 =>
              if (!r6) = true then
                some false
              else
                I4 1 p0
            else
              some false
          else
            some false
        else
          some false
      else
        some false
    else
      some false
  else
    some false
def impl_IsPermit.fn (n : Nat) (p0 : Int × Int × Int × Int × List Int × Int) : Option Bool := impl_IsPermit.top (impl_IsPermit.l4 n n) p0
def impl_IsPermit.f (p0 : Int × Int × Int × Int × List Int × Int) : Option Bool := impl_IsPermit.fn NN p0
end
end Go.Pl

namespace Go.Pl
open Go.Ev
set_option linter.unusedVariables false
noncomputable section
def spec_IsPermit.top (p0 : Int × Int × Int × Int × List Int × Int) : Option Bool :=
  (spec_l01In.f p0.1 0 100000).bind fun r1 =>
  if r1 = true then
    (spec_l01In.f p0.2.1 p0.1 100000).bind fun r2 =>
    if r2 = true then
      (spec_l01In.f p0.2.2.1 0 1000000000).bind fun r3 =>
      if r3 = true then
        (spec_l01In.f p0.2.2.2.1 20 300).bind fun r4 =>
        if r4 = true then
          (spec_l01Rises.f p0.2.2.2.2.1 4).bind fun r5 =>
          if r5 = true then
            (spec_l01In.f p0.2.2.2.2.2 0 3).bind fun r6 =>
            some r6
          else
            some false
        else
          some false
      else
        some false
    else
      some false
  else
    some false
def spec_IsPermit.fn (n : Nat) (p0 : Int × Int × Int × Int × List Int × Int) : Option Bool := spec_IsPermit.top p0
def spec_IsPermit.f (p0 : Int × Int × Int × Int × List Int × Int) : Option Bool := spec_IsPermit.fn NN p0
end
end Go.Pl

namespace Go.Pl
open Go.Ev
set_option linter.unusedVariables false
set_option linter.unusedSimpArgs false
theorem impl_isDay_f (n : Int) : impl_isDay.f n = some (inB n 0 100000) := by
  unfold impl_isDay.f impl_isDay.fn impl_isDay.top
  rw [impl_within_f]; rfl
theorem impl_isCalibre_f (n : Int) : impl_isCalibre.f n = some (inB n 20 300) := by
  unfold impl_isCalibre.f impl_isCalibre.fn impl_isCalibre.top
  rw [impl_within_f]; rfl
theorem impl_allWithin_f (xs : List Int) (lo hi : Int) (h : xs.length ≤ 140737488355328) : impl_allWithin.f xs lo hi = some (xs.all (inB · lo hi)) := by
  have := all_loop (E := fun _ => True) (inB · lo hi) (fun _ => some true) (fun k xs i => impl_allWithin.l2 NN k lo hi xs xs.length i) ?_ ?_ xs (fun _ _ => trivial) h NN (NN_lt (by omega))
  · unfold impl_allWithin.f impl_allWithin.fn impl_allWithin.top
    refine this.trans ?_
    cases xs.all (inB · lo hi) <;> simp
  · intro k p
    simp [impl_allWithin.l2, impl_allWithin.g2]
  · intro k p a r _ c0 c1 cw
    simp only [impl_allWithin.l2, impl_allWithin.g2, c0, c1, cw, and_self, and_true, true_and, decide_true, decide_false, if_true, if_false, mid_get, mid_set, mid_getn, mid_setn, bt_mid, Option.bind_some, Bool.not_true, Bool.not_false, Bool.false_eq_true, Bool.true_eq_false, beq_self_eq_true, bne_self_eq_false, Int.toNat_natCast, impl_within_f]
    cases inB a lo hi <;> simp
/-- strictly rising -/
def risB : List Int → Bool
  | [] => true
  | [_] => true
  | a :: b :: r => decide (a < b) && risB (b :: r)
theorem risB_snoc : ∀ (p : List Int) (a b : Int), risB (p ++ [a, b]) = (risB (p ++ [a]) && decide (a < b)) := by
  intro p
  induction p with
  | nil => intro a b; simp [risB]
  | cons x p ih =>
    intro a b
    cases p with
    | nil => simp [risB]
    | cons y p =>
      have := ih a b
      simp only [List.cons_append] at this ⊢
      simp only [risB, this, Bool.and_assoc]
/-- rises, looked at from its second element on -/
def risF : Int → List Int → Bool
  | _, [] => true
  | a, b :: r => decide (a < b) && risF b r
theorem risB_cons (a : Int) (r : List Int) : risB (a :: r) = risF a r := by
  induction r generalizing a with
  | nil => rfl
  | cons b r ih => simp only [risB, risF, ih]
theorem snoc_getl (p r : List Int) (x a z : Int) : (p ++ [x] ++ a :: r).getD p.length z = x := by simp
theorem impl_IsPermit_loop (f t n c g : Int) : ∀ (r p : List Int) (x : Int) (k : Nat), p.length + r.length + 1 ≤ 140737488355328 → r.length < k →
    impl_IsPermit.l4 NN k ((p.length : Int) + 1) (f, t, n, c, p ++ [x] ++ r, g) = some (risF x r) := by
  intro r
  induction r with
  | nil =>
    intro p x k _ hk
    obtain ⟨k, rfl⟩ : ∃ j, k = j + 1 := ⟨k - 1, by omega⟩
    simp [impl_IsPermit.l4, impl_IsPermit.g4, risF]
  | cons a r ih =>
    intro p x k hb hk
    simp only [List.length_cons] at hb hk
    obtain ⟨k, rfl⟩ : ∃ j, k = j + 1 := ⟨k - 1, by omega⟩
    have hl : ((p ++ [x] ++ a :: r).length : Int) = p.length + r.length + 2 := by simp; omega
    have w1 := w64 (n := (p.length : Int) + 1 - 1) (by omega) (by omega)
    have w2 := w64 (n := (p.length : Int) + 1 + 1) (by omega) (by omega)
    have c1 : (p.length : Int) + 1 < ((p ++ [x] ++ a :: r).length : Int) := by omega
    have c2 : (0 : Int) ≤ (p.length : Int) + 1 - 1 := by omega
    have c3 : (p.length : Int) + 1 - 1 < ((p ++ [x] ++ a :: r).length : Int) := by omega
    have c4 : (0 : Int) ≤ (p.length : Int) + 1 := by omega
    have g1 : (p ++ [x] ++ a :: r).getD ((p.length : Int) + 1).toNat 0 = a := by
      rw [show ((p.length : Int) + 1).toNat = (p ++ [x]).length by simp, mid_getn]
    have g2 : (p ++ [x] ++ a :: r).getD ((p.length : Int) + 1 - 1).toNat 0 = x := by
      rw [show ((p.length : Int) + 1 - 1).toNat = p.length by omega, snoc_getl]
    simp only [impl_IsPermit.l4, impl_IsPermit.g4, w1, w2, c1, c2, c3, c4, g1, g2, and_self, decide_true, if_true, decide_eq_true_eq, risF]
    have := ih (p ++ [x]) a k (by simp; omega) (by omega)
    by_cases h : a ≤ x
    · have h' : ¬ x < a := by omega
      simp [h, h']
    · have h' : x < a := by omega
      simp only [h, h', if_false, decide_true, Bool.true_and]
      rw [← this]
      simp
theorem spec_l01Rises_loop (n : Int) (hn : Rg .i64 (n - 1)) : ∀ (r p : List Int) (x : Int) (k : Nat), p.length + r.length + 1 ≤ 140737488355328 → r.length < k →
    spec_l01Rises.l2 NN k (p ++ [x] ++ r) n ((p.length : Int) + 1) = some (r.all (inB · 0 (n - 1)) && risF x r) := by
  intro r
  induction r with
  | nil =>
    intro p x k _ hk
    obtain ⟨k, rfl⟩ : ∃ j, k = j + 1 := ⟨k - 1, by omega⟩
    simp [spec_l01Rises.l2, spec_l01Rises.g2, risF]
  | cons a r ih =>
    intro p x k hb hk
    simp only [List.length_cons] at hb hk
    obtain ⟨k, rfl⟩ : ∃ j, k = j + 1 := ⟨k - 1, by omega⟩
    have hl : ((p ++ [x] ++ a :: r).length : Int) = p.length + r.length + 2 := by simp; omega
    have w1 := w64 (n := (p.length : Int) + 1 - 1) (by omega) (by omega)
    have w2 := w64 (n := (p.length : Int) + 1 + 1) (by omega) (by omega)
    have hn' := wf64.1 hn
    have w3 := w64 (n := n - 1) (by omega) (by omega)
    have c1 : (p.length : Int) + 1 < ((p ++ [x] ++ a :: r).length : Int) := by omega
    have c2 : (0 : Int) ≤ (p.length : Int) + 1 - 1 := by omega
    have c3 : (p.length : Int) + 1 - 1 < ((p ++ [x] ++ a :: r).length : Int) := by omega
    have c4 : (0 : Int) ≤ (p.length : Int) + 1 := by omega
    have c5 : (0 : Int) < (p.length : Int) + 1 := by omega
    have g1 : (p ++ [x] ++ a :: r).getD ((p.length : Int) + 1).toNat 0 = a := by
      rw [show ((p.length : Int) + 1).toNat = (p ++ [x]).length by simp, mid_getn]
    have g2 : (p ++ [x] ++ a :: r).getD ((p.length : Int) + 1 - 1).toNat 0 = x := by
      rw [show ((p.length : Int) + 1 - 1).toNat = p.length by omega, snoc_getl]
    simp only [spec_l01Rises.l2, spec_l01Rises.g2, w1, w2, w3, c1, c2, c3, c4, c5, g1, g2, and_self, decide_true, if_true, decide_eq_true_eq, risF, spec_l01In_f, Option.bind_some, List.all_cons]
    have := ih (p ++ [x]) a k (by simp; omega) (by omega)
    cases h0 : inB a 0 (n - 1)
    · simp
    by_cases h : a ≤ x
    · have h' : ¬ x < a := by omega
      simp [h, h']
    · have h' : x < a := by omega
      simp only [h, h', if_false, decide_true, Bool.true_and, Bool.not_true, if_true]
      rw [← this]
      simp
theorem spec_l01Rises_f (xs : List Int) (n : Int) (hn : Rg .i64 (n - 1)) (h : xs.length ≤ 140737488355328) : spec_l01Rises.f xs n = some (xs.all (inB · 0 (n - 1)) && risB xs) := by
  unfold spec_l01Rises.f spec_l01Rises.fn spec_l01Rises.top
  obtain ⟨k, hk⟩ : ∃ j, NN = j + 1 := ⟨NN - 1, by have := NNb; omega⟩
  have hkb : 1000000000000000 < k := by rw [NN_eq] at hk; omega
  cases xs with
  | nil => rw [show spec_l01Rises.l2 NN NN = spec_l01Rises.l2 NN (k + 1) by rw [← hk]]; simp [spec_l01Rises.l2, spec_l01Rises.g2, risB]
  | cons a r =>
    simp only [List.length_cons] at h
    have hl := spec_l01Rises_loop n hn r [] a k (by simp; omega) (by omega)
    have hn' := wf64.1 hn
    have w3 := w64 (n := n - 1) (by omega) (by omega)
    have w1 := w64 (n := 0 + 1) (by omega) (by omega)
    have c1 : (0 : Int) < ((a :: r).length : Int) := by simp only [List.length_cons]; omega
    rw [show spec_l01Rises.l2 NN NN = spec_l01Rises.l2 NN (k + 1) by rw [← hk]]
    simp only [spec_l01Rises.l2, spec_l01Rises.g2, c1, w1, w3, spec_l01In_f]
    simp at hl
    simp [risB_cons, hl]
    cases inB a 0 (n - 1) <;> simp
def permB (p : Int × Int × Int × Int × List Int × Int) : Bool :=
  inB p.1 0 100000 && inB p.2.1 p.1 100000 && inB p.2.2.1 0 1000000000 && inB p.2.2.2.1 20 300 && (p.2.2.2.2.1.all (inB · 0 3) && risB p.2.2.2.2.1) && inB p.2.2.2.2.2 0 3
theorem spec_IsPermit_f (p : Int × Int × Int × Int × List Int × Int) (h : p.2.2.2.2.1.length ≤ 140737488355328) : spec_IsPermit.f p = some (permB p) := by
  unfold spec_IsPermit.f spec_IsPermit.fn spec_IsPermit.top permB
  simp only [spec_l01In_f, spec_l01Rises_f _ 4 (wf64.2 (by omega)) h, Option.bind_some, show (4 : Int) - 1 = 3 from rfl]
  cases inB p.1 0 100000 <;> cases inB p.2.1 p.1 100000 <;> cases inB p.2.2.1 0 1000000000 <;> cases inB p.2.2.2.1 20 300 <;> cases (p.2.2.2.2.1.all (inB · 0 3)) <;> cases risB p.2.2.2.2.1 <;> cases inB p.2.2.2.2.2 0 3 <;> rfl
theorem impl_IsPermit_f (p : Int × Int × Int × Int × List Int × Int) (h : p.2.2.2.2.1.length ≤ 140737488355328) : impl_IsPermit.f p = some (permB p) := by
  unfold impl_IsPermit.f impl_IsPermit.fn impl_IsPermit.top permB
  obtain ⟨f, t, n, c, ks, g⟩ := p
  simp only at h
  have hl : impl_IsPermit.l4 NN NN 1 (f, t, n, c, ks, g) = some (risB ks) := by
    cases ks with
    | nil =>
      obtain ⟨k, hk⟩ : ∃ j, NN = j + 1 := ⟨NN - 1, by have := NNb; omega⟩
      rw [show impl_IsPermit.l4 NN NN = impl_IsPermit.l4 NN (k + 1) by rw [← hk]]
      simp [impl_IsPermit.l4, impl_IsPermit.g4, risB]
    | cons a r =>
      simp only [List.length_cons] at h
      have := impl_IsPermit_loop f t n c g r [] a NN (by simp; omega) (NN_lt (by omega))
      simp at this
      rw [risB_cons, ← this]
  simp only [impl_isDay_f, impl_isCalibre_f, impl_within_f, impl_allWithin_f _ _ _ h, Option.bind_some, hl]
  have e : (inB f 0 100000 && inB t f 100000) = (inB f 0 100000 && inB t 0 100000 && !decide (t < f)) := by
    unfold inB
    by_cases h1 : 0 ≤ f <;> by_cases h2 : f ≤ 100000 <;> by_cases h3 : t ≤ 100000 <;> by_cases h4 : f ≤ t <;> by_cases h5 : 0 ≤ t <;> simp [h1, h2, h3, h4, h5] <;> omega
  rw [e]
  cases inB f 0 100000 <;> cases inB t 0 100000 <;> cases decide (t < f) <;> cases inB n 0 1000000000 <;> cases inB c 20 300 <;> cases (ks.all (inB · 0 3)) <;> cases inB g 0 3 <;> simp
theorem IsPermit_core (p : Int × Int × Int × Int × List Int × Int) (h : OkPermit p) : ∃ w, spec_IsPermit.f p = some w ∧ impl_IsPermit.f p = some w ∧ True :=
  have h1 : p.2.2.2.2.1.length ≤ 140737488355328 := Nat.le_trans h.2.2.2.2.1.1 (by omega)
  ⟨_, spec_IsPermit_f p h1, impl_IsPermit_f p h1, trivial⟩
end Go.Pl

namespace Go.Pl
open Go.Ev
set_option linter.unusedVariables false
noncomputable section
def impl_areLines.g4 (L4 : (List (ByteArray × Int)) → (List (ByteArray × Int)) → Int → Int → Option Bool) (lines0 : List (ByteArray × Int)) (v8 : List (ByteArray × Int)) (v9 : Int) (v10 : Int) : Option Bool :=
  if (decide ((v10 : Int) < v9)) = true then
    if (0 : Int) ≤ v10 ∧ (v10 : Int) < v8.length then
      (impl_IsWord.f ((v8.getD (v10 : Int).toNat (ByteArray.empty, 0)).1)).bind fun r1 =>
      if (!r1) = false then
        (impl_within.f ((v8.getD (v10 : Int).toNat (ByteArray.empty, 0)).2) 1 1000).bind fun r2 =>
        if (!r2) = false then
          if (decide ((0 : Int) < v10)) = true then
            if (0 : Int) ≤ (IntKind.i64.wrap (v10 - 1)) ∧ ((IntKind.i64.wrap (v10 - 1)) : Int) < lines0.length then
              if (!(Op.bytesLess ((lines0.getD ((IntKind.i64.wrap (v10 - 1)) : Int).toNat (ByteArray.empty, 0)).1).toList ((v8.getD (v10 : Int).toNat (ByteArray.empty, 0)).1).toList)) = true then
                some false
              else
                L4 lines0 v8 v9 (IntKind.i64.wrap (v10 + 1))
            else
              none
          else
            L4 lines0 v8 v9 (IntKind.i64.wrap (v10 + 1))
        else
          some false
      else
        some false
    else
      none
  else
    some true
def impl_areLines.l4 (n : Nat) : Nat → (List (ByteArray × Int)) → (List (ByteArray × Int)) → Int → Int → Option Bool
  | 0 => fun _ _ _ _ => none
  | k + 1 => impl_areLines.g4 (impl_areLines.l4 n k)
def impl_areLines.top (I4 : (List (ByteArray × Int)) → (List (ByteArray × Int)) → Int → Int → Option Bool) (lines0 : List (ByteArray × Int)) : Option Bool :=
  if (decide ((12 : Int) < (lines0.length : Int))) = true then
    some false
  else
    I4 lines0 lines0 (lines0.length : Int) 0
def impl_areLines.fn (n : Nat) (lines0 : List (ByteArray × Int)) : Option Bool := impl_areLines.top (impl_areLines.l4 n n) lines0
def impl_areLines.f (lines0 : List (ByteArray × Int)) : Option Bool := impl_areLines.fn NN lines0
end
end Go.Pl

namespace Go.Pl
open Go.Ev
set_option linter.unusedVariables false
noncomputable section
def impl_IsPaper.top (p0 : ByteArray × Int × List (ByteArray × Int)) : Option Bool :=
  (impl_IsWord.f p0.1).bind fun r1 =>
  if r1 = true then
    (impl_isDay.f p0.2.1).bind fun r2 =>
    if r2 = true then
      (impl_areLines.f p0.2.2).bind fun r3 =>
      some r3
    else
      some false
  else
    some false
def impl_IsPaper.fn (n : Nat) (p0 : ByteArray × Int × List (ByteArray × Int)) : Option Bool := impl_IsPaper.top p0
def impl_IsPaper.f (p0 : ByteArray × Int × List (ByteArray × Int)) : Option Bool := impl_IsPaper.fn NN p0
end
end Go.Pl

namespace Go.Pl
open Go.Ev
set_option linter.unusedVariables false
noncomputable section
def spec_IsPaper.g2 (L2 : Int → (ByteArray × Int × List (ByteArray × Int)) → Option Bool) (i3 : Int) (p1 : ByteArray × Int × List (ByteArray × Int)) : Option Bool :=
  if (decide ((i3 : Int) < (p1.2.2.length : Int))) = true then
    if (0 : Int) ≤ i3 ∧ (i3 : Int) < p1.2.2.length then
      (spec_IsWord.f ((p1.2.2.getD (i3 : Int).toNat (ByteArray.empty, 0)).1)).bind fun r1 =>
      if (!r1) = false then
        if (0 : Int) ≤ i3 ∧ (i3 : Int) < p1.2.2.length then
          (spec_l01In.f ((p1.2.2.getD (i3 : Int).toNat (ByteArray.empty, 0)).2) 1 1000).bind fun r2 =>
          if (!r2) = false then
            if (decide ((0 : Int) < i3)) = true then
              if (0 : Int) ≤ (IntKind.i64.wrap (i3 - 1)) ∧ ((IntKind.i64.wrap (i3 - 1)) : Int) < p1.2.2.length then
                if (0 : Int) ≤ i3 ∧ (i3 : Int) < p1.2.2.length then
                  if (!(Op.bytesLess ((p1.2.2.getD ((IntKind.i64.wrap (i3 - 1)) : Int).toNat (ByteArray.empty, 0)).1).toList ((p1.2.2.getD (i3 : Int).toNat (ByteArray.empty, 0)).1).toList)) = true then
                    some false
                  else
                    L2 (IntKind.i64.wrap (i3 + 1)) p1
                else
                  none
              else
                none
            else
              L2 (IntKind.i64.wrap (i3 + 1)) p1
          else
            some false
        else
          none
      else
        some false
    else
      none
  else
    (spec_IsWord.f p1.1).bind fun r3 =>
    if r3 = true then
      (spec_l01In.f p1.2.1 0 100000).bind fun r4 =>
      if r4 = true then
        some (decide (((p1.2.2.length : Int) : Int) ≤ 12))
      else
        some false
    else
      some false
def spec_IsPaper.l2 (n : Nat) : Nat → Int → (ByteArray × Int × List (ByteArray × Int)) → Option Bool
  | 0 => fun _ _ => none
  | k + 1 => spec_IsPaper.g2 (spec_IsPaper.l2 n k)
def spec_IsPaper.top (I2 : Int → (ByteArray × Int × List (ByteArray × Int)) → Option Bool) (p0 : ByteArray × Int × List (ByteArray × Int)) : Option Bool :=
  I2 0 p0
def spec_IsPaper.fn (n : Nat) (p0 : ByteArray × Int × List (ByteArray × Int)) : Option Bool := spec_IsPaper.top (spec_IsPaper.l2 n n) p0
def spec_IsPaper.f (p0 : ByteArray × Int × List (ByteArray × Int)) : Option Bool := spec_IsPaper.fn NN p0
end
end Go.Pl

namespace Go.Pl
open Go.Ev
set_option linter.unusedVariables false
noncomputable section
def impl_countIn.g2 (L2 : ByteArray → (List (ByteArray × Int)) → Int → Int → Option Int) (article1 : ByteArray) (v7 : List (ByteArray × Int)) (v8 : Int) (v9 : Int) : Option Int :=
  if (decide ((v9 : Int) < v8)) = true then
    if (0 : Int) ≤ v9 ∧ (v9 : Int) < v7.length then
      if (((v7.getD (v9 : Int).toNat (ByteArray.empty, 0)).1).toList == article1.toList) = true then
        some ((v7.getD (v9 : Int).toNat (ByteArray.empty, 0)).2)
      else
        L2 article1 v7 v8 (IntKind.i64.wrap (v9 + 1))
    else
      none
  else
    some 0
def impl_countIn.l2 (n : Nat) : Nat → ByteArray → (List (ByteArray × Int)) → Int → Int → Option Int
  | 0 => fun _ _ _ _ => none
  | k + 1 => impl_countIn.g2 (impl_countIn.l2 n k)
def impl_countIn.top (I2 : ByteArray → (List (ByteArray × Int)) → Int → Int → Option Int) (lines0 : List (ByteArray × Int)) (article1 : ByteArray) : Option Int :=
  I2 article1 lines0 (lines0.length : Int) 0
def impl_countIn.fn (n : Nat) (lines0 : List (ByteArray × Int)) (article1 : ByteArray) : Option Int := impl_countIn.top (impl_countIn.l2 n n) lines0 article1
def impl_countIn.f (lines0 : List (ByteArray × Int)) (article1 : ByteArray) : Option Int := impl_countIn.fn NN lines0 article1
end
end Go.Pl

namespace Go.Pl
open Go.Ev
set_option linter.unusedVariables false
noncomputable section
def spec_l29Find.g2 (L2 : ByteArray → Int → (ByteArray × Int × List (ByteArray × Int)) → Option Int) (article1 : ByteArray) (i5 : Int) (p2 : ByteArray × Int × List (ByteArray × Int)) : Option Int :=
  if (decide ((i5 : Int) < (p2.2.2.length : Int))) = true then
    if (0 : Int) ≤ i5 ∧ (i5 : Int) < p2.2.2.length then
      if (((p2.2.2.getD (i5 : Int).toNat (ByteArray.empty, 0)).1).toList == article1.toList) = true then
        some i5
      else
        L2 article1 (IntKind.i64.wrap (i5 + 1)) p2
    else
      none
  else
    some (-1)
def spec_l29Find.l2 (n : Nat) : Nat → ByteArray → Int → (ByteArray × Int × List (ByteArray × Int)) → Option Int
  | 0 => fun _ _ _ => none
  | k + 1 => spec_l29Find.g2 (spec_l29Find.l2 n k)
def spec_l29Find.top (I2 : ByteArray → Int → (ByteArray × Int × List (ByteArray × Int)) → Option Int) (p0 : ByteArray × Int × List (ByteArray × Int)) (article1 : ByteArray) : Option Int :=
  I2 article1 0 p0
def spec_l29Find.fn (n : Nat) (p0 : ByteArray × Int × List (ByteArray × Int)) (article1 : ByteArray) : Option Int := spec_l29Find.top (spec_l29Find.l2 n n) p0 article1
def spec_l29Find.f (p0 : ByteArray × Int × List (ByteArray × Int)) (article1 : ByteArray) : Option Int := spec_l29Find.fn NN p0 article1
end
end Go.Pl

namespace Go.Pl
open Go.Ev
set_option linter.unusedVariables false
set_option linter.unusedSimpArgs false
def ltS (a b : ByteArray) : Bool := Op.bytesLess a.toList b.toList
def lineOk (l : ByteArray × Int) : Bool := wordB l.1 && inB l.2 1 1000
/-- lines behind another one -/
def linesF : ByteArray × Int → List (ByteArray × Int) → Bool
  | _, [] => true
  | x, a :: r => lineOk a && ltS x.1 a.1 && linesF a r
def linesL : List (ByteArray × Int) → Bool
  | [] => true
  | a :: r => lineOk a && linesF a r
def linesB (l : List (ByteArray × Int)) : Bool := decide (l.length ≤ 12) && linesL l
def paperB (p : ByteArray × Int × List (ByteArray × Int)) : Bool := wordB p.1 && inB p.2.1 0 100000 && linesB p.2.2
theorem snoc_getl' {α : Type} (p r : List α) (x a z : α) : (p ++ [x] ++ a :: r).getD p.length z = x := by simp
theorem impl_areLines_l : ∀ (r p : List (ByteArray × Int)) (x : ByteArray × Int) (k : Nat), p.length + r.length + 1 ≤ 1000000 → r.length < k → (∀ l ∈ r, Sz l.1) →
    impl_areLines.l4 NN k (p ++ [x] ++ r) (p ++ [x] ++ r) (p ++ [x] ++ r).length ((p.length : Int) + 1) = some (linesF x r) := by
  intro r
  induction r with
  | nil =>
    intro p x k _ hk _
    obtain ⟨k, rfl⟩ : ∃ j, k = j + 1 := ⟨k - 1, by omega⟩
    simp [impl_areLines.l4, impl_areLines.g4, linesF]
  | cons a r ih =>
    intro p x k hb hk hs
    simp only [List.length_cons] at hb hk
    obtain ⟨k, rfl⟩ : ∃ j, k = j + 1 := ⟨k - 1, by omega⟩
    have hl : ((p ++ [x] ++ a :: r).length : Int) = p.length + r.length + 2 := by simp; omega
    have w1 := w64 (n := (p.length : Int) + 1 - 1) (by omega) (by omega)
    have w2 := w64 (n := (p.length : Int) + 1 + 1) (by omega) (by omega)
    have c1 : (p.length : Int) + 1 < ((p ++ [x] ++ a :: r).length : Int) := by omega
    have c2 : (0 : Int) ≤ (p.length : Int) + 1 - 1 := by omega
    have c3 : (p.length : Int) + 1 - 1 < ((p ++ [x] ++ a :: r).length : Int) := by omega
    have c4 : (0 : Int) ≤ (p.length : Int) + 1 := by omega
    have c5 : (0 : Int) < (p.length : Int) + 1 := by omega
    have g1 : ∀ z, (p ++ [x] ++ a :: r).getD ((p.length : Int) + 1).toNat z = a := fun z => by
      rw [show ((p.length : Int) + 1).toNat = (p ++ [x]).length by simp, mid_getn]
    have g2 : ∀ z, (p ++ [x] ++ a :: r).getD ((p.length : Int) + 1 - 1).toNat z = x := fun z => by
      rw [show ((p.length : Int) + 1 - 1).toNat = p.length by omega, snoc_getl']
    have := ih (p ++ [x]) a k (by simp; omega) (by omega) (fun l h => hs l (by simp [h]))
    simp only [impl_areLines.l4, impl_areLines.g4, w1, w2, c1, c2, c3, c4, c5, g1, g2, and_self, and_true, true_and, decide_true, decide_false, if_true, if_false, mid_get, mid_set, mid_getn, mid_setn, bt_mid, Option.bind_some, Bool.not_true, Bool.not_false, Bool.false_eq_true, Bool.true_eq_false, beq_self_eq_true, bne_self_eq_false, Int.toNat_natCast, impl_IsWord_f _ (hs a (by simp)), impl_within_f, linesF, lineOk]
    cases wordB a.1
    · simp
    cases inB a.2 1 1000
    · simp
    show (if (!ltS x.1 a.1) = true then _ else _) = _
    cases ltS x.1 a.1
    · simp
    · simp only [and_self, and_true, true_and, decide_true, decide_false, if_true, if_false, mid_get, mid_set, mid_getn, mid_setn, bt_mid, Option.bind_some, Bool.not_true, Bool.not_false, Bool.false_eq_true, Bool.true_eq_false, beq_self_eq_true, bne_self_eq_false, Int.toNat_natCast, Bool.true_and]
      rw [← this]
      simp
theorem impl_areLines_f (xs : List (ByteArray × Int)) (h : Lm OkLine xs) : impl_areLines.f xs = some (linesB xs) := by
  unfold impl_areLines.f impl_areLines.fn impl_areLines.top linesB
  have hl := h.1
  by_cases h12 : (12 : Int) < (xs.length : Int)
  · have : ¬ xs.length ≤ 12 := by omega
    simp [h12, this]
  have e12 : xs.length ≤ 12 := by omega
  simp only [h12, e12, and_self, and_true, true_and, decide_true, decide_false, if_true, if_false, mid_get, mid_set, mid_getn, mid_setn, bt_mid, Option.bind_some, Bool.not_true, Bool.not_false, Bool.false_eq_true, Bool.true_eq_false, beq_self_eq_true, bne_self_eq_false, Int.toNat_natCast]
  obtain ⟨k, hk⟩ : ∃ j, NN = j + 1 := ⟨NN - 1, by have := NNb; omega⟩
  have hkb : 1000000000000000 < k := by rw [NN_eq] at hk; omega
  rw [show impl_areLines.l4 NN NN = impl_areLines.l4 NN (k + 1) by rw [← hk]]
  cases xs with
  | nil => simp [impl_areLines.l4, impl_areLines.g4, linesL]
  | cons a r =>
    simp only [List.length_cons] at hl
    have := impl_areLines_l r [] a k (by simp; omega) (by omega) (fun l hl => Nat.le_trans (h.2 l (by simp [hl])).1 (by omega))
    have w2 := w64 (n := 0 + 1) (by omega) (by omega)
    have c1 : (0 : Int) < ((a :: r).length : Int) := by simp only [List.length_cons]; omega
    simp only [impl_areLines.l4, impl_areLines.g4, c1, w2, and_self, and_true, true_and, decide_true, decide_false, if_true, if_false, mid_get, mid_set, mid_getn, mid_setn, bt_mid, Option.bind_some, Bool.not_true, Bool.not_false, Bool.false_eq_true, Bool.true_eq_false, beq_self_eq_true, bne_self_eq_false, Int.toNat_natCast, Int.le_refl, impl_IsWord_f _ (Nat.le_trans (h.2 a (by simp)).1 (show 1000000 ≤ 140737488355328 by omega)), impl_within_f, linesL, lineOk, List.getD_cons_zero, Int.toNat_zero]
    simp at this
    cases wordB a.1
    · simp
    cases inB a.2 1 1000
    · simp
    simp [this]
theorem impl_IsPaper_f (p : ByteArray × Int × List (ByteArray × Int)) (h : OkPaper p) : impl_IsPaper.f p = some (paperB p) := by
  unfold impl_IsPaper.f impl_IsPaper.fn impl_IsPaper.top paperB
  rw [impl_IsWord_f _ (Nat.le_trans h.1 (by omega)), impl_isDay_f, impl_areLines_f _ h.2.2]
  cases wordB p.1 <;> cases inB p.2.1 0 100000 <;> rfl
theorem spec_IsPaper_l (v : ByteArray) (d : Int) (hv : Sz v) : ∀ (r p : List (ByteArray × Int)) (x : ByteArray × Int) (k : Nat), p.length + r.length + 1 ≤ 1000000 → r.length < k → (∀ l ∈ r, Sz l.1) →
    spec_IsPaper.l2 NN k ((p.length : Int) + 1) (v, d, p ++ [x] ++ r) = some (linesF x r && (wordB v && inB d 0 100000 && decide ((p ++ [x] ++ r).length ≤ 12))) := by
  intro r
  induction r with
  | nil =>
    intro p x k hb hk _
    obtain ⟨k, rfl⟩ : ∃ j, k = j + 1 := ⟨k - 1, by omega⟩
    have e : decide (((p ++ [x]).length : Int) ≤ 12) = decide ((p ++ [x]).length ≤ 12) := by congr 1; exact propext (by omega)
    have c1 : ¬ (p.length : Int) + 1 < ((p ++ [x]).length : Int) := by simp
    simp only [spec_IsPaper.l2, spec_IsPaper.g2, List.append_nil, c1, and_self, and_true, true_and, decide_true, decide_false, if_true, if_false, mid_get, mid_set, mid_getn, mid_setn, bt_mid, Option.bind_some, Bool.not_true, Bool.not_false, Bool.false_eq_true, Bool.true_eq_false, beq_self_eq_true, bne_self_eq_false, Int.toNat_natCast, spec_IsWord_f v hv, spec_l01In_f, linesF, e]
    cases wordB v <;> cases inB d 0 100000 <;> rfl
  | cons a r ih =>
    intro p x k hb hk hs
    simp only [List.length_cons] at hb hk
    obtain ⟨k, rfl⟩ : ∃ j, k = j + 1 := ⟨k - 1, by omega⟩
    have hl : ((p ++ [x] ++ a :: r).length : Int) = p.length + r.length + 2 := by simp; omega
    have w1 := w64 (n := (p.length : Int) + 1 - 1) (by omega) (by omega)
    have w2 := w64 (n := (p.length : Int) + 1 + 1) (by omega) (by omega)
    have c1 : (p.length : Int) + 1 < ((p ++ [x] ++ a :: r).length : Int) := by omega
    have c2 : (0 : Int) ≤ (p.length : Int) + 1 - 1 := by omega
    have c3 : (p.length : Int) + 1 - 1 < ((p ++ [x] ++ a :: r).length : Int) := by omega
    have c4 : (0 : Int) ≤ (p.length : Int) + 1 := by omega
    have c5 : (0 : Int) < (p.length : Int) + 1 := by omega
    have g1 : ∀ z, (p ++ [x] ++ a :: r).getD ((p.length : Int) + 1).toNat z = a := fun z => by
      rw [show ((p.length : Int) + 1).toNat = (p ++ [x]).length by simp, mid_getn]
    have g2 : ∀ z, (p ++ [x] ++ a :: r).getD ((p.length : Int) + 1 - 1).toNat z = x := fun z => by
      rw [show ((p.length : Int) + 1 - 1).toNat = p.length by omega, snoc_getl']
    have := ih (p ++ [x]) a k (by simp; omega) (by omega) (fun l h => hs l (by simp [h]))
    rw [show p ++ [x] ++ [a] ++ r = p ++ [x] ++ a :: r by simp, snoc_len] at this
    simp only [spec_IsPaper.l2, spec_IsPaper.g2, w1, w2, c1, c2, c3, c4, c5, g1, g2, and_self, and_true, true_and, decide_true, decide_false, if_true, if_false, mid_get, mid_set, mid_getn, mid_setn, bt_mid, Option.bind_some, Bool.not_true, Bool.not_false, Bool.false_eq_true, Bool.true_eq_false, beq_self_eq_true, bne_self_eq_false, Int.toNat_natCast, spec_IsWord_f _ (hs a (by simp)), spec_l01In_f, linesF, lineOk, this]
    cases wordB a.1
    · simp
    cases inB a.2 1 1000
    · simp
    show (if (!ltS x.1 a.1) = true then _ else _) = _
    cases ltS x.1 a.1
    · simp
    · simp
theorem spec_IsPaper_f (p : ByteArray × Int × List (ByteArray × Int)) (h : OkPaper p) : spec_IsPaper.f p = some (paperB p) := by
  obtain ⟨v, d, xs⟩ := p
  unfold spec_IsPaper.f spec_IsPaper.fn spec_IsPaper.top paperB linesB
  have hl : xs.length ≤ 1000000 := h.2.2.1
  have hv : Sz v := Nat.le_trans h.1 (by omega)
  obtain ⟨k, hk⟩ : ∃ j, NN = j + 1 := ⟨NN - 1, by have := NNb; omega⟩
  have hkb : 1000000000000000 < k := by rw [NN_eq] at hk; omega
  rw [show spec_IsPaper.l2 NN NN = spec_IsPaper.l2 NN (k + 1) by rw [← hk]]
  cases xs with
  | nil =>
    simp only [spec_IsPaper.l2, spec_IsPaper.g2, spec_IsWord_f v hv, spec_l01In_f, linesL, and_self, and_true, true_and, decide_true, decide_false, if_true, if_false, mid_get, mid_set, mid_getn, mid_setn, bt_mid, Option.bind_some, Bool.not_true, Bool.not_false, Bool.false_eq_true, Bool.true_eq_false, beq_self_eq_true, bne_self_eq_false, Int.toNat_natCast]
    cases wordB v <;> cases inB d 0 100000 <;> rfl
  | cons a r =>
    simp only [List.length_cons] at hl
    have hxs : Lm OkLine (a :: r) := h.2.2
    have := spec_IsPaper_l v d hv r [] a k (by simp; omega) (by omega) (fun l hl => Nat.le_trans (hxs.2 l (by simp [hl])).1 (by omega))
    have w2 := w64 (n := 0 + 1) (by omega) (by omega)
    have c1 : (0 : Int) < ((a :: r).length : Int) := by simp only [List.length_cons]; omega
    simp only [List.nil_append, List.length_nil, List.cons_append] at this
    rw [show (((0 : Nat) : Int) + 1) = 0 + 1 from rfl] at this
    simp only [spec_IsPaper.l2, spec_IsPaper.g2, c1, w2, and_self, and_true, true_and, decide_true, decide_false, if_true, if_false, mid_get, mid_set, mid_getn, mid_setn, bt_mid, Option.bind_some, Bool.not_true, Bool.not_false, Bool.false_eq_true, Bool.true_eq_false, beq_self_eq_true, bne_self_eq_false, Int.toNat_natCast, Int.le_refl, spec_IsWord_f _ (Nat.le_trans (hxs.2 a (by simp)).1 (show 1000000 ≤ 140737488355328 by omega)), spec_l01In_f, linesL, lineOk, List.getD_cons_zero, Int.toNat_zero]
    cases wordB a.1
    · simp
    cases inB a.2 1 1000
    · simp
    simp only [Int.lt_irrefl, decide_false, and_self, and_true, true_and, decide_true, decide_false, if_true, if_false, mid_get, mid_set, mid_getn, mid_setn, bt_mid, Option.bind_some, Bool.not_true, Bool.not_false, Bool.false_eq_true, Bool.true_eq_false, beq_self_eq_true, bne_self_eq_false, Int.toNat_natCast]
    rw [this]
    cases linesF a r <;> cases wordB v <;> cases inB d 0 100000 <;> simp
/-- how many of an article -/
def cntL (a : ByteArray) : List (ByteArray × Int) → Int
  | [] => 0
  | l :: r => if l.1 = a then l.2 else cntL a r
theorem impl_countIn_f (xs : List (ByteArray × Int)) (a : ByteArray) (h : xs.length ≤ 1000000) : impl_countIn.f xs a = some (cntL a xs) := by
  have := find_loop (E := fun _ => True) (fun l : ByteArray × Int => decide (l.1 = a)) (fun _ l => some l.2) (fun _ => some 0) (fun k xs i => impl_countIn.l2 NN k a xs xs.length i) ?_ ?_ xs (fun _ _ => trivial) (by omega) NN (NN_lt (by omega))
  · refine this.trans ?_
    have key : ∀ (xs : List (ByteArray × Int)) (i : Nat), (firstOf (fun l : ByteArray × Int => decide (l.1 = a)) i xs).elim (some 0) (fun x => some x.2.2) = some (cntL a xs) := by
      intro xs
      induction xs with
      | nil => intro i; rfl
      | cons l r ih =>
        intro i
        by_cases h : l.1 = a
        · simp [firstOf, cntL, h]
        · simp only [firstOf, cntL, h, decide_false, Bool.false_eq_true, if_false]
          exact ih _
    exact key xs 0
  · intro k p
    simp [impl_countIn.l2, impl_countIn.g2]
  · intro k p l r _ c0 c1 c2 cw
    simp only [impl_countIn.l2, impl_countIn.g2, c0, c1, cw, and_self, and_true, true_and, decide_true, decide_false, if_true, if_false, mid_get, mid_set, mid_getn, mid_setn, bt_mid, Option.bind_some, Bool.not_true, Bool.not_false, Bool.false_eq_true, Bool.true_eq_false, beq_self_eq_true, bne_self_eq_false, Int.toNat_natCast, ba_beq]
theorem spec_l29Find_f (p : ByteArray × Int × List (ByteArray × Int)) (a : ByteArray) (h : p.2.2.length ≤ 1000000) : spec_l29Find.f p a = some ((firstOf (fun l : ByteArray × Int => decide (l.1 = a)) 0 p.2.2).elim (-1) (fun x => (x.1 : Int))) := by
  obtain ⟨v, d, xs⟩ := p
  have h : xs.length ≤ 1000000 := h
  have := find_loop (E := fun _ => True) (fun l : ByteArray × Int => decide (l.1 = a)) (fun i _ => some (i : Int)) (fun _ => some (-1)) (fun k xs i => spec_l29Find.l2 NN k a i (v, d, xs)) ?_ ?_ xs (fun _ _ => trivial) (by omega) NN (NN_lt (by omega))
  · refine this.trans ?_
    cases firstOf (fun l : ByteArray × Int => decide (l.1 = a)) 0 xs <;> rfl
  · intro k p
    simp [spec_l29Find.l2, spec_l29Find.g2]
  · intro k p l r _ c0 c1 c2 cw
    simp only [spec_l29Find.l2, spec_l29Find.g2, c0, c1, cw, and_self, and_true, true_and, decide_true, decide_false, if_true, if_false, mid_get, mid_set, mid_getn, mid_setn, bt_mid, Option.bind_some, Bool.not_true, Bool.not_false, Bool.false_eq_true, Bool.true_eq_false, beq_self_eq_true, bne_self_eq_false, Int.toNat_natCast, ba_beq]
/-- what is found: its number and its line -/
theorem firstOf_spec {α : Type} (P : α → Bool) : ∀ (xs : List α) (i j : Nat) (x : α), firstOf P i xs = some (j, x) → i ≤ j ∧ j < i + xs.length ∧ xs[j - i]? = some x ∧ P x = true := by
  intro xs
  induction xs with
  | nil => intro i j x h; cases h
  | cons a r ih =>
    intro i j x h
    simp only [firstOf] at h
    split at h
    · rename_i hp
      cases h
      refine ⟨by omega, by simp, by simp, hp⟩
    · obtain ⟨h1, h2, h3, h4⟩ := ih _ _ _ h
      refine ⟨by omega, by simp; omega, ?_, h4⟩
      rw [show j - i = (j - (i + 1)) + 1 by omega, List.getElem?_cons_succ]; exact h3
theorem cntL_first (a : ByteArray) : ∀ (xs : List (ByteArray × Int)) (i : Nat), cntL a xs = (firstOf (fun l : ByteArray × Int => decide (l.1 = a)) i xs).elim 0 (fun x => x.2.2) := by
  intro xs
  induction xs with
  | nil => intro i; rfl
  | cons l r ih =>
    intro i
    by_cases h : l.1 = a
    · simp [firstOf, cntL, h]
    · simp only [firstOf, cntL, h, decide_false, Bool.false_eq_true, if_false]
      exact ih _
theorem linesF_ok : ∀ (r : List (ByteArray × Int)) (x : ByteArray × Int), linesF x r = true → ∀ l ∈ r, lineOk l = true := by
  intro r
  induction r with
  | nil => intro x _ l hl; cases hl
  | cons a r ih =>
    intro x h l hl
    simp only [linesF, Bool.and_eq_true] at h
    rcases List.mem_cons.1 hl with rfl | hl
    · exact h.1.1
    · exact ih a h.2 l hl
theorem linesB_ok {xs : List (ByteArray × Int)} (h : linesB xs = true) : xs.length ≤ 12 ∧ ∀ l ∈ xs, lineOk l = true := by
  unfold linesB at h
  simp only [Bool.and_eq_true, decide_eq_true_eq] at h
  refine ⟨h.1, ?_⟩
  cases xs with
  | nil => intro l hl; cases hl
  | cons a r =>
    have h2 := h.2
    simp only [linesL, Bool.and_eq_true] at h2
    intro l hl
    rcases List.mem_cons.1 hl with rfl | hl
    · exact h2.1
    · exact linesF_ok r a h2.2 l hl
theorem lineOk_iff {l : ByteArray × Int} : lineOk l = true ↔ wordB l.1 = true ∧ 1 ≤ l.2 ∧ l.2 ≤ 1000 := by
  unfold lineOk; rw [Bool.and_eq_true, inB_iff]
theorem cntL_bd (a : ByteArray) : ∀ (xs : List (ByteArray × Int)), (∀ l ∈ xs, lineOk l = true) → 0 ≤ cntL a xs ∧ cntL a xs ≤ 1000 := by
  intro xs
  induction xs with
  | nil => intro _; simp [cntL]
  | cons l r ih =>
    intro h
    have h1 := lineOk_iff.1 (h l (by simp))
    have h2 := ih fun x hx => h x (by simp [hx])
    simp only [cntL]
    split <;> omega
end Go.Pl

namespace Go.Pl
open Go.Ev
set_option linter.unusedVariables false
noncomputable section
def impl_MissingLines.g5 (L5 : (List (ByteArray × Int)) → Int → Int → (ByteArray × Int × List (ByteArray × Int)) → (List (ByteArray × Int)) → Option ((List (ByteArray × Int)) × Int)) (v19 : List (ByteArray × Int)) (v20 : Int) (v21 : Int) (b3 : ByteArray × Int × List (ByteArray × Int)) (out6 : List (ByteArray × Int)) : Option ((List (ByteArray × Int)) × Int) :=
  if (decide ((v21 : Int) < v20)) = true then
    if (0 : Int) ≤ v21 ∧ (v21 : Int) < v19.length then
      (impl_countIn.f b3.2.2 ((v19.getD (v21 : Int).toNat (ByteArray.empty, 0)).1)).bind fun r3 =>
      if (decide ((0 : Int) < (IntKind.i64.wrap (((v19.getD (v21 : Int).toNat (ByteArray.empty, 0)).2) - r3)))) = true then
        if out6.length + ([((v19.getD (v21 : Int).toNat (ByteArray.empty, 0)).1, IntKind.i64.wrap (((v19.getD (v21 : Int).toNat (ByteArray.empty, 0)).2) - r3))]).length < room 24 then
          L5 v19 v20 (IntKind.i64.wrap (v21 + 1)) b3 (out6 ++ ([((v19.getD (v21 : Int).toNat (ByteArray.empty, 0)).1, IntKind.i64.wrap (((v19.getD (v21 : Int).toNat (ByteArray.empty, 0)).2) - r3))]))
        else
          none
      else
        L5 v19 v20 (IntKind.i64.wrap (v21 + 1)) b3 out6
    else
      none
  else
    some (out6, 0)
def impl_MissingLines.l5 (n : Nat) : Nat → (List (ByteArray × Int)) → Int → Int → (ByteArray × Int × List (ByteArray × Int)) → (List (ByteArray × Int)) → Option ((List (ByteArray × Int)) × Int)
  | 0 => fun _ _ _ _ _ => none
  | k + 1 => impl_MissingLines.g5 (impl_MissingLines.l5 n k)
def impl_MissingLines.top (I5 : (List (ByteArray × Int)) → Int → Int → (ByteArray × Int × List (ByteArray × Int)) → (List (ByteArray × Int)) → Option ((List (ByteArray × Int)) × Int)) (a0 : ByteArray × Int × List (ByteArray × Int)) (b1 : ByteArray × Int × List (ByteArray × Int)) : Option ((List (ByteArray × Int)) × Int) :=
  (impl_IsPaper.f a0).bind fun r1 =>
  if (!r1) = false then
    (impl_IsPaper.f b1).bind fun r2 =>
    if (!r2) = true then
      some ([], 1)
    else
      I5 a0.2.2 (a0.2.2.length : Int) 0 b1 []
  else
    some ([], 1)
def impl_MissingLines.fn (n : Nat) (a0 : ByteArray × Int × List (ByteArray × Int)) (b1 : ByteArray × Int × List (ByteArray × Int)) : Option ((List (ByteArray × Int)) × Int) := impl_MissingLines.top (impl_MissingLines.l5 n n) a0 b1
def impl_MissingLines.f (a0 : ByteArray × Int × List (ByteArray × Int)) (b1 : ByteArray × Int × List (ByteArray × Int)) : Option ((List (ByteArray × Int)) × Int) := impl_MissingLines.fn NN a0 b1
end
end Go.Pl

namespace Go.Pl
open Go.Ev
set_option linter.unusedVariables false
noncomputable section
def spec_MissingLines.g5 (L5 : Int → (ByteArray × Int × List (ByteArray × Int)) → (ByteArray × Int × List (ByteArray × Int)) → (List (ByteArray × Int)) → Option ((List (ByteArray × Int)) × Int)) (i7 : Int) (a2 : ByteArray × Int × List (ByteArray × Int)) (b3 : ByteArray × Int × List (ByteArray × Int)) (out6 : List (ByteArray × Int)) : Option ((List (ByteArray × Int)) × Int) :=
  if (decide ((i7 : Int) < (a2.2.2.length : Int))) = true then
    if (0 : Int) ≤ i7 ∧ (i7 : Int) < a2.2.2.length then
      if (0 : Int) ≤ i7 ∧ (i7 : Int) < a2.2.2.length then
        (spec_l29Find.f b3 ((a2.2.2.getD (i7 : Int).toNat (ByteArray.empty, 0)).1)).bind fun r3 =>
        if (decide ((0 : Int) ≤ r3)) = true then
          if (0 : Int) ≤ r3 ∧ (r3 : Int) < b3.2.2.length then
            if (decide ((0 : Int) < (IntKind.i64.wrap (((a2.2.2.getD (i7 : Int).toNat (ByteArray.empty, 0)).2) - ((b3.2.2.getD (r3 : Int).toNat (ByteArray.empty, 0)).2))))) = true then
              if (0 : Int) ≤ i7 ∧ (i7 : Int) < a2.2.2.length then
                if out6.length + ([((a2.2.2.getD (i7 : Int).toNat (ByteArray.empty, 0)).1, IntKind.i64.wrap (((a2.2.2.getD (i7 : Int).toNat (ByteArray.empty, 0)).2) - ((b3.2.2.getD (r3 : Int).toNat (ByteArray.empty, 0)).2)))]).length < room 24 then
                  L5 (IntKind.i64.wrap (i7 + 1)) a2 b3 (out6 ++ ([((a2.2.2.getD (i7 : Int).toNat (ByteArray.empty, 0)).1, IntKind.i64.wrap (((a2.2.2.getD (i7 : Int).toNat (ByteArray.empty, 0)).2) - ((b3.2.2.getD (r3 : Int).toNat (ByteArray.empty, 0)).2)))]))
                else
                  none
              else
                none
            else
              L5 (IntKind.i64.wrap (i7 + 1)) a2 b3 out6
          else
            none
        else if (decide ((0 : Int) < ((a2.2.2.getD (i7 : Int).toNat (ByteArray.empty, 0)).2))) = true then
          if (0 : Int) ≤ i7 ∧ (i7 : Int) < a2.2.2.length then
            if out6.length + ([((a2.2.2.getD (i7 : Int).toNat (ByteArray.empty, 0)).1, (a2.2.2.getD (i7 : Int).toNat (ByteArray.empty, 0)).2)]).length < room 24 then
              L5 (IntKind.i64.wrap (i7 + 1)) a2 b3 (out6 ++ ([((a2.2.2.getD (i7 : Int).toNat (ByteArray.empty, 0)).1, (a2.2.2.getD (i7 : Int).toNat (ByteArray.empty, 0)).2)]))
            else
              none
          else
            none
        else
          L5 (IntKind.i64.wrap (i7 + 1)) a2 b3 out6
      else
        none
    else
      none
  else
    some (out6, 0)
def spec_MissingLines.l5 (n : Nat) : Nat → Int → (ByteArray × Int × List (ByteArray × Int)) → (ByteArray × Int × List (ByteArray × Int)) → (List (ByteArray × Int)) → Option ((List (ByteArray × Int)) × Int)
  | 0 => fun _ _ _ _ => none
  | k + 1 => spec_MissingLines.g5 (spec_MissingLines.l5 n k)
def spec_MissingLines.top (I5 : Int → (ByteArray × Int × List (ByteArray × Int)) → (ByteArray × Int × List (ByteArray × Int)) → (List (ByteArray × Int)) → Option ((List (ByteArray × Int)) × Int)) (a0 : ByteArray × Int × List (ByteArray × Int)) (b1 : ByteArray × Int × List (ByteArray × Int)) : Option ((List (ByteArray × Int)) × Int) :=
  (spec_IsPaper.f a0).bind fun r1 =>
  if (!r1) = false then
    (spec_IsPaper.f b1).bind fun r2 =>
    if (!r2) = true then
      some ([], 1)
    else
      I5 0 a0 b1 []
  else
    some ([], 1)
def spec_MissingLines.fn (n : Nat) (a0 : ByteArray × Int × List (ByteArray × Int)) (b1 : ByteArray × Int × List (ByteArray × Int)) : Option ((List (ByteArray × Int)) × Int) := spec_MissingLines.top (spec_MissingLines.l5 n n) a0 b1
def spec_MissingLines.f (a0 : ByteArray × Int × List (ByteArray × Int)) (b1 : ByteArray × Int × List (ByteArray × Int)) : Option ((List (ByteArray × Int)) × Int) := spec_MissingLines.fn NN a0 b1
end
end Go.Pl

namespace Go.Pl
open Go.Ev
set_option linter.unusedVariables false
set_option linter.unusedSimpArgs false
def missF (bs : List (ByteArray × Int)) (out : List (ByteArray × Int)) (l : ByteArray × Int) : List (ByteArray × Int) := if 0 < l.2 - cntL l.1 bs then out ++ [(l.1, l.2 - cntL l.1 bs)] else out
def missL (ax bs : List (ByteArray × Int)) : List (ByteArray × Int) := ax.foldl (missF bs) []
theorem missF_ok (bs : List (ByteArray × Int)) (hb : ∀ l ∈ bs, lineOk l = true) (out : List (ByteArray × Int)) (l : ByteArray × Int) (hl : lineOk l = true) (n : Nat) (h : out.length ≤ n ∧ ∀ x ∈ out, lineOk x = true) : (missF bs out l).length ≤ n + 1 ∧ ∀ x ∈ missF bs out l, lineOk x = true := by
  have h1 := lineOk_iff.1 hl
  have h2 := cntL_bd l.1 bs hb
  unfold missF
  split
  · refine ⟨by simp; omega, fun x hx => ?_⟩
    rcases List.mem_append.1 hx with h3 | h3
    · exact h.2 x h3
    · rw [List.mem_singleton.1 h3]; exact lineOk_iff.2 ⟨h1.1, by simp only; omega, by simp only; omega⟩
  · exact ⟨by omega, h.2⟩
theorem room24' {α : Type} (out : List α) (x : α) (h : out.length ≤ 2000000) : out.length + [x].length < room 24 := by rw [room24]; simp; omega
theorem impl_Missing_l (v : ByteArray) (d : Int) (ax bs : List (ByteArray × Int)) (ha : ∀ l ∈ ax, lineOk l = true) (hb : ∀ l ∈ bs, lineOk l = true) (hla : ax.length ≤ 12) (hlb : bs.length ≤ 12) :
    ((missL ax bs).length ≤ ax.length ∧ ∀ x ∈ missL ax bs, lineOk x = true) ∧ impl_MissingLines.l5 NN NN ax ax.length 0 (v, d, bs) [] = some (missL ax bs, 0) := by
  have := fold_fix (E := fun l => lineOk l = true) (fun p st => st.length ≤ p.length ∧ ∀ x ∈ st, lineOk x = true) (fun _ => missF bs) (fun st => some (st, (0 : Int))) (fun k i st => impl_MissingLines.l5 NN k ax ax.length i (v, d, bs) st) ax ?_ ?_ [] ha ⟨by simp, by simp⟩ (by omega) NN (NN_lt (by omega))
  · rw [foldi_foldl] at this
    exact this
  · intro k st _
    simp [impl_MissingLines.l5, impl_MissingLines.g5]
  · intro k p l r st hx hl hI c0 c1 c2 cw g
    have h1 := lineOk_iff.1 hl
    have h2 := cntL_bd l.1 bs hb
    have e1 := w64 (n := l.2 - cntL l.1 bs) (by omega) (by omega)
    refine ⟨by rw [List.length_append, List.length_singleton]; exact missF_ok bs hb st l hl p.length hI, ?_⟩
    simp only [impl_MissingLines.l5, impl_MissingLines.g5, c0, c1, cw, and_self, and_true, true_and, decide_true, decide_false, if_true, if_false, mid_get, mid_set, mid_getn, mid_setn, bt_mid, Option.bind_some, Bool.not_true, Bool.not_false, Bool.false_eq_true, Bool.true_eq_false, beq_self_eq_true, bne_self_eq_false, Int.toNat_natCast, g, impl_countIn_f bs l.1 (by omega), e1, decide_eq_true_eq]
    unfold missF
    rw [if_pos (room24' st _ (by omega))]
    split <;> rfl
theorem spec_Missing_l (v w : ByteArray) (d e : Int) (ax bs : List (ByteArray × Int)) (ha : ∀ l ∈ ax, lineOk l = true) (hb : ∀ l ∈ bs, lineOk l = true) (hla : ax.length ≤ 12) (hlb : bs.length ≤ 12) :
    spec_MissingLines.l5 NN NN 0 (w, e, ax) (v, d, bs) [] = some (missL ax bs, 0) := by
  have := (fold_fix (E := fun l => lineOk l = true) (fun p st => st.length ≤ p.length ∧ ∀ x ∈ st, lineOk x = true) (fun _ => missF bs) (fun st => some (st, (0 : Int))) (fun k i st => spec_MissingLines.l5 NN k i (w, e, ax) (v, d, bs) st) ax ?_ ?_ [] ha ⟨by simp, by simp⟩ (by omega) NN (NN_lt (by omega))).2
  · rw [foldi_foldl] at this
    exact this
  · intro k st _
    simp [spec_MissingLines.l5, spec_MissingLines.g5]
  · intro k p l r st hx hl hI c0 c1 c2 cw g
    have h1 := lineOk_iff.1 hl
    have h2 := cntL_bd l.1 bs hb
    have e1 := w64 (n := l.2 - cntL l.1 bs) (by omega) (by omega)
    refine ⟨by rw [List.length_append, List.length_singleton]; exact missF_ok bs hb st l hl p.length hI, ?_⟩
    simp only [spec_MissingLines.l5, spec_MissingLines.g5, c0, c1, cw, and_self, and_true, true_and, decide_true, decide_false, if_true, if_false, mid_get, mid_set, mid_getn, mid_setn, bt_mid, Option.bind_some, Bool.not_true, Bool.not_false, Bool.false_eq_true, Bool.true_eq_false, beq_self_eq_true, bne_self_eq_false, Int.toNat_natCast, g]
    rw [spec_l29Find_f _ _ (by simp only; omega)]
    simp only [Option.bind_some]
    unfold missF
    have hc := cntL_first l.1 bs 0
    cases hf : firstOf (fun x : ByteArray × Int => decide (x.1 = l.1)) 0 bs with
    | none =>
      rw [hf] at hc
      simp only [Option.elim] at hc
      rw [hc]
      simp only [Option.elim, hf]
      have n1 : ¬ (0 : Int) ≤ -1 := by omega
      simp only [n1, and_self, and_true, true_and, decide_true, decide_false, if_true, if_false, mid_get, mid_set, mid_getn, mid_setn, bt_mid, Option.bind_some, Bool.not_true, Bool.not_false, Bool.false_eq_true, Bool.true_eq_false, beq_self_eq_true, bne_self_eq_false, Int.toNat_natCast, Int.sub_zero]
      rw [if_pos (room24' st _ (by omega))]
      simp only [decide_eq_true_eq]
      split <;> rfl
    | some x =>
      obtain ⟨j, y⟩ := x
      obtain ⟨f1, f2, f3, f4⟩ := firstOf_spec _ _ _ _ _ hf
      rw [hf] at hc
      simp only [Option.elim] at hc
      simp only [Option.elim, hf]
      have n1 : (0 : Int) ≤ (j : Int) := by omega
      have n2 : (j : Int) < (bs.length : Int) := by omega
      have g2 : ∀ z, bs.getD j z = y := fun z => by
        rw [List.getD_eq_getElem?_getD, show j = j - 0 by omega, f3]; rfl
      rw [hc] at e1 ⊢
      simp only [n1, n2, and_self, and_true, true_and, decide_true, decide_false, if_true, if_false, mid_get, mid_set, mid_getn, mid_setn, bt_mid, Option.bind_some, Bool.not_true, Bool.not_false, Bool.false_eq_true, Bool.true_eq_false, beq_self_eq_true, bne_self_eq_false, Int.toNat_natCast, g2, e1]
      rw [if_pos (room24' st _ (by omega))]
      simp only [decide_eq_true_eq]
      split <;> rfl
theorem paperB_iff {p : ByteArray × Int × List (ByteArray × Int)} (h : paperB p = true) : wordB p.1 = true ∧ (0 ≤ p.2.1 ∧ p.2.1 ≤ 100000) ∧ linesB p.2.2 = true := by
  unfold paperB at h
  simp only [Bool.and_eq_true, inB_iff] at h
  exact ⟨h.1.1, h.1.2, h.2⟩
theorem lines_ok {xs : List (ByteArray × Int)} (h1 : xs.length ≤ 1000000) (h2 : ∀ l ∈ xs, lineOk l = true) : Lm OkLine xs := ⟨h1, fun l hl => by
  have h3 := lineOk_iff.1 (h2 l hl)
  have := wordB_size h3.1
  exact ⟨by unfold Sm; omega, wf64.2 (by omega)⟩⟩
theorem MissingLines_core (a b : ByteArray × Int × List (ByteArray × Int)) (ha : OkPaper a) (hb : OkPaper b) : ∃ w, spec_MissingLines.f a b = some w ∧ impl_MissingLines.f a b = some w ∧ Lm OkLine w.1 := by
  unfold spec_MissingLines.f spec_MissingLines.fn spec_MissingLines.top impl_MissingLines.f impl_MissingLines.fn impl_MissingLines.top
  rw [spec_IsPaper_f a ha, spec_IsPaper_f b hb, impl_IsPaper_f a ha, impl_IsPaper_f b hb]
  cases h1 : paperB a
  · exact ⟨([], 1), rfl, rfl, by simp, by simp⟩
  cases h2 : paperB b
  · exact ⟨([], 1), rfl, rfl, by simp, by simp⟩
  have p1 := linesB_ok (paperB_iff h1).2.2
  have p2 := linesB_ok (paperB_iff h2).2.2
  obtain ⟨w, e, ax⟩ := a
  obtain ⟨v, d, bs⟩ := b
  have q1 := impl_Missing_l v d ax bs p1.2 p2.2 p1.1 p2.1
  have q2 := spec_Missing_l v w d e ax bs p1.2 p2.2 p1.1 p2.1
  have p11 : ax.length ≤ 12 := p1.1
  exact ⟨(missL ax bs, 0), q2, q1.2, lines_ok (by simp only; omega) q1.1.2⟩
end Go.Pl

namespace Go.Pl
open Go.Ev
set_option linter.unusedVariables false
set_option linter.unusedSimpArgs false
abbrev Art : Type := ByteArray × Int × Int × Int × Int × Int × Int × Int × Int
def artB (a : Art) : Bool := wordB a.1 && inB a.2.1 0 3 && inB a.2.2.1 20 300 && inB a.2.2.2.1 0 10000 && inB a.2.2.2.2.1 0 a.2.2.2.1 && inB a.2.2.2.2.2.1 1 50 && inB a.2.2.2.2.2.2.1 0 10000 && inB a.2.2.2.2.2.2.2.1 1 100000 && inB a.2.2.2.2.2.2.2.2 0 3
theorem impl_IsArticle_f (a : Art) (h : Sz a.1) : impl_IsArticle.f a = some (artB a) := by
  unfold impl_IsArticle.f impl_IsArticle.fn impl_IsArticle.top artB
  simp only [impl_IsWord_f _ h, impl_within_f, Option.bind_some]
  cases wordB a.1
  · rfl
  cases inB a.2.1 0 3
  · rfl
  cases inB a.2.2.1 20 300
  · rfl
  cases inB a.2.2.2.1 0 10000
  · rfl
  cases inB a.2.2.2.2.1 0 a.2.2.2.1
  · rfl
  cases inB a.2.2.2.2.2.1 1 50
  · rfl
  cases inB a.2.2.2.2.2.2.1 0 10000
  · rfl
  cases inB a.2.2.2.2.2.2.2.1 1 100000
  · rfl
  · rfl
theorem spec_IsArticle_f (a : Art) (h : Sz a.1) : spec_IsArticle.f a = some (artB a) := by
  unfold spec_IsArticle.f spec_IsArticle.fn spec_IsArticle.top artB
  simp only [spec_IsWord_f _ h, spec_l01In_f, Option.bind_some]
  cases wordB a.1
  · rfl
  cases inB a.2.1 0 3
  · rfl
  cases inB a.2.2.1 20 300
  · rfl
  cases inB a.2.2.2.1 0 10000
  · rfl
  cases inB a.2.2.2.2.1 0 a.2.2.2.1
  · rfl
  cases inB a.2.2.2.2.2.1 1 50
  · rfl
  cases inB a.2.2.2.2.2.2.1 0 10000
  · rfl
  cases inB a.2.2.2.2.2.2.2.1 1 100000
  · rfl
  · rfl
/-- articles, looked at from the second on -/
def artsF : Art → List Art → Bool
  | _, [] => true
  | x, a :: r => artB a && ltS x.1 a.1 && artsF a r
def artsL : List Art → Bool
  | [] => true
  | a :: r => artB a && artsF a r
def artsB (xs : List Art) : Bool := decide (xs.length ≤ 12) && artsL xs
noncomputable def impl_arts_call (k : Nat) (xs : List Art) (i : Int) := impl_AreArticles.l4 NN k xs xs xs.length i
noncomputable def spec_arts_call (k : Nat) (xs : List Art) (i : Int) := spec_AreArticles.l2 NN k xs i
theorem impl_arts_loop : ∀ (r p : List Art) (x : Art) (k : Nat), p.length + r.length + 1 ≤ 140737488355328 → r.length < k → (∀ a ∈ r, Sz a.1) →
    impl_arts_call k (p ++ [x] ++ r) ((p.length : Int) + 1) = if artsF x r = true then some ((fun _ => true) (p ++ [x] ++ r)) else some false := by
  intro r
  induction r with
  | nil =>
    intro p x k _ hk _
    obtain ⟨k, rfl⟩ : ∃ j, k = j + 1 := ⟨k - 1, by omega⟩
    have n1 : ¬ (p.length : Int) + 1 < ((p ++ [x] ++ []).length : Int) := by simp
    simp only [impl_arts_call, impl_AreArticles.l4, impl_AreArticles.g4, n1, decide_false, Bool.false_eq_true, if_false, artsF, if_true]
  | cons a r ih =>
    intro p x k hb hk hz
    simp only [List.length_cons] at hb hk
    obtain ⟨k, rfl⟩ : ∃ j, k = j + 1 := ⟨k - 1, by omega⟩
    have hl : ((p ++ [x] ++ a :: r).length : Int) = p.length + r.length + 2 := by simp; omega
    have w1 := w64 (n := (p.length : Int) + 1 - 1) (by omega) (by omega)
    have w2 := w64 (n := (p.length : Int) + 1 + 1) (by omega) (by omega)
    have c1 : (p.length : Int) + 1 < ((p ++ [x] ++ a :: r).length : Int) := by omega
    have c2 : (0 : Int) ≤ (p.length : Int) + 1 - 1 := by omega
    have c3 : (p.length : Int) + 1 - 1 < ((p ++ [x] ++ a :: r).length : Int) := by omega
    have c4 : (0 : Int) ≤ (p.length : Int) + 1 := by omega
    have c5 : (0 : Int) < (p.length : Int) + 1 := by omega
    have g1 : ∀ z, (p ++ [x] ++ a :: r).getD ((p.length : Int) + 1).toNat z = a := fun z => by
      rw [show ((p.length : Int) + 1).toNat = (p ++ [x]).length by simp, mid_getn]
    have g2 : ∀ z, (p ++ [x] ++ a :: r).getD ((p.length : Int) + 1 - 1).toNat z = x := fun z => by
      rw [show ((p.length : Int) + 1 - 1).toNat = p.length by omega, snoc_getl']
    have i1 := ih (p ++ [x]) a k (by simp; omega) (by omega) (fun b hb => hz b (by simp [hb]))
    have e1 : (((p ++ [x]).length : Nat) : Int) + 1 = (p.length : Int) + 1 + 1 := by simp
    have e2 : p ++ [x] ++ [a] ++ r = p ++ [x] ++ a :: r := by simp
    rw [e1, e2] at i1
    simp only [impl_arts_call] at i1
    simp only [impl_arts_call, impl_AreArticles.l4, impl_AreArticles.g4, w1, w2, c1, c2, c3, c4, c5, g1, g2, and_self, decide_true, if_true, Option.bind_some, impl_IsArticle_f a (hz a (by simp)), artsF]
    rcases Bool.eq_false_or_eq_true (artB a) with h1 | h1
    · rcases Bool.eq_false_or_eq_true (ltS x.1 a.1) with h2 | h2
      · have h2' : Op.bytesLess x.1.toList a.1.toList = true := h2
        simp only [h1, h2, h2', Bool.not_true, Bool.false_eq_true, if_false, if_true, Bool.true_and, Bool.and_true]
        exact i1
      · have h2' : Op.bytesLess x.1.toList a.1.toList = false := h2
        simp [h1, h2, h2']
    · simp [h1]
theorem impl_arts_all (xs : List Art) (hb : xs.length ≤ 140737488355328) (hz : ∀ a ∈ xs, Sz a.1) : impl_arts_call NN xs 0 = if artsL xs = true then some ((fun _ => true) xs) else some false := by
  obtain ⟨k, hk⟩ : ∃ j, NN = j + 1 := ⟨NN - 1, by have := NNb; omega⟩
  have hkb : 1000000000000000 < k := by rw [NN_eq] at hk; omega
  unfold impl_arts_call
  rw [show impl_AreArticles.l4 NN NN = impl_AreArticles.l4 NN (k + 1) by rw [← hk]]
  cases xs with
  | nil =>
    have n1 : ¬ (0 : Int) < (([] : List Art).length : Int) := by simp
    simp only [impl_AreArticles.l4, impl_AreArticles.g4, n1, decide_false, Bool.false_eq_true, if_false, artsL, if_true]
  | cons a r =>
    simp only [List.length_cons] at hb
    have i1 := impl_arts_loop r [] a k (by simp; omega) (by omega) (fun b hb => hz b (by simp [hb]))
    simp only [impl_arts_call, List.nil_append, List.length_nil] at i1
    have n1 : (0 : Int) < ((a :: r).length : Int) := by simp only [List.length_cons]; omega
    have w2 := w64 (n := (0 : Int) + 1) (by omega) (by omega)
    have g1 : ∀ z, (a :: r).getD (0 : Int).toNat z = a := fun z => rfl
    simp only [impl_AreArticles.l4, impl_AreArticles.g4, n1, w2, g1, Int.le_refl, Int.lt_irrefl, and_self, decide_true, decide_false, if_true, Option.bind_some, impl_IsArticle_f a (hz a (by simp)), artsL]
    rcases Bool.eq_false_or_eq_true (artB a) with h1 | h1
    · simp only [h1, Bool.not_true, Bool.false_eq_true, if_false, if_true, Bool.true_and]
      exact i1
    · simp [h1]
theorem spec_arts_loop : ∀ (r p : List Art) (x : Art) (k : Nat), p.length + r.length + 1 ≤ 140737488355328 → r.length < k → (∀ a ∈ r, Sz a.1) →
    spec_arts_call k (p ++ [x] ++ r) ((p.length : Int) + 1) = if artsF x r = true then some ((fun xs : List Art => decide (((xs.length : Int) : Int) ≤ 12)) (p ++ [x] ++ r)) else some false := by
  intro r
  induction r with
  | nil =>
    intro p x k _ hk _
    obtain ⟨k, rfl⟩ : ∃ j, k = j + 1 := ⟨k - 1, by omega⟩
    have n1 : ¬ (p.length : Int) + 1 < ((p ++ [x] ++ []).length : Int) := by simp
    simp only [spec_arts_call, spec_AreArticles.l2, spec_AreArticles.g2, n1, decide_false, Bool.false_eq_true, if_false, artsF, if_true]
  | cons a r ih =>
    intro p x k hb hk hz
    simp only [List.length_cons] at hb hk
    obtain ⟨k, rfl⟩ : ∃ j, k = j + 1 := ⟨k - 1, by omega⟩
    have hl : ((p ++ [x] ++ a :: r).length : Int) = p.length + r.length + 2 := by simp; omega
    have w1 := w64 (n := (p.length : Int) + 1 - 1) (by omega) (by omega)
    have w2 := w64 (n := (p.length : Int) + 1 + 1) (by omega) (by omega)
    have c1 : (p.length : Int) + 1 < ((p ++ [x] ++ a :: r).length : Int) := by omega
    have c2 : (0 : Int) ≤ (p.length : Int) + 1 - 1 := by omega
    have c3 : (p.length : Int) + 1 - 1 < ((p ++ [x] ++ a :: r).length : Int) := by omega
    have c4 : (0 : Int) ≤ (p.length : Int) + 1 := by omega
    have c5 : (0 : Int) < (p.length : Int) + 1 := by omega
    have g1 : ∀ z, (p ++ [x] ++ a :: r).getD ((p.length : Int) + 1).toNat z = a := fun z => by
      rw [show ((p.length : Int) + 1).toNat = (p ++ [x]).length by simp, mid_getn]
    have g2 : ∀ z, (p ++ [x] ++ a :: r).getD ((p.length : Int) + 1 - 1).toNat z = x := fun z => by
      rw [show ((p.length : Int) + 1 - 1).toNat = p.length by omega, snoc_getl']
    have i1 := ih (p ++ [x]) a k (by simp; omega) (by omega) (fun b hb => hz b (by simp [hb]))
    have e1 : (((p ++ [x]).length : Nat) : Int) + 1 = (p.length : Int) + 1 + 1 := by simp
    have e2 : p ++ [x] ++ [a] ++ r = p ++ [x] ++ a :: r := by simp
    rw [e1, e2] at i1
    simp only [spec_arts_call] at i1
    simp only [spec_arts_call, spec_AreArticles.l2, spec_AreArticles.g2, w1, w2, c1, c2, c3, c4, c5, g1, g2, and_self, decide_true, if_true, Option.bind_some, spec_IsArticle_f a (hz a (by simp)), artsF]
    rcases Bool.eq_false_or_eq_true (artB a) with h1 | h1
    · rcases Bool.eq_false_or_eq_true (ltS x.1 a.1) with h2 | h2
      · have h2' : Op.bytesLess x.1.toList a.1.toList = true := h2
        simp only [h1, h2, h2', Bool.not_true, Bool.false_eq_true, if_false, if_true, Bool.true_and, Bool.and_true]
        exact i1
      · have h2' : Op.bytesLess x.1.toList a.1.toList = false := h2
        simp [h1, h2, h2']
    · simp [h1]
theorem spec_arts_all (xs : List Art) (hb : xs.length ≤ 140737488355328) (hz : ∀ a ∈ xs, Sz a.1) : spec_arts_call NN xs 0 = if artsL xs = true then some ((fun xs : List Art => decide (((xs.length : Int) : Int) ≤ 12)) xs) else some false := by
  obtain ⟨k, hk⟩ : ∃ j, NN = j + 1 := ⟨NN - 1, by have := NNb; omega⟩
  have hkb : 1000000000000000 < k := by rw [NN_eq] at hk; omega
  unfold spec_arts_call
  rw [show spec_AreArticles.l2 NN NN = spec_AreArticles.l2 NN (k + 1) by rw [← hk]]
  cases xs with
  | nil =>
    have n1 : ¬ (0 : Int) < (([] : List Art).length : Int) := by simp
    simp only [spec_AreArticles.l2, spec_AreArticles.g2, n1, decide_false, Bool.false_eq_true, if_false, artsL, if_true]
  | cons a r =>
    simp only [List.length_cons] at hb
    have i1 := spec_arts_loop r [] a k (by simp; omega) (by omega) (fun b hb => hz b (by simp [hb]))
    simp only [spec_arts_call, List.nil_append, List.length_nil] at i1
    have n1 : (0 : Int) < ((a :: r).length : Int) := by simp only [List.length_cons]; omega
    have w2 := w64 (n := (0 : Int) + 1) (by omega) (by omega)
    have g1 : ∀ z, (a :: r).getD (0 : Int).toNat z = a := fun z => rfl
    simp only [spec_AreArticles.l2, spec_AreArticles.g2, n1, w2, g1, Int.le_refl, Int.lt_irrefl, and_self, decide_true, decide_false, if_true, Option.bind_some, spec_IsArticle_f a (hz a (by simp)), artsL]
    rcases Bool.eq_false_or_eq_true (artB a) with h1 | h1
    · simp only [h1, Bool.not_true, Bool.false_eq_true, if_false, if_true, Bool.true_and]
      exact i1
    · simp [h1]
theorem impl_AreArticles_f (xs : List Art) (hb : xs.length ≤ 140737488355328) (hz : ∀ a ∈ xs, Sz a.1) : impl_AreArticles.f xs = some (artsB xs) := by
  unfold impl_AreArticles.f impl_AreArticles.fn impl_AreArticles.top artsB
  have := impl_arts_all xs hb hz
  unfold impl_arts_call at this
  by_cases h : (12 : Int) < (xs.length : Int)
  · have h2 : ¬ xs.length ≤ 12 := by omega
    simp only [h, h2, decide_true, decide_false, if_true, Bool.false_and]
  · have h2 : xs.length ≤ 12 := by omega
    simp only [h, h2, decide_true, decide_false, Bool.false_eq_true, if_false, Bool.true_and]
    rw [this]
    cases artsL xs <;> rfl
theorem spec_AreArticles_f (xs : List Art) (hb : xs.length ≤ 140737488355328) (hz : ∀ a ∈ xs, Sz a.1) : spec_AreArticles.f xs = some (artsB xs) := by
  unfold spec_AreArticles.f spec_AreArticles.fn spec_AreArticles.top artsB
  have := spec_arts_all xs hb hz
  unfold spec_arts_call at this
  rw [this]
  have e : decide (((xs.length : Int) : Int) ≤ 12) = decide (xs.length ≤ 12) := by
    by_cases h : xs.length ≤ 12
    · have : (xs.length : Int) ≤ 12 := by omega
      simp [h, this]
    · have : ¬ (xs.length : Int) ≤ 12 := by omega
      simp [h, this]
  simp only [e]
  cases artsL xs <;> simp
theorem artsF_ok : ∀ (r : List Art) (x : Art), artsF x r = true → ∀ a ∈ r, artB a = true := by
  intro r
  induction r with
  | nil => intro x _ a ha; cases ha
  | cons b r ih =>
    intro x h a ha
    simp only [artsF, Bool.and_eq_true] at h
    rcases List.mem_cons.1 ha with rfl | ha
    · exact h.1.1
    · exact ih b h.2 a ha
theorem artsB_ok {xs : List Art} (h : artsB xs = true) : xs.length ≤ 12 ∧ ∀ a ∈ xs, artB a = true := by
  unfold artsB at h
  simp only [Bool.and_eq_true, decide_eq_true_eq] at h
  refine ⟨h.1, ?_⟩
  cases xs with
  | nil => intro a ha; cases ha
  | cons b r =>
    intro a ha
    have h2 := h.2
    simp only [artsL, Bool.and_eq_true] at h2
    rcases List.mem_cons.1 ha with rfl | ha
    · exact h2.1
    · exact artsF_ok r b h2.2 a ha
theorem artB_iff {a : Art} (h : artB a = true) : wordB a.1 = true ∧ (0 ≤ a.2.1 ∧ a.2.1 ≤ 3) ∧ (20 ≤ a.2.2.1 ∧ a.2.2.1 ≤ 300) ∧ (1 ≤ a.2.2.2.2.2.2.2.1 ∧ a.2.2.2.2.2.2.2.1 ≤ 100000) ∧ (0 ≤ a.2.2.2.2.2.2.2.2 ∧ a.2.2.2.2.2.2.2.2 ≤ 3) := by
  unfold artB at h
  simp only [Bool.and_eq_true, inB_iff] at h
  exact ⟨h.1.1.1.1.1.1.1.1, h.1.1.1.1.1.1.1.2, h.1.1.1.1.1.1.2, h.1.2, h.2⟩
/-- the number of an article, or -1 -/
def artI (xs : List Art) (c : ByteArray) : Int := (firstOf (fun l : Art => decide (l.1 = c)) 0 xs).elim (-1) (fun x => (x.1 : Int))
theorem impl_articleOf_f (xs : List Art) (c : ByteArray) (h : xs.length ≤ 140737488355328) : impl_articleOf.f xs c = some (artI xs c) := by
  have := find_loop (E := fun _ => True) (fun l : Art => decide (l.1 = c)) (fun i _ => some (i : Int)) (fun _ => some (-1)) (fun k xs i => impl_articleOf.l2 NN k c xs xs.length i) ?_ ?_ xs (fun _ _ => trivial) (by omega) NN (NN_lt (by omega))
  · refine this.trans ?_
    unfold artI
    cases firstOf (fun l : Art => decide (l.1 = c)) 0 xs <;> rfl
  · intro k p
    simp [impl_articleOf.l2, impl_articleOf.g2]
  · intro k p l r _ c0 c1 c2 cw
    simp only [impl_articleOf.l2, impl_articleOf.g2, c0, c1, cw, and_self, and_true, true_and, decide_true, decide_false, if_true, if_false, mid_get, mid_set, mid_getn, mid_setn, bt_mid, Option.bind_some, Bool.not_true, Bool.not_false, Bool.false_eq_true, Bool.true_eq_false, beq_self_eq_true, bne_self_eq_false, Int.toNat_natCast, ba_beq]
theorem spec_l03Find_f (xs : List Art) (c : ByteArray) (h : xs.length ≤ 140737488355328) : spec_l03Find.f xs c = some (artI xs c) := by
  have := find_loop (E := fun _ => True) (fun l : Art => decide (l.1 = c)) (fun i _ => some (i : Int)) (fun _ => some (-1)) (fun k xs i => spec_l03Find.l2 NN k xs c i) ?_ ?_ xs (fun _ _ => trivial) (by omega) NN (NN_lt (by omega))
  · refine this.trans ?_
    unfold artI
    cases firstOf (fun l : Art => decide (l.1 = c)) 0 xs <;> rfl
  · intro k p
    simp [spec_l03Find.l2, spec_l03Find.g2]
  · intro k p l r _ c0 c1 c2 cw
    simp only [spec_l03Find.l2, spec_l03Find.g2, c0, c1, cw, and_self, and_true, true_and, decide_true, decide_false, if_true, if_false, mid_get, mid_set, mid_getn, mid_setn, bt_mid, Option.bind_some, Bool.not_true, Bool.not_false, Bool.false_eq_true, Bool.true_eq_false, beq_self_eq_true, bne_self_eq_false, Int.toNat_natCast, ba_beq]
theorem artI_bd (xs : List Art) (c : ByteArray) : artI xs c < (xs.length : Int) := by
  unfold artI
  cases h : firstOf (fun l : Art => decide (l.1 = c)) 0 xs with
  | none => simp only [Option.elim_none]; omega
  | some x =>
    have := firstOf_spec _ xs 0 x.1 x.2 h
    simp only [Option.elim_some]; omega
theorem firstOf_none {α : Type} (P : α → Bool) : ∀ (xs : List α) (i : Nat), firstOf P i xs = none → ∀ x ∈ xs, P x = false := by
  intro xs
  induction xs with
  | nil => intro i _ x hx; cases hx
  | cons a r ih =>
    intro i h x hx
    simp only [firstOf] at h
    split at h
    · cases h
    · rename_i hp
      rcases List.mem_cons.1 hx with rfl | hx
      · simpa using hp
      · exact ih _ h x hx
end Go.Pl

namespace Go.Pl
open Go.Ev
set_option linter.unusedVariables false
set_option linter.unusedSimpArgs false
abbrev Cue : Type := Int × Int × ByteArray × Int
abbrev Show : Type := List (Int × Int) × List Art × List Cue
def barB (b : Int × Int) : Bool := inB b.1 1 16 && inB b.2 100 5000
def scoreB (s : List (Int × Int)) : Bool := inB (s.length : Int) 1 20 && s.all barB
theorem impl_IsScore_f (s : List (Int × Int)) (h : s.length ≤ 140737488355328) : impl_IsScore.f s = some (scoreB s) := by
  have := all_loop (E := fun _ => True) barB (fun _ => some true) (fun k xs i => impl_IsScore.l4 NN k xs xs.length i) ?_ ?_ s (fun _ _ => trivial) (by omega) NN (NN_lt (by omega))
  · unfold impl_IsScore.f impl_IsScore.fn impl_IsScore.top scoreB
    rw [this]
    by_cases h1 : (s.length : Int) < 1
    · have : inB (s.length : Int) 1 20 = false := by
        rw [Bool.eq_false_iff]; intro e; have := inB_iff.1 e; omega
      simp [h1, this]
    · by_cases h2 : (20 : Int) < (s.length : Int)
      · have : inB (s.length : Int) 1 20 = false := by
          rw [Bool.eq_false_iff]; intro e; have := inB_iff.1 e; omega
        simp [h1, h2, this]
      · have : inB (s.length : Int) 1 20 = true := inB_iff.2 (by omega)
        simp only [h1, h2, this, decide_false, Bool.false_eq_true, if_false, if_true, Bool.true_and]
        cases s.all barB <;> rfl
  · intro k p
    simp [impl_IsScore.l4, impl_IsScore.g4]
  · intro k p a r _ c0 c1 cw
    simp only [impl_IsScore.l4, impl_IsScore.g4, c0, c1, cw, and_self, and_true, true_and, decide_true, decide_false, if_true, if_false, mid_get, mid_set, mid_getn, mid_setn, bt_mid, Option.bind_some, Bool.not_true, Bool.not_false, Bool.false_eq_true, Bool.true_eq_false, beq_self_eq_true, bne_self_eq_false, Int.toNat_natCast, impl_within_f, barB]
    rcases Bool.eq_false_or_eq_true (inB a.1 1 16) with h1 | h1 <;> rcases Bool.eq_false_or_eq_true (inB a.2 100 5000) with h2 | h2 <;> simp [h1, h2]
theorem spec_IsScore_f (s : List (Int × Int)) (h : s.length ≤ 140737488355328) : spec_IsScore.f s = some (scoreB s) := by
  have := all_loop (E := fun _ => True) barB (fun xs => some (inB (xs.length : Int) 1 20)) (fun k xs i => spec_IsScore.l2 NN k xs i) ?_ ?_ s (fun _ _ => trivial) (by omega) NN (NN_lt (by omega))
  · unfold spec_IsScore.f spec_IsScore.fn spec_IsScore.top scoreB
    rw [this]
    cases s.all barB <;> simp
  · intro k p
    simp [spec_IsScore.l2, spec_IsScore.g2, spec_l01In_f]
  · intro k p a r _ c0 c1 cw
    simp only [spec_IsScore.l2, spec_IsScore.g2, c0, c1, cw, and_self, and_true, true_and, decide_true, decide_false, if_true, if_false, mid_get, mid_set, mid_getn, mid_setn, bt_mid, Option.bind_some, Bool.not_true, Bool.not_false, Bool.false_eq_true, Bool.true_eq_false, beq_self_eq_true, bne_self_eq_false, Int.toNat_natCast, spec_l01In_f, barB]
    rcases Bool.eq_false_or_eq_true (inB a.1 1 16) with h1 | h1 <;> rcases Bool.eq_false_or_eq_true (inB a.2 100 5000) with h2 | h2 <;> simp [h1, h2]
theorem scoreB_iff {s : List (Int × Int)} (h : scoreB s = true) : 1 ≤ s.length ∧ s.length ≤ 20 ∧ ∀ b ∈ s, (1 ≤ b.1 ∧ b.1 ≤ 16) ∧ (100 ≤ b.2 ∧ b.2 ≤ 5000) := by
  unfold scoreB at h
  rw [Bool.and_eq_true, inB_iff] at h
  refine ⟨by omega, by omega, fun b hb => ?_⟩
  have := List.all_eq_true.1 h.2 b hb
  unfold barB at this
  rw [Bool.and_eq_true, inB_iff, inB_iff] at this
  exact this
theorem impl_isIndex_f (i : Int) {n : Int} (h0 : -1000000 ≤ n) (h1 : n ≤ 140737488355328) : impl_isIndex.f i n = some (inB i 0 (n - 1)) := by
  unfold impl_isIndex.f impl_isIndex.fn impl_isIndex.top
  rw [w64 (n := n - 1) (by omega) (by omega), impl_within_f]; rfl
def beatB (s : List (Int × Int)) (bar beat : Int) : Bool := inB bar 0 ((s.length : Int) - 1) && inB beat 0 ((s.getD bar.toNat (0, 0)).1 - 1)
theorem bar_mem {s : List (Int × Int)} {i : Nat} (h : i < s.length) : s.getD i (0, 0) ∈ s := by
  rw [List.getD_eq_getElem?_getD, List.getElem?_eq_getElem h]; exact List.getElem_mem h
theorem beat_both {s : List (Int × Int)} (h : scoreB s = true) (bar beat : Int) : impl_isBeat.f s bar beat = some (beatB s bar beat) ∧ spec_l07Has.f s bar beat = some (beatB s bar beat) := by
  obtain ⟨h1, h2, h3⟩ := scoreB_iff h
  unfold impl_isBeat.f impl_isBeat.fn impl_isBeat.top spec_l07Has.f spec_l07Has.fn spec_l07Has.top beatB
  rw [impl_isIndex_f bar (n := (s.length : Int)) (by omega) (by omega), w64 (n := (s.length : Int) - 1) (by omega) (by omega), spec_l01In_f]
  cases hb : inB bar 0 ((s.length : Int) - 1)
  · exact ⟨rfl, rfl⟩
  · have hbb := inB_iff.1 hb
    have hm := h3 _ (bar_mem (s := s) (i := bar.toNat) (by omega))
    have w := w64 (n := (s.getD bar.toNat (0, 0)).1 - 1) (by omega) (by omega)
    simp only [Option.bind_some, if_true, hbb.1, show bar < (s.length : Int) from by omega, and_self, w, impl_within_f, spec_l01In_f, Bool.true_and]
def barF (t : Int) (b : Int × Int) : Int := t + b.1 * b.2
def barsL (s : List (Int × Int)) (n : Nat) : Int := (s.take n).foldl barF 0
def timeL (s : List (Int × Int)) (bar beat : Int) : Int := barsL s bar.toNat + beat * (s.getD bar.toNat (0, 0)).2
theorem bar_bd {b : Int × Int} (h : (1 ≤ b.1 ∧ b.1 ≤ 16) ∧ (100 ≤ b.2 ∧ b.2 ≤ 5000)) : 0 ≤ b.1 * b.2 ∧ b.1 * b.2 ≤ 80000 := by
  refine ⟨Int.mul_nonneg (by omega) (by omega), ?_⟩
  have := Int.mul_le_mul h.1.2 h.2.2 (by omega) (by omega)
  omega
theorem beat_bd {s : List (Int × Int)} (h : scoreB s = true) {bar beat : Int} (hb : beatB s bar beat = true) : 0 ≤ bar ∧ bar < (s.length : Int) ∧ 0 ≤ beat ∧ beat ≤ 15 ∧ 0 ≤ beat * (s.getD bar.toNat (0, 0)).2 ∧ beat * (s.getD bar.toNat (0, 0)).2 ≤ 75000 := by
  obtain ⟨h1, h2, h3⟩ := scoreB_iff h
  unfold beatB at hb
  rw [Bool.and_eq_true, inB_iff, inB_iff] at hb
  have hm := h3 _ (bar_mem (s := s) (i := bar.toNat) (by omega))
  have := Int.mul_le_mul (show beat ≤ 15 by omega) hm.2.2 (by omega) (by omega)
  exact ⟨by omega, by omega, by omega, by omega, Int.mul_nonneg (by omega) (by omega), by omega⟩
theorem barsL_bd {s : List (Int × Int)} (h : scoreB s = true) (n : Nat) : 0 ≤ barsL s n ∧ barsL s n ≤ 1600000 := by
  obtain ⟨h1, h2, h3⟩ := scoreB_iff h
  have key : ∀ (l : List (Int × Int)) (t : Int), (∀ b ∈ l, (1 ≤ b.1 ∧ b.1 ≤ 16) ∧ (100 ≤ b.2 ∧ b.2 ≤ 5000)) → t ≤ l.foldl barF t ∧ l.foldl barF t ≤ t + 80000 * (l.length : Int) := by
    intro l
    induction l with
    | nil => intro t _; simp
    | cons b l ih =>
      intro t hl
      have i := ih (barF t b) (fun x hx => hl x (by simp [hx]))
      have := bar_bd (hl b (by simp))
      unfold barF at i ⊢
      simp only [List.foldl_cons, List.length_cons]
      omega
  have := key (s.take n) 0 (fun b hb => h3 b (List.mem_of_mem_take hb))
  have hl : (s.take n).length ≤ 20 := by rw [List.length_take]; omega
  unfold barsL
  omega
theorem impl_beatTime_f {s : List (Int × Int)} (h : scoreB s = true) {bar beat : Int} (hb : beatB s bar beat = true) : impl_beatTime.f s bar beat = some (timeL s bar beat) := by
  obtain ⟨h1, h2, h3⟩ := scoreB_iff h
  obtain ⟨b1, b2, b3, b4, b5, b6⟩ := beat_bd h hb
  have hB := barsL_bd h bar.toNat
  have htl : (s.take bar.toNat).length ≤ 20 := by rw [List.length_take]; omega
  have := (fold_fix (E := fun b : Int × Int => (1 ≤ b.1 ∧ b.1 ≤ 16) ∧ (100 ≤ b.2 ∧ b.2 ≤ 5000)) (fun p st => 0 ≤ st ∧ st ≤ 80000 * (p.length : Int)) (fun _ => barF) (fun st => some (if 0 < beat then IntKind.i64.wrap (st + IntKind.i64.wrap (beat * (s.getD bar.toNat (0, 0)).2)) else st)) (fun k i st => impl_beatTime.l3 NN k s bar beat st (s.take bar.toNat) (s.take bar.toNat).length i) (s.take bar.toNat) ?_ ?_ 0 (fun b hb => h3 b (List.mem_of_mem_take hb)) ⟨by omega, by simp⟩ (by omega) NN (NN_lt (by omega))).2
  · rw [foldi_foldl] at this
    unfold impl_beatTime.f impl_beatTime.fn impl_beatTime.top
    rw [if_pos ⟨b1, by omega⟩]
    refine this.trans ?_
    show some (if 0 < beat then IntKind.i64.wrap (barsL s bar.toNat + IntKind.i64.wrap (beat * (s.getD bar.toNat (0, 0)).2)) else barsL s bar.toNat) = _
    unfold timeL
    by_cases hz : 0 < beat
    · rw [if_pos hz, w64 (n := beat * (s.getD bar.toNat (0, 0)).2) (by omega) (by omega), w64 (by omega) (by omega)]
    · rw [if_neg hz, show beat = 0 by omega]; simp
  · intro k st _
    simp only [impl_beatTime.l3, impl_beatTime.g3, Int.lt_irrefl, decide_false, Bool.false_eq_true, if_false]
    by_cases hz : 0 < beat
    · simp only [hz, decide_true, if_true, b1, b2, and_self]
    · simp only [hz, decide_false, Bool.false_eq_true, if_false]
  · intro k p b r st hx hbb hI c0 c1 c2 cw g
    have hp : p.length ≤ 20 := by omega
    have hbd := bar_bd hbb
    have w1 := w64 (n := b.1 * b.2) (by omega) (by omega)
    have w2 := w64 (n := st + b.1 * b.2) (by omega) (by omega)
    refine ⟨⟨by unfold barF; omega, by unfold barF; simp only [List.length_append, List.length_singleton]; omega⟩, ?_⟩
    simp only [impl_beatTime.l3, impl_beatTime.g3, c0, c1, cw, g, and_self, and_true, true_and, decide_true, decide_false, if_true, if_false, mid_get, mid_set, mid_getn, mid_setn, bt_mid, Option.bind_some, Bool.not_true, Bool.not_false, Bool.false_eq_true, Bool.true_eq_false, beq_self_eq_true, bne_self_eq_false, Int.toNat_natCast, w1, w2]
    rfl
theorem spec_l07Time_f {s : List (Int × Int)} (h : scoreB s = true) {bar beat : Int} (hb : beatB s bar beat = true) : spec_l07Time.f s bar beat = some (timeL s bar beat) := by
  obtain ⟨h1, h2, h3⟩ := scoreB_iff h
  obtain ⟨b1, b2, b3, b4, b5, b6⟩ := beat_bd h hb
  have hB := barsL_bd h bar.toNat
  have htl : (s.take bar.toNat).length = bar.toNat := by rw [List.length_take]; omega
  have := (fold_fix (E := fun b : Int × Int => (1 ≤ b.1 ∧ b.1 ≤ 16) ∧ (100 ≤ b.2 ∧ b.2 ≤ 5000)) (fun p st => 0 ≤ st ∧ st ≤ 80000 * (p.length : Int)) (fun _ => barF) (fun st => some (IntKind.i64.wrap (st + IntKind.i64.wrap (beat * (s.getD bar.toNat (0, 0)).2)))) (fun k i st => spec_l07Time.l3 NN k s bar beat st i) (s.take bar.toNat) ?_ ?_ 0 (fun b hb => h3 b (List.mem_of_mem_take hb)) ⟨by omega, by simp⟩ (by omega) NN (NN_lt (by omega))).2
  · rw [foldi_foldl] at this
    unfold spec_l07Time.f spec_l07Time.fn spec_l07Time.top
    refine this.trans ?_
    show some (IntKind.i64.wrap (barsL s bar.toNat + IntKind.i64.wrap (beat * (s.getD bar.toNat (0, 0)).2))) = _
    unfold timeL
    rw [w64 (n := beat * (s.getD bar.toNat (0, 0)).2) (by omega) (by omega), w64 (by omega) (by omega)]
  · intro k st _
    have n1 : ¬ ((s.take bar.toNat).length : Int) < bar := by omega
    simp only [spec_l07Time.l3, spec_l07Time.g3, n1, decide_false, Bool.false_eq_true, if_false, b1, b2, and_self, if_true]
  · intro k p b r st hx hbb hI c0 c1 c2 cw g
    have hp : p.length ≤ 20 := by omega
    have hbd := bar_bd hbb
    have w1 := w64 (n := b.1 * b.2) (by omega) (by omega)
    have w2 := w64 (n := st + b.1 * b.2) (by omega) (by omega)
    have n1 : (p.length : Int) < bar := by omega
    have n2 : (p.length : Int) < (s.length : Int) := by omega
    have g2 : ∀ z, s.getD p.length z = b := fun z => by
      have := g z
      rw [List.getD_eq_getElem?_getD, List.getElem?_take, if_pos (by omega), ← List.getD_eq_getElem?_getD] at this
      exact this
    refine ⟨⟨by unfold barF; omega, by unfold barF; simp only [List.length_append, List.length_singleton]; omega⟩, ?_⟩
    simp only [spec_l07Time.l3, spec_l07Time.g3, c0, n1, n2, cw, g2, and_self, and_true, true_and, decide_true, decide_false, if_true, if_false, mid_get, mid_set, mid_getn, mid_setn, bt_mid, Option.bind_some, Bool.not_true, Bool.not_false, Bool.false_eq_true, Bool.true_eq_false, beq_self_eq_true, bne_self_eq_false, Int.toNat_natCast, w1, w2]
    rfl
def liftA (xs : List Art) (c : ByteArray) : Int := (xs.getD (artI xs c).toNat (ByteArray.empty, (0, (0, (0, (0, (0, (0, (0, 0))))))))).2.2.2.1
theorem liftA_bd {xs : List Art} (h : artsB xs = true) {c : ByteArray} (h0 : 0 ≤ artI xs c) : 0 ≤ liftA xs c ∧ liftA xs c ≤ 10000 := by
  have hb := artI_bd xs c
  have hm : xs.getD (artI xs c).toNat (ByteArray.empty, (0, (0, (0, (0, (0, (0, (0, 0)))))))) ∈ xs := by
    rw [List.getD_eq_getElem?_getD, List.getElem?_eq_getElem (by omega)]; exact List.getElem_mem _
  have := (artsB_ok h).2 _ hm
  unfold artB at this
  simp only [Bool.and_eq_true, inB_iff] at this
  exact this.1.1.1.1.1.2
def fireT (x : Show) (c : Cue) : Int := timeL x.1 c.1 c.2.1 - liftA x.2.1 c.2.2.1
def cueB (x : Show) (c : Cue) : Bool := inB c.2.2.2 0 11 && decide (0 ≤ artI x.2.1 c.2.2.1) && beatB x.1 c.1 c.2.1 && decide (0 ≤ fireT x c)
theorem impl_firedAt_f (x : Show) (c : Cue) (h1 : scoreB x.1 = true) (h2 : artsB x.2.1 = true) : impl_firedAt.f x c = some (if 0 ≤ artI x.2.1 c.2.2.1 ∧ beatB x.1 c.1 c.2.1 = true then (if fireT x c > -1 then fireT x c else -1) else -1) := by
  have hl := (artsB_ok h2).1
  have hbd := artI_bd x.2.1 c.2.2.1
  unfold impl_firedAt.f impl_firedAt.fn impl_firedAt.top
  rw [impl_articleOf_f x.2.1 _ (by omega)]
  simp only [Option.bind_some]
  by_cases ha : artI x.2.1 c.2.2.1 < 0
  · rw [if_neg (by rw [decide_eq_true ha]; simp), if_neg (by omega)]
  · rw [if_pos (decide_eq_false ha), (beat_both h1 _ _).1]
    simp only [Option.bind_some]
    rcases Bool.eq_false_or_eq_true (beatB x.1 c.1 c.2.1) with hb | hb
    rotate_left
    · simp [hb]
    · have hbb := beat_bd h1 hb
      have hB := barsL_bd h1 c.1.toNat
      have hL := liftA_bd h2 (show 0 ≤ artI x.2.1 c.2.2.1 by omega)
      have hT : fireT x c = timeL x.1 c.1 c.2.1 - liftA x.2.1 c.2.2.1 := rfl
      have hTT : timeL x.1 c.1 c.2.1 = barsL x.1 c.1.toNat + c.2.1 * (x.1.getD c.1.toNat (0, 0)).2 := rfl
      rw [if_neg (by simp [hb]), if_pos ⟨by omega, hbd⟩, impl_beatTime_f h1 hb, if_pos ⟨by omega, hb⟩]
      show some (if IntKind.i64.wrap (timeL x.1 c.1 c.2.1 - liftA x.2.1 c.2.2.1) > -1 then IntKind.i64.wrap (timeL x.1 c.1 c.2.1 - liftA x.2.1 c.2.2.1) else -1) = _
      rw [w64 (by omega) (by omega)]; rfl
theorem spec_l08Time_f (x : Show) (c : Cue) (h1 : scoreB x.1 = true) (h2 : artsB x.2.1 = true) (ha : 0 ≤ artI x.2.1 c.2.2.1) (hb : beatB x.1 c.1 c.2.1 = true) : spec_l08Time.f x c = some (fireT x c) := by
  have hl := (artsB_ok h2).1
  have hbd := artI_bd x.2.1 c.2.2.1
  have hbb := beat_bd h1 hb
  have hB := barsL_bd h1 c.1.toNat
  have hL := liftA_bd h2 ha
  have hTT : timeL x.1 c.1 c.2.1 = barsL x.1 c.1.toNat + c.2.1 * (x.1.getD c.1.toNat (0, 0)).2 := rfl
  unfold spec_l08Time.f spec_l08Time.fn spec_l08Time.top
  rw [spec_l07Time_f h1 hb, spec_l03Find_f x.2.1 _ (by omega)]
  simp only [Option.bind_some]
  rw [if_pos ⟨ha, hbd⟩]
  show some (IntKind.i64.wrap (timeL x.1 c.1 c.2.1 - liftA x.2.1 c.2.2.1)) = _
  rw [w64 (by omega) (by omega)]; rfl
def showB (x : Show) : Bool := scoreB x.1 && artsB x.2.1 && decide (x.2.2.length ≤ 20) && x.2.2.all (cueB x)
/-- a show's sizes -/
def ShowZ (x : Show) : Prop := x.1.length ≤ 140737488355328 ∧ (x.2.1.length ≤ 140737488355328 ∧ ∀ a ∈ x.2.1, Sz a.1) ∧ x.2.2.length ≤ 140737488355328
theorem impl_IsShow_f (x : Show) (h : ShowZ x) : impl_IsShow.f x = some (showB x) := by
  unfold impl_IsShow.f impl_IsShow.fn impl_IsShow.top showB
  rw [impl_IsScore_f x.1 h.1, impl_AreArticles_f x.2.1 h.2.1.1 h.2.1.2]
  rcases Bool.eq_false_or_eq_true (scoreB x.1) with h1 | h1
  · rcases Bool.eq_false_or_eq_true (artsB x.2.1) with h2 | h2
    · simp only [h1, h2, Option.bind_some, Bool.not_true, Bool.false_eq_true, if_true, Bool.true_and]
      by_cases h20 : (20 : Int) < (x.2.2.length : Int)
      · have : ¬ x.2.2.length ≤ 20 := by omega
        simp [h20, this]
      · have h21 : x.2.2.length ≤ 20 := by omega
        have := all_loop (E := fun _ => True) (cueB x) (fun _ => some true) (fun k xs i => impl_IsShow.l4 NN k xs xs.length i x) ?_ ?_ x.2.2 (fun _ _ => trivial) (by omega) NN (NN_lt (by omega))
        · simp only [h20, h21, decide_false, decide_true, Bool.false_eq_true, if_false, Bool.true_and]
          rw [this]
          cases x.2.2.all (cueB x) <;> rfl
        · intro k p
          simp [impl_IsShow.l4, impl_IsShow.g4]
        · intro k p c r _ c0 c1 cw
          simp only [impl_IsShow.l4, impl_IsShow.g4, c0, c1, cw, and_self, and_true, true_and, decide_true, decide_false, if_true, if_false, mid_get, mid_set, mid_getn, mid_setn, bt_mid, Option.bind_some, Bool.not_true, Bool.not_false, Bool.false_eq_true, Bool.true_eq_false, beq_self_eq_true, bne_self_eq_false, Int.toNat_natCast, impl_within_f, impl_firedAt_f x c h1 h2, cueB]
          rcases Bool.eq_false_or_eq_true (inB c.2.2.2 0 11) with hi | hi
          rotate_left
          · simp [hi]
          by_cases ha : 0 ≤ artI x.2.1 c.2.2.1
          · rcases Bool.eq_false_or_eq_true (beatB x.1 c.1 c.2.1) with hb | hb
            rotate_left
            · simp [hi, hb]
            · by_cases ht : fireT x c > -1
              · have t1 : 0 ≤ fireT x c := by omega
                have t2 : ¬ fireT x c < 0 := by omega
                simp [hi, hb, ha, ht, t1, t2]
              · have t1 : ¬ 0 ≤ fireT x c := by omega
                simp [hi, hb, ha, ht, t1]
          · simp [hi, ha]
    · simp [h1, h2]
  · simp [h1]
theorem spec_IsShow_f (x : Show) (h : ShowZ x) : spec_IsShow.f x = some (showB x) := by
  unfold spec_IsShow.f spec_IsShow.fn spec_IsShow.top showB
  rw [spec_IsScore_f x.1 h.1, spec_AreArticles_f x.2.1 h.2.1.1 h.2.1.2]
  rcases Bool.eq_false_or_eq_true (scoreB x.1) with h1 | h1
  · rcases Bool.eq_false_or_eq_true (artsB x.2.1) with h2 | h2
    · simp only [h1, h2, Option.bind_some, Bool.not_true, Bool.false_eq_true, if_true, Bool.true_and]
      by_cases h20 : (20 : Int) < (x.2.2.length : Int)
      · have : ¬ x.2.2.length ≤ 20 := by omega
        simp [h20, this]
      · have h21 : x.2.2.length ≤ 20 := by omega
        have hxl := h.2.1.1
        have := (fold_fix (E := fun _ => True) (fun p st => st = p.all (cueB x)) (fun _ st c => st && cueB x c) (fun st => some st) (fun k i st => if st = true then spec_IsShow.l4 NN k i x else some false) x.2.2 ?_ ?_ true (fun _ _ => trivial) rfl (by omega) NN (NN_lt (by omega)))
        · simp only [h20, h21, decide_false, decide_true, Bool.false_eq_true, if_false, Bool.true_and]
          have t := this.2
          rw [if_pos rfl, this.1] at t
          exact t
        · intro k st _
          cases st
          · rfl
          · simp [spec_IsShow.l4, spec_IsShow.g4]
        · intro k p c r st hx _ hI c0 c1 c2 cw g
          refine ⟨by rw [hI, List.all_append]; simp, ?_⟩
          cases st
          · rfl
          · simp only [if_true, Bool.true_and, spec_IsShow.l4, spec_IsShow.g4, c0, c1, cw, g, and_self, and_true, true_and, decide_true, decide_false, if_true, if_false, mid_get, mid_set, mid_getn, mid_setn, bt_mid, Option.bind_some, Bool.not_true, Bool.not_false, Bool.false_eq_true, Bool.true_eq_false, beq_self_eq_true, bne_self_eq_false, Int.toNat_natCast, (beat_both h1 _ _).2, spec_l03Find_f x.2.1 _ hxl, spec_l01In_f, cueB]
            rcases Bool.eq_false_or_eq_true (beatB x.1 c.1 c.2.1) with hb | hb
            rotate_left
            · simp [hb]
            · by_cases ha : 0 ≤ artI x.2.1 c.2.2.1
              · have ha' : ¬ artI x.2.1 c.2.2.1 < 0 := by omega
                rcases Bool.eq_false_or_eq_true (inB c.2.2.2 0 11) with hi | hi
                rotate_left
                · simp [hb, hi, ha']
                · simp only [hb, hi, ha, ha', decide_true, decide_false, if_true, Bool.not_true, Bool.and_true, Bool.true_and, Option.bind_some, spec_l08Time_f x c h1 h2 ha hb]
                  by_cases ht : fireT x c < 0
                  · have : ¬ 0 ≤ fireT x c := by omega
                    simp [ht, this]
                  · have : 0 ≤ fireT x c := by omega
                    simp [ht, this]
              · have ha' : artI x.2.1 c.2.2.1 < 0 := by omega
                simp [hb, ha, ha']
    · simp [h1, h2]
  · simp [h1]
end Go.Pl

namespace Go.Pl
open Go.Ev
set_option linter.unusedVariables false
set_option linter.unusedSimpArgs false
/-- a booking that stands -/
def valB (b : Int × ByteArray × Int) : Bool := inB b.1 0 3 && wordB b.2.1 && inB b.2.2 1 1000
def addL (a : ByteArray) (s : Int) (b : Int × ByteArray × Int) : Int := if b.2.1 = a then (if b.1 = 0 then s + b.2.2 else s - b.2.2) else s
def leftOf (xs : List (Int × ByteArray × Int)) (a : ByteArray) : Int := xs.foldl (addL a) 0
theorem leftOf_snoc (p : List (Int × ByteArray × Int)) (b : Int × ByteArray × Int) (a : ByteArray) : leftOf (p ++ [b]) a = addL a (leftOf p a) b := by
  unfold leftOf; rw [List.foldl_append]; rfl
theorem valB_count {b : Int × ByteArray × Int} (h : valB b = true) : 1 ≤ b.2.2 ∧ b.2.2 ≤ 1000 ∧ 0 ≤ b.1 ∧ b.1 ≤ 3 := by
  unfold valB at h
  simp only [Bool.and_eq_true, inB_iff] at h
  omega
theorem leftOf_le (a : ByteArray) (xs : List (Int × ByteArray × Int)) (h : ∀ b ∈ xs, valB b = true) : -(1000 * (xs.length : Int)) ≤ leftOf xs a ∧ leftOf xs a ≤ 1000 * (xs.length : Int) := by
  have key : ∀ (ys : List (Int × ByteArray × Int)) (s : Int), (∀ b ∈ ys, valB b = true) → s - 1000 * (ys.length : Int) ≤ ys.foldl (addL a) s ∧ ys.foldl (addL a) s ≤ s + 1000 * (ys.length : Int) := by
    intro ys
    induction ys with
    | nil => intro s _; simp
    | cons b r ih =>
      intro s hb
      have h1 := ih (addL a s b) (fun x hx => hb x (by simp [hx]))
      have h2 := valB_count (hb b (by simp))
      simp only [List.foldl_cons, List.length_cons]
      have : s - 1000 ≤ addL a s b ∧ addL a s b ≤ s + 1000 := by
        unfold addL; split <;> (try split) <;> omega
      omega
  have := key xs 0 h
  unfold leftOf; omega
theorem spec_l32Left_f (xs rest : List (Int × ByteArray × Int)) (a : ByteArray) (h : ∀ b ∈ xs, valB b = true) (hl : xs.length ≤ 1000000) : spec_l32Left.f (xs ++ rest) a xs.length = some (leftOf xs a) := by
  have := (fold_fix (E := fun b => valB b = true) (fun p s => (∀ b ∈ p, valB b = true) ∧ s = leftOf p a) (fun _ => addL a) some (fun k i s => spec_l32Left.l3 NN k (xs ++ rest) a xs.length s i) xs ?_ ?_ 0 h ⟨by simp, rfl⟩ (by omega) NN (NN_lt (by omega))).2
  · rw [foldi_foldl] at this
    exact this
  · intro k st _
    simp [spec_l32Left.l3, spec_l32Left.g3]
  · intro k p b r st hx hb hI c0 c1 c2 cw g
    obtain ⟨h1, rfl⟩ := hI
    have h2 : ∀ x ∈ p ++ [b], valB x = true := fun x hx => by
      rcases List.mem_append.1 hx with h | h
      · exact h1 x h
      · rw [List.mem_singleton.1 h]; exact hb
    refine ⟨⟨h2, (leftOf_snoc p b a).symm⟩, ?_⟩
    have c3 : (p.length : Int) < ((xs ++ rest).length : Int) := by rw [List.length_append]; omega
    have g' : ∀ z, (xs ++ rest).getD p.length z = b := fun z => by rw [hx]; simp
    have bd := leftOf_le a (p ++ [b]) h2
    rw [leftOf_snoc] at bd
    have hpl : p.length ≤ 1000000 := by omega
    simp only [List.length_append, List.length_cons, List.length_nil] at bd
    simp only [spec_l32Left.l3, spec_l32Left.g3, c0, c1, c3, cw, and_self, and_true, true_and, decide_true, decide_false, if_true, if_false, mid_get, mid_set, mid_getn, mid_setn, bt_mid, Option.bind_some, Bool.not_true, Bool.not_false, Bool.false_eq_true, Bool.true_eq_false, beq_self_eq_true, bne_self_eq_false, Int.toNat_natCast, g', ba_beq]
    unfold addL at bd ⊢
    by_cases ha : b.2.1 = a
    · by_cases hz : b.1 = 0
      · have e := w64 (n := leftOf p a + b.2.2) (by simp only [ha, hz, if_true] at bd; omega) (by simp only [ha, hz, if_true] at bd; omega)
        simp [ha, hz, e]
      · have e := w64 (n := leftOf p a - b.2.2) (by simp only [ha, hz, if_true, if_false] at bd; omega) (by simp only [ha, hz, if_true, if_false] at bd; omega)
        simp [ha, hz, e]
    · simp [ha]
/-- how many of each kind -/
def addT (a : ByteArray) (s : List Int) (b : Int × ByteArray × Int) : List Int := if b.2.1 = a then s.set b.1.toNat (s.getD b.1.toNat 0 + b.2.2) else s
def totL (xs : List (Int × ByteArray × Int)) (a : ByteArray) : List Int := xs.foldl (addT a) [0, 0, 0, 0]
theorem totL_snoc (p : List (Int × ByteArray × Int)) (b : Int × ByteArray × Int) (a : ByteArray) : totL (p ++ [b]) a = addT a (totL p a) b := by
  unfold totL; rw [List.foldl_append]; rfl
theorem totL_shape (a : ByteArray) (xs : List (Int × ByteArray × Int)) (h : ∀ b ∈ xs, valB b = true) : ∃ t0 t1 t2 t3, totL xs a = [t0, t1, t2, t3] ∧ t0 - t1 - t2 - t3 = leftOf xs a ∧ 0 ≤ t0 ∧ 0 ≤ t1 ∧ 0 ≤ t2 ∧ 0 ≤ t3 ∧ t0 + t1 + t2 + t3 ≤ 1000 * (xs.length : Int) := by
  have key : ∀ (n : Nat) (xs : List (Int × ByteArray × Int)), xs.length = n → (∀ b ∈ xs, valB b = true) → ∃ t0 t1 t2 t3, totL xs a = [t0, t1, t2, t3] ∧ t0 - t1 - t2 - t3 = leftOf xs a ∧ 0 ≤ t0 ∧ 0 ≤ t1 ∧ 0 ≤ t2 ∧ 0 ≤ t3 ∧ t0 + t1 + t2 + t3 ≤ 1000 * (xs.length : Int) := by
    intro n
    induction n with
    | zero => intro xs hn _; obtain rfl := List.length_eq_zero_iff.1 hn; exact ⟨0, 0, 0, 0, rfl, rfl, by omega, by omega, by omega, by omega, by simp⟩
    | succ n ih =>
      intro xs hn hb
      rcases List.eq_nil_or_concat xs with rfl | ⟨p, b, rfl⟩
      · simp at hn
      simp only [List.concat_eq_append] at hn hb ⊢
      obtain ⟨t0, t1, t2, t3, e1, e2, e3, e4, e5, e6, e7⟩ := ih p (by simpa using hn) (fun x hx => hb x (by simp [hx]))
      have hv := valB_count (hb b (by simp))
      rw [totL_snoc, leftOf_snoc, e1]
      simp only [List.length_append, List.length_cons, List.length_nil]
      unfold addT addL
      by_cases ha : b.2.1 = a
      · simp only [ha, if_true]
        obtain h | h | h | h : b.1 = 0 ∨ b.1 = 1 ∨ b.1 = 2 ∨ b.1 = 3 := by omega
        · exact ⟨t0 + b.2.2, t1, t2, t3, by simp [h], by simp [h]; omega, by omega, by omega, by omega, by omega, by omega⟩
        · exact ⟨t0, t1 + b.2.2, t2, t3, by simp [h], by simp [h]; omega, by omega, by omega, by omega, by omega, by omega⟩
        · exact ⟨t0, t1, t2 + b.2.2, t3, by simp [h], by simp [h]; omega, by omega, by omega, by omega, by omega, by omega⟩
        · exact ⟨t0, t1, t2, t3 + b.2.2, by simp [h], by simp [h]; omega, by omega, by omega, by omega, by omega, by omega⟩
      · simp only [ha, if_false]
        exact ⟨t0, t1, t2, t3, rfl, by omega, by omega, by omega, by omega, by omega, by omega⟩
  exact key _ xs rfl h
theorem impl_totalsOf_f (xs : List (Int × ByteArray × Int)) (a : ByteArray) (h : ∀ b ∈ xs, valB b = true) (hl : xs.length ≤ 1000000) : impl_totalsOf.f xs a = some (totL xs a) := by
  have := (fold_fix (E := fun b => valB b = true) (fun p s => (∀ b ∈ p, valB b = true) ∧ s = totL p a) (fun _ => addT a) some (fun k i s => impl_totalsOf.l3 NN k a xs xs.length i s) xs ?_ ?_ [0, 0, 0, 0] h ⟨by simp, rfl⟩ (by omega) NN (NN_lt (by omega))).2
  · rw [foldi_foldl] at this
    unfold impl_totalsOf.f impl_totalsOf.fn impl_totalsOf.top
    rw [if_pos (by rw [room8]; omega)]
    exact this
  · intro k st _
    simp [impl_totalsOf.l3, impl_totalsOf.g3]
  · intro k p b r st hx hb hI c0 c1 c2 cw g
    obtain ⟨h1, rfl⟩ := hI
    have h2 : ∀ x ∈ p ++ [b], valB x = true := fun x hx => by
      rcases List.mem_append.1 hx with h | h
      · exact h1 x h
      · rw [List.mem_singleton.1 h]; exact hb
    refine ⟨⟨h2, (totL_snoc p b a).symm⟩, ?_⟩
    obtain ⟨t0, t1, t2, t3, e1, e2, e3, e4, e5, e6, e7⟩ := totL_shape a p h1
    have hpl : p.length ≤ 1000000 := by omega
    have hv := valB_count hb
    simp only [impl_totalsOf.l3, impl_totalsOf.g3, c0, c1, cw, and_self, and_true, true_and, decide_true, decide_false, if_true, if_false, mid_get, mid_set, mid_getn, mid_setn, bt_mid, Option.bind_some, Bool.not_true, Bool.not_false, Bool.false_eq_true, Bool.true_eq_false, beq_self_eq_true, bne_self_eq_false, Int.toNat_natCast, g, ba_beq]
    unfold addT
    by_cases ha : b.2.1 = a
    · have k1 : b.1 < ((totL p a).length : Int) := by rw [e1]; simp; omega
      have k2 : 0 ≤ (totL p a).getD b.1.toNat 0 ∧ (totL p a).getD b.1.toNat 0 ≤ 1000000000 := by
        rw [e1]
        obtain h | h | h | h : b.1 = 0 ∨ b.1 = 1 ∨ b.1 = 2 ∨ b.1 = 3 := by omega
        all_goals (rw [h]; simp; omega)
      have e := w64 (n := (totL p a).getD b.1.toNat 0 + b.2.2) (by omega) (by omega)
      simp only [ha, decide_true, if_true, hv.2.2.1, k1, and_self, e]
    · simp [ha]
theorem impl_piecesLeft_f (xs : List (Int × ByteArray × Int)) (a : ByteArray) (h : ∀ b ∈ xs, valB b = true) (hl : xs.length ≤ 1000000) : impl_piecesLeft.f xs a = some (leftOf xs a) := by
  unfold impl_piecesLeft.f impl_piecesLeft.fn impl_piecesLeft.top
  rw [impl_totalsOf_f xs a h hl]
  obtain ⟨t0, t1, t2, t3, e1, e2, e3, e4, e5, e6, e7⟩ := totL_shape a xs h
  have w1 := w64 (n := t0 - t1) (by omega) (by omega)
  have w2 := w64 (n := t0 - t1 - t2) (by omega) (by omega)
  have w3 := w64 (n := t0 - t1 - t2 - t3) (by omega) (by omega)
  have w4 : IntKind.i64.wrap (leftOf xs a) = leftOf xs a := by rw [← e2]; exact w3
  rw [e1]
  simp [w1, w2, w3, e2, w4]
/-- no article short at any time -/
def okFrom (p : List (Int × ByteArray × Int)) : List (Int × ByteArray × Int) → Bool
  | [] => true
  | b :: r => valB b && decide (0 ≤ leftOf (p ++ [b]) b.2.1) && okFrom (p ++ [b]) r
def booksB (xs : List (Int × ByteArray × Int)) : Bool := decide (xs.length ≤ 60) && okFrom [] xs
theorem okFrom_val : ∀ (r p : List (Int × ByteArray × Int)), okFrom p r = true → ∀ b ∈ r, valB b = true := by
  intro r
  induction r with
  | nil => intro p _ b hb; cases hb
  | cons x r ih =>
    intro p h b hb
    simp only [okFrom, Bool.and_eq_true] at h
    rcases List.mem_cons.1 hb with rfl | hb
    · exact h.1.1
    · exact ih _ h.2 b hb
theorem booksB_val {xs : List (Int × ByteArray × Int)} (h : booksB xs = true) : (∀ b ∈ xs, valB b = true) ∧ xs.length ≤ 60 := by
  unfold booksB at h
  simp only [Bool.and_eq_true, decide_eq_true_eq] at h
  exact ⟨okFrom_val _ _ h.2, h.1⟩
theorem val_snoc {p : List (Int × ByteArray × Int)} {b : Int × ByteArray × Int} (h1 : ∀ x ∈ p, valB x = true) (hb : valB b = true) : ∀ x ∈ p ++ [b], valB x = true := fun x hx => by
  rcases List.mem_append.1 hx with h | h
  · exact h1 x h
  · rw [List.mem_singleton.1 h]; exact hb
theorem spec_AreBookings_loop : ∀ (r p : List (Int × ByteArray × Int)) (k : Nat), (∀ b ∈ p, valB b = true) → (∀ b ∈ r, Sz b.2.1) → p.length + r.length ≤ 1000000 → r.length < k →
    spec_AreBookings.l2 NN k (p ++ r) p.length = some (okFrom p r && decide ((p ++ r).length ≤ 60)) := by
  intro r
  induction r with
  | nil =>
    intro p k _ _ _ hk
    obtain ⟨k, rfl⟩ : ∃ j, k = j + 1 := ⟨k - 1, by omega⟩
    simp [spec_AreBookings.l2, spec_AreBookings.g2, okFrom]
    omega
  | cons b r ih =>
    intro p k hp hr hb hk
    simp only [List.length_cons] at hk hb
    obtain ⟨k, rfl⟩ : ∃ j, k = j + 1 := ⟨k - 1, by omega⟩
    have hm := mid_len p r b
    have c0 : (0 : Int) ≤ (p.length : Int) := by omega
    have c1 : (p.length : Int) < ((p ++ b :: r).length : Int) := by omega
    have cw := w64 (n := (p.length : Int) + 1) (by omega) (by omega)
    simp only [spec_AreBookings.l2, spec_AreBookings.g2, c0, c1, cw, and_self, and_true, true_and, decide_true, decide_false, if_true, if_false, mid_get, mid_set, mid_getn, mid_setn, bt_mid, Option.bind_some, Bool.not_true, Bool.not_false, Bool.false_eq_true, Bool.true_eq_false, beq_self_eq_true, bne_self_eq_false, Int.toNat_natCast, spec_l01In_f, spec_IsWord_f _ (hr b (by simp))]
    have hv : valB b = (inB b.1 0 3 && wordB b.2.1 && inB b.2.2 1 1000) := rfl
    simp only [okFrom]
    cases h1 : inB b.1 0 3
    · simp [hv, h1]
    cases h2 : wordB b.2.1
    · simp [hv, h2]
    cases h3 : inB b.2.2 1 1000
    · simp [hv, h3]
    have hvt : valB b = true := by rw [hv, h1, h2, h3]; rfl
    have hl := spec_l32Left_f (p ++ [b]) r b.2.1 (val_snoc hp hvt) (by simp; omega)
    rw [mid_snoc, snoc_len] at hl
    have := ih (p ++ [b]) k (val_snoc hp hvt) (fun x hx => hr x (by simp [hx])) (by simp; omega) (by omega)
    rw [mid_snoc, snoc_len] at this
    simp only [hl, this, hvt, and_self, and_true, true_and, decide_true, decide_false, if_true, if_false, mid_get, mid_set, mid_getn, mid_setn, bt_mid, Option.bind_some, Bool.not_true, Bool.not_false, Bool.false_eq_true, Bool.true_eq_false, beq_self_eq_true, bne_self_eq_false, Int.toNat_natCast, decide_eq_true_eq]
    by_cases hn : leftOf (p ++ [b]) b.2.1 < 0
    · have : ¬ 0 ≤ leftOf (p ++ [b]) b.2.1 := by omega
      simp [hn, this]
    · have h4 : 0 ≤ leftOf (p ++ [b]) b.2.1 := by omega
      simp [hn, h4]
theorem spec_AreBookings_f (xs : List (Int × ByteArray × Int)) (h : Lm OkBooking xs) : spec_AreBookings.f xs = some (booksB xs) := by
  have := spec_AreBookings_loop xs [] NN (by simp) (fun b hb => Nat.le_trans (h.2 b hb).2.1 (by omega)) (by simpa using h.1) (NN_lt (by have := h.1; omega))
  unfold spec_AreBookings.f spec_AreBookings.fn spec_AreBookings.top booksB
  rw [Bool.and_comm]
  simpa using this
theorem impl_AreBookings_loop : ∀ (r p : List (Int × ByteArray × Int)) (k : Nat), (∀ b ∈ p, valB b = true) → (∀ b ∈ r, Sz b.2.1) → p.length + r.length ≤ 1000000 → r.length < k →
    impl_AreBookings.l4 NN k (p ++ r) (p ++ r) (p ++ r).length p.length = some (okFrom p r) := by
  intro r
  induction r with
  | nil =>
    intro p k _ _ _ hk
    obtain ⟨k, rfl⟩ : ∃ j, k = j + 1 := ⟨k - 1, by omega⟩
    simp [impl_AreBookings.l4, impl_AreBookings.g4, okFrom]
  | cons b r ih =>
    intro p k hp hr hb hk
    simp only [List.length_cons] at hk hb
    obtain ⟨k, rfl⟩ : ∃ j, k = j + 1 := ⟨k - 1, by omega⟩
    have hm := mid_len p r b
    have c0 : (0 : Int) ≤ (p.length : Int) := by omega
    have c1 : (p.length : Int) < ((p ++ b :: r).length : Int) := by omega
    have cw := w64 (n := (p.length : Int) + 1) (by omega) (by omega)
    have c2 : (0 : Int) ≤ (p.length : Int) + 1 := by omega
    have c3 : (p.length : Int) + 1 ≤ ((p ++ b :: r).length : Int) := by omega
    have ct : (p ++ b :: r).take ((p.length : Int) + 1).toNat = p ++ [b] := by
      rw [show ((p.length : Int) + 1).toNat = (p ++ [b]).length by simp, show p ++ b :: r = (p ++ [b]) ++ r by simp, List.take_left' rfl]
    simp only [impl_AreBookings.l4, impl_AreBookings.g4, c0, c1, c2, c3, cw, ct, and_self, and_true, true_and, decide_true, decide_false, if_true, if_false, mid_get, mid_set, mid_getn, mid_setn, bt_mid, Option.bind_some, Bool.not_true, Bool.not_false, Bool.false_eq_true, Bool.true_eq_false, beq_self_eq_true, bne_self_eq_false, Int.toNat_natCast, impl_within_f, impl_IsWord_f _ (hr b (by simp))]
    have hv : valB b = (inB b.1 0 3 && wordB b.2.1 && inB b.2.2 1 1000) := rfl
    simp only [okFrom]
    cases h1 : inB b.1 0 3
    · simp [hv, h1]
    cases h2 : wordB b.2.1
    · simp [hv, h2]
    cases h3 : inB b.2.2 1 1000
    · simp [hv, h3]
    have hvt : valB b = true := by rw [hv, h1, h2, h3]; rfl
    have hl := impl_piecesLeft_f (p ++ [b]) b.2.1 (val_snoc hp hvt) (by simp; omega)
    have := ih (p ++ [b]) k (val_snoc hp hvt) (fun x hx => hr x (by simp [hx])) (by simp; omega) (by omega)
    rw [mid_snoc, snoc_len] at this
    simp only [hl, this, hvt, and_self, and_true, true_and, decide_true, decide_false, if_true, if_false, mid_get, mid_set, mid_getn, mid_setn, bt_mid, Option.bind_some, Bool.not_true, Bool.not_false, Bool.false_eq_true, Bool.true_eq_false, beq_self_eq_true, bne_self_eq_false, Int.toNat_natCast, decide_eq_true_eq]
    by_cases hn : leftOf (p ++ [b]) b.2.1 < 0
    · have : ¬ 0 ≤ leftOf (p ++ [b]) b.2.1 := by omega
      simp [hn, this]
    · have h4 : 0 ≤ leftOf (p ++ [b]) b.2.1 := by omega
      simp [hn, h4]
theorem impl_AreBookings_f (xs : List (Int × ByteArray × Int)) (h : Lm OkBooking xs) : impl_AreBookings.f xs = some (booksB xs) := by
  have := impl_AreBookings_loop xs [] NN (by simp) (fun b hb => Nat.le_trans (h.2 b hb).2.1 (by omega)) (by simpa using h.1) (NN_lt (by have := h.1; omega))
  unfold impl_AreBookings.f impl_AreBookings.fn impl_AreBookings.top booksB
  simp only [List.nil_append, List.length_nil] at this
  by_cases h1 : (60 : Int) < xs.length
  · have h2 : ¬ xs.length ≤ 60 := by omega
    simp [h1, h2]
  · have h2 : xs.length ≤ 60 := by omega
    simp only [h1, h2, decide_false, Bool.false_eq_true, if_false, decide_true, Bool.true_and]
    exact this
theorem AreBookings_core (xs : List (Int × ByteArray × Int)) (h : Lm OkBooking xs) : ∃ w, spec_AreBookings.f xs = some w ∧ impl_AreBookings.f xs = some w ∧ True :=
  ⟨_, spec_AreBookings_f xs h, impl_AreBookings_f xs h, trivial⟩
end Go.Pl

namespace Go.Pl
open Go.Ev
set_option linter.unusedVariables false
set_option linter.unusedSimpArgs false
theorem less_irr : ∀ x : List UInt8, Op.bytesLess x x = false := by
  intro x
  induction x with
  | nil => rfl
  | cons a x ih => simp [Op.bytesLess, ih]
theorem less_trans : ∀ x y z : List UInt8, Op.bytesLess x y = true → Op.bytesLess y z = true → Op.bytesLess x z = true := by
  intro x
  induction x with
  | nil =>
    intro y z h1 h2
    cases z with
    | nil => cases y <;> simp [Op.bytesLess] at h2
    | cons c z => rfl
  | cons a x ih =>
    intro y z h1 h2
    cases y with
    | nil => simp [Op.bytesLess] at h1
    | cons b y =>
      cases z with
      | nil => simp [Op.bytesLess] at h2
      | cons c z =>
        simp only [Op.bytesLess, Bool.or_eq_true, Bool.and_eq_true, decide_eq_true_eq, beq_iff_eq, UInt8.lt_iff_toNat_lt] at h1 h2 ⊢
        rcases h1 with h1 | ⟨rfl, h1⟩
        · rcases h2 with h2 | ⟨rfl, h2⟩
          · left; omega
          · left; exact h1
        · rcases h2 with h2 | ⟨rfl, h2⟩
          · left; exact h2
          · right; exact ⟨rfl, ih y z h1 h2⟩
theorem artsF_pair : ∀ (r : List Art) (x : Art), artsF x r = true → (x :: r).Pairwise fun a b => ltS a.1 b.1 = true := by
  intro r
  induction r with
  | nil => intro x _; simp
  | cons a r ih =>
    intro x h
    simp only [artsF, Bool.and_eq_true] at h
    have i := ih a h.2
    refine List.pairwise_cons.2 ⟨fun b hb => ?_, i⟩
    rcases List.mem_cons.1 hb with rfl | hb
    · exact h.1.2
    · exact less_trans _ _ _ h.1.2 ((List.pairwise_cons.1 i).1 b hb)
theorem arts_inj {xs : List Art} (h : artsB xs = true) {i j : Nat} (hi : i < xs.length) (hj : j < xs.length) (he : (xs[i]).1 = (xs[j]).1) : i = j := by
  have hp : xs.Pairwise fun a b => ltS a.1 b.1 = true := by
    unfold artsB at h
    rw [Bool.and_eq_true] at h
    cases xs with
    | nil => simp
    | cons a r =>
      have h2 := h.2
      simp only [artsL, Bool.and_eq_true] at h2
      exact artsF_pair r a h2.2
  rw [List.pairwise_iff_getElem] at hp
  rcases Nat.lt_trichotomy i j with hlt | heq | hgt
  · have := hp i j hi hj hlt
    rw [he] at this
    unfold ltS at this
    rw [less_irr] at this; cases this
  · exact heq
  · have := hp j i hj hi hgt
    rw [he] at this
    unfold ltS at this
    rw [less_irr] at this; cases this
theorem artI_at {xs : List Art} {c : ByteArray} (h : 0 ≤ artI xs c) : ∃ hl : (artI xs c).toNat < xs.length, (xs[(artI xs c).toNat]).1 = c := by
  unfold artI at h ⊢
  cases hf : firstOf (fun l : Art => decide (l.1 = c)) 0 xs with
  | none => rw [hf] at h; simp at h
  | some y =>
    obtain ⟨h1, h2, h3, h4⟩ := firstOf_spec _ xs 0 y.1 y.2 hf
    simp only [Option.elim_some, Int.toNat_natCast]
    rw [Nat.sub_zero] at h3
    refine ⟨by omega, ?_⟩
    have := (List.getElem?_eq_some_iff.1 h3).2
    rw [this]
    simpa using h4
def cueA (x : Show) (f : Int) : ByteArray := (x.2.2.getD f.toNat (0, (0, (ByteArray.empty, 0)))).2.2.1
def cntN (x : Show) (fired : List Int) (c : ByteArray) : Nat := fired.countP fun f => decide (cueA x f = c)
theorem cntN_snoc (x : Show) (p : List Int) (f : Int) (c : ByteArray) : cntN x (p ++ [f]) c = cntN x p c + if cueA x f = c then 1 else 0 := by
  unfold cntN
  rw [List.countP_append]
  by_cases h : cueA x f = c <;> simp [h]
theorem cntN_le (x : Show) (p : List Int) (c : ByteArray) : cntN x p c ≤ p.length := List.countP_le_length
abbrev Bk : Type := Int × ByteArray × Int
def bookF (x : Show) (fired : List Int) (out : List Bk) (a : Art) : List Bk := if 0 < cntN x fired a.1 then out ++ [(1, a.1, (cntN x fired a.1 : Int))] else out
def bookL (x : Show) (fired : List Int) (list : List Bk) : List Bk := x.2.1.foldl (bookF x fired) list
def limR (out : List Bk) : List Bk × Int := if 60 < out.length then ([], 3) else if booksB out = true then (out, 0) else ([], 5)
def firedB (x : Show) (fired : List Int) : Bool := fired.all (inB · 0 ((x.2.2.length : Int) - 1)) && risB fired
def bookS (list : List Bk) (x : Show) (fired : List Int) : List Bk × Int :=
  if booksB list = true then (if showB x = true then (if firedB x fired = true then limR (bookL x fired list) else ([], 2)) else ([], 1)) else ([], 1)
theorem spec_AreBookings_z (xs : List Bk) (hl : xs.length ≤ 1000000) (hz : ∀ b ∈ xs, Sz b.2.1) : spec_AreBookings.f xs = some (booksB xs) := by
  have := spec_AreBookings_loop xs [] NN (by simp) hz (by simpa using hl) (NN_lt (by omega))
  unfold spec_AreBookings.f spec_AreBookings.fn spec_AreBookings.top booksB
  rw [Bool.and_comm]
  simpa using this
theorem impl_AreBookings_z (xs : List Bk) (hl : xs.length ≤ 1000000) (hz : ∀ b ∈ xs, Sz b.2.1) : impl_AreBookings.f xs = some (booksB xs) := by
  have := impl_AreBookings_loop xs [] NN (by simp) hz (by simpa using hl) (NN_lt (by omega))
  unfold impl_AreBookings.f impl_AreBookings.fn impl_AreBookings.top booksB
  simp only [List.nil_append, List.length_nil] at this
  by_cases h1 : (60 : Int) < xs.length
  · have h2 : ¬ xs.length ≤ 60 := by omega
    simp [h1, h2]
  · have h2 : xs.length ≤ 60 := by omega
    simp only [h1, h2, decide_false, Bool.false_eq_true, if_false, decide_true, Bool.true_and]
    exact this
theorem showB_iff {x : Show} (h : showB x = true) : scoreB x.1 = true ∧ artsB x.2.1 = true ∧ x.2.2.length ≤ 20 ∧ ∀ c ∈ x.2.2, 0 ≤ artI x.2.1 c.2.2.1 := by
  unfold showB at h
  simp only [Bool.and_eq_true, decide_eq_true_eq] at h
  refine ⟨h.1.1.1, h.1.1.2, h.1.2, fun c hc => ?_⟩
  have := List.all_eq_true.1 h.2 c hc
  unfold cueB at this
  simp only [Bool.and_eq_true, decide_eq_true_eq] at this
  exact this.1.1.2
theorem cue_art {x : Show} (h : showB x = true) {f : Int} (h0 : 0 ≤ f) (h1 : f < (x.2.2.length : Int)) : 0 ≤ artI x.2.1 (cueA x f) := by
  refine (showB_iff h).2.2.2 _ ?_
  rw [List.getD_eq_getElem?_getD, List.getElem?_eq_getElem (by omega)]; exact List.getElem_mem _
theorem bookF_len (x : Show) (fired : List Int) (out : List Bk) (a : Art) : (bookF x fired out a).length ≤ out.length + 1 := by unfold bookF; split <;> simp
theorem bookF_sz (x : Show) (fired : List Int) {out : List Bk} {a : Art} (h : ∀ b ∈ out, Sz b.2.1) (ha : Sz a.1) : ∀ b ∈ bookF x fired out a, Sz b.2.1 := by
  intro b hb
  unfold bookF at hb
  split at hb
  · rcases List.mem_append.1 hb with h1 | h1
    · exact h b h1
    · rw [List.mem_singleton.1 h1]; exact ha
  · exact h b hb
theorem room32' (out : List Bk) (b : Bk) (h : out.length ≤ 2000000) : out.length + [b].length < room 32 := by rw [room32]; simp; omega
theorem spec_in (x : Show) (fired : List Int) (L : List Int → Int → Show → List Bk → Option (List Bk × Int)) (k : Nat) (a : Art) (hk : k < x.2.1.length) (hka : k ≤ 1000) (ha : ∀ z, x.2.1.getD k z = a) (out : List Bk) (hf : ∀ f ∈ fired, 0 ≤ f ∧ f < (x.2.2.length : Int)) (hl : fired.length ≤ 1000000) (ho : out.length ≤ 2000000) :
    spec_BookShow.l11 NN L NN fired k 0 0 x out = L fired ((k : Int) + 1) x (bookF x fired out a) := by
  have := fold_fix (E := fun f => 0 ≤ f ∧ f < (x.2.2.length : Int)) (fun p st => st = (cntN x p a.1 : Int)) (fun _ st f => if cueA x f = a.1 then st + 1 else st) (fun st => if 0 < st then L fired ((k : Int) + 1) x (out ++ [(1, a.1, st)]) else L fired ((k : Int) + 1) x out) (fun m i st => spec_BookShow.l11 NN L m fired k st i x out) fired ?_ ?_ 0 hf rfl (by omega) NN (NN_lt (by omega))
  · refine this.2.trans ?_
    rw [this.1]
    unfold bookF
    by_cases h : 0 < cntN x fired a.1
    · rw [if_pos (by omega), if_pos h]
    · rw [if_neg (by omega), if_neg h]
  · intro m st hst
    have w := w64 (n := (k : Int) + 1) (by omega) (by omega)
    have c0 : (0 : Int) ≤ (k : Int) := by omega
    have c1 : (k : Int) < (x.2.1.length : Int) := by omega
    simp only [spec_BookShow.l11, spec_BookShow.g11, Int.lt_irrefl, decide_false, Bool.false_eq_true, if_false, w, c0, c1, and_self, if_true, Int.toNat_natCast, ha, room32' out _ ho]
    by_cases h : 0 < st
    · simp only [h, decide_true, if_true]
      exact if_pos (by rw [room32]; simp; omega)
    · simp [h]
  · intro m p f r st hx hfr hst c0 c1 c2 cw g
    have c3 : (0 : Int) ≤ (k : Int) := by omega
    have c4 : (k : Int) < (x.2.1.length : Int) := by omega
    have hle := cntN_le x p a.1
    have hp : p.length ≤ 1000000 := by omega
    have w := w64 (n := st + 1) (by omega) (by omega)
    refine ⟨by rw [hst, cntN_snoc]; split <;> simp, ?_⟩
    have e : (x.2.2.getD f.toNat (0, (0, (ByteArray.empty, 0)))).2.2.1 = cueA x f := rfl
    simp only [spec_BookShow.l11, spec_BookShow.g11, c0, c1, c3, c4, cw, g, and_self, and_true, true_and, decide_true, decide_false, if_true, if_false, mid_get, mid_set, mid_getn, mid_setn, bt_mid, Option.bind_some, Bool.not_true, Bool.not_false, Bool.false_eq_true, Bool.true_eq_false, beq_self_eq_true, bne_self_eq_false, Int.toNat_natCast, hfr.1, hfr.2, Int.toNat_natCast, ha, e, ba_beq, w]
    by_cases h : cueA x f = a.1
    · simp [h]
    · simp [h]
theorem spec_out (x : Show) (fired : List Int) (list : List Bk) (hx : artsB x.2.1 = true) (hax : ∀ a ∈ x.2.1, Sz a.1) (hf : ∀ f ∈ fired, 0 ≤ f ∧ f < (x.2.2.length : Int)) (hl : fired.length ≤ 1000000) (ho : list.length ≤ 900000) (hz : ∀ b ∈ list, Sz b.2.1) :
    spec_BookShow.l7 NN NN fired 0 x list = some (limR (bookL x fired list)) := by
  have h12 := (artsB_ok hx).1
  have := fold_fix (E := fun a : Art => Sz a.1) (fun p st => st.length ≤ list.length + p.length ∧ ∀ b ∈ st, Sz b.2.1) (fun _ => bookF x fired) (fun st => some (limR st)) (fun m i st => spec_BookShow.l7 NN m fired i x st) x.2.1 ?_ ?_ list hax ⟨by simp, hz⟩ (by omega) NN (NN_lt (by omega))
  · rw [foldi_foldl] at this
    exact this.2
  · intro m st hst
    have n1 := hst.1
    simp only [spec_BookShow.l7, spec_BookShow.g7, Int.lt_irrefl, decide_false, Bool.false_eq_true, if_false]
    unfold spec_l32Limits.f spec_l32Limits.fn spec_l32Limits.top limR
    rw [spec_AreBookings_z st (by omega) hst.2]
    by_cases h60 : 60 < st.length
    · have : (60 : Int) < (st.length : Int) := by omega
      simp [h60, this]
    · have : ¬ (60 : Int) < (st.length : Int) := by omega
      cases hb : booksB st <;> simp [h60, this]
  · intro m p a r st hxs ha hI c0 c1 c2 cw g
    have hp : p.length ≤ 12 := by omega
    have hI1 := hI.1
    have hlen := bookF_len x fired st a
    refine ⟨⟨by simp only [List.length_append, List.length_singleton]; omega, bookF_sz x fired hI.2 ha⟩, ?_⟩
    simp only [spec_BookShow.l7, spec_BookShow.g7, c1, decide_true, if_true]
    exact spec_in x fired _ p.length a (by omega) (by omega) g st hf hl (by omega)
theorem spec_BookShow_f (list : List Bk) (x : Show) (fired : List Int) (hl : list.length ≤ 900000) (hz : ∀ b ∈ list, Sz b.2.1) (hx : ShowZ x) (hf : fired.length ≤ 1000000) : spec_BookShow.f list x fired = some (bookS list x fired) := by
  unfold spec_BookShow.f spec_BookShow.fn spec_BookShow.top bookS
  rw [spec_AreBookings_z list (by omega) hz, spec_IsShow_f x hx]
  cases hb : booksB list
  · rfl
  cases hs : showB x
  · rfl
  have hsi := showB_iff hs
  simp only [Option.bind_some, Bool.not_true, Bool.false_eq_true, if_true, if_false]
  rw [spec_l01Rises_f fired (x.2.2.length : Int) (wf64.2 (by omega)) (by omega)]
  show (if (!firedB x fired) = true then _ else _) = _
  cases hfb : firedB x fired
  · rfl
  · unfold firedB at hfb
    rw [Bool.and_eq_true] at hfb
    have hin : ∀ f ∈ fired, 0 ≤ f ∧ f < (x.2.2.length : Int) := fun f hf => by
      have := inB_iff.1 (List.all_eq_true.1 hfb.1 f hf)
      omega
    simp only [Bool.not_true, Bool.false_eq_true, if_false, if_true]
    rw [if_pos (by rw [room32]; simp; omega), List.nil_append]
    exact spec_out x fired list hsi.2.1 hx.2.1.2 hin hf hl hz
/-- the counts behind some fired cues -/
def cntsL (x : Show) (p : List Int) : List Int := x.2.1.map fun a => (cntN x p a.1 : Int)
theorem cnts_upd {x : Show} (h : artsB x.2.1 = true) (p : List Int) (f : Int) (ha : 0 ≤ artI x.2.1 (cueA x f)) (hp : p.length ≤ 1000000) :
    (cntsL x p).set (artI x.2.1 (cueA x f)).toNat (IntKind.i64.wrap ((cntsL x p).getD (artI x.2.1 (cueA x f)).toNat 0 + 1)) = cntsL x (p ++ [f]) := by
  obtain ⟨hl, he⟩ := artI_at ha
  have hg : (cntsL x p).getD (artI x.2.1 (cueA x f)).toNat 0 = (cntN x p (cueA x f) : Int) := by
    unfold cntsL
    rw [List.getD_eq_getElem?_getD, List.getElem?_map, List.getElem?_eq_getElem hl]
    simp only [Option.map_some, Option.getD_some, he]
  have hle := cntN_le x p (cueA x f)
  rw [hg, w64 (by omega) (by omega)]
  apply List.ext_getElem
  · simp [cntsL]
  · intro i h1 h2
    have hi : i < x.2.1.length := by simpa [cntsL] using h2
    rw [List.getElem_set]
    unfold cntsL
    simp only [List.getElem_map, cntN_snoc]
    by_cases e : (artI x.2.1 (cueA x f)).toNat = i
    · subst e
      rw [if_pos rfl, he]
      simp
    · rw [if_neg e]
      have : ¬ cueA x f = (x.2.1[i]).1 := fun e2 => e (arts_inj h hl hi (by rw [he, e2]))
      rw [if_neg this]; simp
theorem impl_out (x : Show) (fired : List Int) (list : List Bk) (hx : artsB x.2.1 = true) (hax : ∀ a ∈ x.2.1, Sz a.1) (ho : list.length ≤ 900000) (hz : ∀ b ∈ list, Sz b.2.1) :
    impl_BookShow.l13 NN NN (x.2.1.length : Int) 0 x list (cntsL x fired) = some (limR (bookL x fired list)) := by
  have h12 := (artsB_ok hx).1
  have hcl : (cntsL x fired).length = x.2.1.length := by simp [cntsL]
  have := fold_fix (E := fun a : Art => Sz a.1) (fun p st => st.length ≤ list.length + p.length ∧ ∀ b ∈ st, Sz b.2.1) (fun _ => bookF x fired) (fun st => some (limR st)) (fun m i st => impl_BookShow.l13 NN m (x.2.1.length : Int) i x st (cntsL x fired)) x.2.1 ?_ ?_ list hax ⟨by simp, hz⟩ (by omega) NN (NN_lt (by omega))
  · rw [foldi_foldl] at this
    exact this.2
  · intro m st hst
    have n1 := hst.1
    simp only [impl_BookShow.l13, impl_BookShow.g13, Int.lt_irrefl, decide_false, Bool.false_eq_true, if_false]
    unfold limR
    rw [impl_AreBookings_z st (by omega) hst.2]
    by_cases h60 : 60 < st.length
    · have : (60 : Int) < (st.length : Int) := by omega
      simp [h60, this]
    · have : ¬ (60 : Int) < (st.length : Int) := by omega
      cases hb : booksB st <;> simp [h60, this]
  · intro m p a r st hxs ha hI c0 c1 c2 cw g
    have hp : p.length ≤ 12 := by omega
    have hI1 := hI.1
    have hlen := bookF_len x fired st a
    refine ⟨⟨by simp only [List.length_append, List.length_singleton]; omega, bookF_sz x fired hI.2 ha⟩, ?_⟩
    have c3 : (p.length : Int) < ((cntsL x fired).length : Int) := by omega
    have hc : ∀ z, (cntsL x fired).getD p.length z = (cntN x fired a.1 : Int) := fun z => by
      have hpl : p.length < x.2.1.length := by omega
      have hge := g (ByteArray.empty, (0, (0, (0, (0, (0, (0, (0, 0))))))))
      rw [List.getD_eq_getElem?_getD, List.getElem?_eq_getElem hpl, Option.getD_some] at hge
      unfold cntsL
      rw [List.getD_eq_getElem?_getD, List.getElem?_map, List.getElem?_eq_getElem hpl]
      simp only [Option.map_some, Option.getD_some, hge]
    simp only [impl_BookShow.l13, impl_BookShow.g13, c0, c1, c3, cw, and_self, and_true, true_and, decide_true, decide_false, if_true, if_false, mid_get, mid_set, mid_getn, mid_setn, bt_mid, Option.bind_some, Bool.not_true, Bool.not_false, Bool.false_eq_true, Bool.true_eq_false, beq_self_eq_true, bne_self_eq_false, Int.toNat_natCast, Int.toNat_natCast, hc, g]
    unfold bookF
    by_cases h : 0 < cntN x fired a.1
    · have h' : (0 : Int) < (cntN x fired a.1 : Int) := by omega
      simp only [h, h', decide_true, if_true]
      exact if_pos (by rw [room32]; simp; omega)
    · have h' : ¬ (0 : Int) < (cntN x fired a.1 : Int) := by omega
      simp only [h, h', decide_false, Bool.false_eq_true, if_false]
theorem impl_chk (x : Show) (hx : showB x = true) (list : List Bk) (ho : list.length ≤ 900000) : ∀ (r p : List Int) (y : Int) (k : Nat), p.length + r.length + 1 ≤ 1000000 → r.length < k →
    impl_BookShow.l5 NN k list (p ++ [y] ++ r) (p ++ [y] ++ r) (p ++ [y] ++ r).length ((p.length : Int) + 1) x (cntsL x (p ++ [y])) = if (r.all (inB · 0 ((x.2.2.length : Int) - 1)) && risF y r) = true then impl_BookShow.l13 NN NN (x.2.1.length : Int) 0 x list (cntsL x (p ++ [y] ++ r)) else some ([], 2) := by
  have hsi := showB_iff hx
  have hxl := (artsB_ok hsi.2.1).1
  intro r
  induction r with
  | nil =>
    intro p y k _ hk
    obtain ⟨k, rfl⟩ : ∃ j, k = j + 1 := ⟨k - 1, by omega⟩
    have n1 : ¬ (p.length : Int) + 1 < ((p ++ [y]).length : Int) := by simp
    rw [List.append_nil]
    have hcl : ((cntsL x (p ++ [y])).length : Int) = (x.2.1.length : Int) := by simp [cntsL]
    simp only [impl_BookShow.l5, impl_BookShow.g5, n1, decide_false, Bool.false_eq_true, if_false, hcl, risF, List.all_nil, Bool.and_self, if_true, List.nil_append, List.append_nil]
    rw [if_pos (by rw [room32]; simp; omega)]
  | cons f r ih =>
    intro p y k hb hk
    simp only [List.length_cons] at hb hk
    obtain ⟨k, rfl⟩ : ∃ j, k = j + 1 := ⟨k - 1, by omega⟩
    have hl : ((p ++ [y] ++ f :: r).length : Int) = p.length + r.length + 2 := by simp; omega
    have w1 := w64 (n := (p.length : Int) + 1 - 1) (by omega) (by omega)
    have w2 := w64 (n := (p.length : Int) + 1 + 1) (by omega) (by omega)
    have c1 : (p.length : Int) + 1 < ((p ++ [y] ++ f :: r).length : Int) := by omega
    have c2 : (0 : Int) ≤ (p.length : Int) + 1 - 1 := by omega
    have c3 : (p.length : Int) + 1 - 1 < ((p ++ [y] ++ f :: r).length : Int) := by omega
    have c4 : (0 : Int) ≤ (p.length : Int) + 1 := by omega
    have c5 : (0 : Int) < (p.length : Int) + 1 := by omega
    have g1 : ∀ z, (p ++ [y] ++ f :: r).getD ((p.length : Int) + 1).toNat z = f := fun z => by
      rw [show ((p.length : Int) + 1).toNat = (p ++ [y]).length by simp, mid_getn]
    have g2 : ∀ z, (p ++ [y] ++ f :: r).getD ((p.length : Int) + 1 - 1).toNat z = y := fun z => by
      rw [show ((p.length : Int) + 1 - 1).toNat = p.length by omega, snoc_getl']
    have i1 := ih (p ++ [y]) f k (by simp; omega) (by omega)
    have e1 : (((p ++ [y]).length : Nat) : Int) + 1 = (p.length : Int) + 1 + 1 := by simp
    have e2 : p ++ [y] ++ [f] ++ r = p ++ [y] ++ f :: r := by simp
    rw [e1, e2] at i1
    have eA : ∀ f : Int, (x.2.2.getD f.toNat (0, (0, (ByteArray.empty, 0)))).2.2.1 = cueA x f := fun _ => rfl
    simp only [impl_BookShow.l5, impl_BookShow.g5, w1, w2, c1, c2, c3, c4, c5, g1, g2, and_self, decide_true, if_true, Option.bind_some, impl_isIndex_f f (n := (x.2.2.length : Int)) (by omega) (by omega), eA, List.all_cons, risF]
    rcases Bool.eq_false_or_eq_true (inB f 0 ((x.2.2.length : Int) - 1)) with hf | hf
    · have hff := inB_iff.1 hf
      by_cases hle : f ≤ y
      · have : ¬ y < f := by omega
        simp [hf, hle, this]
      · have hlt : y < f := by omega
        have ha := cue_art hx (f := f) (by omega) (by omega)
        have hbd := artI_bd x.2.1 (cueA x f)
        have hcl : ((cntsL x (p ++ [y])).length : Int) = (x.2.1.length : Int) := by simp [cntsL]
        have hu := cnts_upd hsi.2.1 (p ++ [y]) f ha (by simp; omega)
        simp only [hf, hle, hlt, hff.1, show f < (x.2.2.length : Int) from by omega, decide_false, decide_true, Bool.not_true, Bool.true_and, Bool.false_eq_true, if_true, if_false, and_self, impl_articleOf_f x.2.1 _ (show x.2.1.length ≤ 140737488355328 by omega), Option.bind_some, ha, hcl, hbd, hu]
        exact i1
    · simp [hf]
theorem impl_chk0 (x : Show) (hs : showB x = true) (list : List Bk) (hl : list.length ≤ 900000) (hz : ∀ b ∈ list, Sz b.2.1) (hx : ShowZ x) (fired : List Int) (hf : fired.length ≤ 1000000) :
    impl_BookShow.l5 NN NN list fired fired (fired.length : Int) 0 x (cntsL x []) = some (if firedB x fired = true then limR (bookL x fired list) else ([], 2)) := by
  have hsi := showB_iff hs
  have hxl := (artsB_ok hsi.2.1).1
  obtain ⟨k, hk⟩ : ∃ j, NN = j + 1 := ⟨NN - 1, by have := NNb; omega⟩
  have hkb : 1000000000000000 < k := by rw [NN_eq] at hk; omega
  rw [show impl_BookShow.l5 NN NN = impl_BookShow.l5 NN (k + 1) by rw [← hk]]
  have hcl : ((cntsL x []).length : Int) = (x.2.1.length : Int) := by simp [cntsL]
  cases fired with
  | nil =>
    have n1 : ¬ (0 : Int) < (([] : List Int).length : Int) := by simp
    simp only [impl_BookShow.l5, impl_BookShow.g5, n1, decide_false, Bool.false_eq_true, if_false, hcl, List.nil_append]
    rw [if_pos (by rw [room32]; simp; omega), impl_out x [] list hsi.2.1 hx.2.1.2 hl hz]
    simp [firedB, risB]
  | cons f r =>
    simp only [List.length_cons] at hf
    have i1 := impl_chk x hs list hl r [] f k (by simp; omega) (by omega)
    simp only [List.nil_append, List.length_nil] at i1
    have n1 : (0 : Int) < ((f :: r).length : Int) := by simp only [List.length_cons]; omega
    have w2 := w64 (n := (0 : Int) + 1) (by omega) (by omega)
    have g1 : ∀ z, (f :: r).getD (0 : Int).toNat z = f := fun z => rfl
    have eA : ∀ f : Int, (x.2.2.getD f.toNat (0, (0, (ByteArray.empty, 0)))).2.2.1 = cueA x f := fun _ => rfl
    simp only [impl_BookShow.l5, impl_BookShow.g5, n1, w2, g1, Int.le_refl, Int.lt_irrefl, and_self, decide_true, decide_false, Bool.false_eq_true, if_true, if_false, Option.bind_some, impl_isIndex_f f (n := (x.2.2.length : Int)) (by omega) (by omega), eA]
    have hfb : firedB x (f :: r) = (inB f 0 ((x.2.2.length : Int) - 1) && (r.all (inB · 0 ((x.2.2.length : Int) - 1)) && risF f r)) := by
      unfold firedB
      rw [List.all_cons, risB_cons, Bool.and_assoc]
    rw [hfb]
    rcases Bool.eq_false_or_eq_true (inB f 0 ((x.2.2.length : Int) - 1)) with hfi | hfi
    · have hff := inB_iff.1 hfi
      have ha := cue_art hs (f := f) (by omega) (by omega)
      have hbd := artI_bd x.2.1 (cueA x f)
      have hu := cnts_upd hsi.2.1 [] f ha (by simp)
      rw [List.nil_append] at hu
      simp only [hfi, hff.1, show f < (x.2.2.length : Int) from by omega, Bool.not_true, Bool.true_and, if_true, and_self, impl_articleOf_f x.2.1 _ (show x.2.1.length ≤ 140737488355328 by omega), Option.bind_some, ha, hcl, hbd, hu]
      have e0 : ((0 : Nat) : Int) = 0 := rfl
      rw [show [f] ++ r = f :: r from rfl, e0] at i1
      rw [i1, impl_out x (f :: r) list hsi.2.1 hx.2.1.2 hl hz]
      split <;> rfl
    · simp [hfi]
theorem cnts_nil (x : Show) : List.replicate (x.2.1.length : Int).toNat (0 : Int) = cntsL x [] := by
  unfold cntsL cntN
  rw [Int.toNat_natCast]
  apply List.ext_getElem
  · simp
  · intro i h1 h2; simp
theorem impl_BookShow_f (list : List Bk) (x : Show) (fired : List Int) (hl : list.length ≤ 900000) (hz : ∀ b ∈ list, Sz b.2.1) (hx : ShowZ x) (hf : fired.length ≤ 1000000) : impl_BookShow.f list x fired = some (bookS list x fired) := by
  unfold impl_BookShow.f impl_BookShow.fn impl_BookShow.top bookS
  rw [impl_AreBookings_z list (by omega) hz, impl_IsShow_f x hx]
  rcases Bool.eq_false_or_eq_true (booksB list) with hb | hb
  rotate_left
  · simp [hb]
  rcases Bool.eq_false_or_eq_true (showB x) with hs | hs
  rotate_left
  · simp [hb, hs]
  have hsi := showB_iff hs
  have hxl := (artsB_ok hsi.2.1).1
  have hr : (x.2.1.length : Int) < room 8 := by rw [room8]; omega
  have h0 : (0 : Int) ≤ (x.2.1.length : Int) := by omega
  rw [hb, hs, Option.bind_some, if_pos (show (!true) = false from rfl), Option.bind_some, if_neg (show ¬ (!true) = true by simp), if_pos ⟨h0, hr, rfl⟩, cnts_nil, if_pos rfl, if_pos rfl]
  exact impl_chk0 x hs list hl hz hx fired hf
end Go.Pl

namespace Go.Pl
open Go.Ev
set_option linter.unusedVariables false
set_option linter.unusedSimpArgs false
theorem show_z {x : Show} (h : OkShow x) : ShowZ x := ⟨Nat.le_trans h.1.1 (by omega), ⟨Nat.le_trans h.2.1.1 (by omega), fun a ha => Nat.le_trans (h.2.1.2 a ha).1 (by omega)⟩, Nat.le_trans h.2.2.1 (by omega)⟩
theorem BookShow_both (list : List Bk) (x : Show) (fired : List Int) (hl : Lm OkBooking list) (hx : OkShow x) (hf : fired.length ≤ 1000000) : spec_BookShow.f list x fired = some (bookS list x fired) ∧ impl_BookShow.f list x fired = some (bookS list x fired) := by
  have hz : ∀ b ∈ list, Sz b.2.1 := fun b hb => Nat.le_trans (hl.2 b hb).2.1 (by omega)
  have hxz := show_z hx
  rcases Bool.eq_false_or_eq_true (booksB list) with hb | hb
  · have := (booksB_val hb).2
    exact ⟨spec_BookShow_f list x fired (by omega) hz hxz hf, impl_BookShow_f list x fired (by omega) hz hxz hf⟩
  · have hll := hl.1
    unfold spec_BookShow.f spec_BookShow.fn spec_BookShow.top impl_BookShow.f impl_BookShow.fn impl_BookShow.top bookS
    rw [spec_AreBookings_z list hll hz, impl_AreBookings_z list hll hz, hb]
    exact ⟨rfl, rfl⟩
theorem bookL_ok (x : Show) (hx : OkShow x) (fired : List Int) (hf : fired.length ≤ 1000000) : ∀ (aas : List Art) (list : List Bk), (∀ a ∈ aas, OkArticle a) → (∀ b ∈ list, OkBooking b) → (aas.foldl (bookF x fired) list).length ≤ list.length + aas.length ∧ ∀ b ∈ aas.foldl (bookF x fired) list, OkBooking b := by
  intro aas
  induction aas with
  | nil => intro list _ h; exact ⟨by simp, h⟩
  | cons a r ih =>
    intro list ha h
    rw [List.foldl_cons]
    have h1 := bookF_len x fired list a
    have hc := cntN_le x fired a.1
    have h2 : ∀ b ∈ bookF x fired list a, OkBooking b := fun b hb => by
      unfold bookF at hb
      split at hb
      · rcases List.mem_append.1 hb with h3 | h3
        · exact h b h3
        · rw [List.mem_singleton.1 h3]
          exact ⟨wf64.2 (by simp only; omega), (ha a (by simp)).1, wf64.2 (by simp only; omega)⟩
      · exact h b hb
    obtain ⟨k1, k2⟩ := ih (bookF x fired list a) (fun y hy => ha y (by simp [hy])) h2
    exact ⟨by simp only [List.length_cons]; omega, k2⟩
theorem BookShow_core (list : List Bk) (x : Show) (fired : List Int) (hl : Lm OkBooking list) (hx : OkShow x) (hf : Lm (Rg .i64) fired) : ∃ w, spec_BookShow.f list x fired = some w ∧ impl_BookShow.f list x fired = some w ∧ Lm OkBooking w.1 := by
  obtain ⟨e1, e2⟩ := BookShow_both list x fired hl hx hf.1
  refine ⟨_, e1, e2, ?_⟩
  have hz : Lm OkBooking ([] : List Bk) := ⟨by simp, by simp⟩
  unfold bookS
  split
  · split
    · split
      · unfold limR
        split
        · exact hz
        · split
          · rename_i h1 h2
            exact ⟨by simp only; omega, (bookL_ok x hx fired hf.1 x.2.1 list hx.2.1.2 hl.2).2⟩
          · exact hz
      · exact hz
    · exact hz
  · exact hz
end Go.Pl

namespace Go.Pl
open Go.Ev
set_option linter.unusedVariables false
set_option linter.unusedSimpArgs false
theorem FnExactBookShow_true (aList : List (Int × ByteArray × Int)) (aX : (List (Int × Int)) × (List (ByteArray × Int × Int × Int × Int × Int × Int × Int × Int)) × (List (Int × Int × ByteArray × Int))) (aFired : List Int) (hyp : Ls PlBooking aList ∧ PlShow aX ∧ Ls (Rg .i64) aFired) : laws_FnExactBookShow.f aList aX aFired = some true := by
  obtain ⟨h_aList, h_aX, h_aFired⟩ := hyp
  unfold laws_FnExactBookShow.f laws_FnExactBookShow.fn laws_FnExactBookShow.top
  have z_aFired : aFired.length ≤ 140737488355328 := h_aFired.1
  have lw_aFired := w64 (n := (1000000 - (aFired.length : Int))) (by omega) (by omega)
  simp only [lw_aFired]
  obtain ⟨s1, e1, l1, k1⟩ := laws_szBookingS_ok aList (1000000 - (aFired.length : Int)) (by omega) (by omega) h_aList
  simp only [e1, Option.bind_some, decide_eq_true_eq]
  by_cases hn1 : s1 < 0
  · simp [hn1]
  simp only [hn1, if_false]
  obtain ⟨q1, o_aList⟩ := k1 (by omega)
  obtain ⟨s2, e2, l2, k2⟩ := laws_szShow_ok aX s1 (by omega) (by omega) h_aX
  simp only [e2, Option.bind_some, decide_eq_true_eq]
  by_cases hn2 : s2 < 0
  · simp [hn2]
  simp only [hn2, if_false]
  obtain ⟨q2, o_aX⟩ := k2 (by omega)
  have o_aFired : Lm (Rg .i64) aFired := ⟨by omega, h_aFired.2⟩
  obtain ⟨f0_aList, t_aList, i_aList⟩ := laws_toBookingS_both aList o_aList
  obtain ⟨f0_aX, f1_aX, f2_aX, t_aX, i_aX⟩ := laws_toShow_both aX o_aX
  obtain ⟨f0_aFired, t_aFired, i_aFired⟩ := laws_toInt64S_both aFired o_aFired
  obtain ⟨⟨w0, w1⟩, c1, c2, c3⟩ := BookShow_core aList aX aFired o_aList o_aX o_aFired
  have c4 := c3
  have c3_0 : Lm OkBooking w0 := c3
  have eq_0 := laws_eqBookingS_self w0 (Nat.le_trans c3_0.1 (by omega))
  obtain ⟨m1, d1, x1, y1, z1, u1⟩ := laws_markBookingS_ok aList o_aList 101 (by omega) (by omega)
  obtain ⟨m2, d2_0, d2_1, d2_2, x2, y2, z2, u2⟩ := laws_markShow_ok aX o_aX m1 (by omega) (by omega)
  obtain ⟨m3, d3, x3, y3, z3, u3⟩ := laws_markInt64S_ok aFired o_aFired m2 (by omega) (by omega)
  have kn : ¬ m3 < 0 := by omega
  obtain ⟨m4, d4, x4, y4, z4, u4⟩ := laws_markBookingS_ok w0 c3_0 101 (by omega) (by omega)
  have n4 : ¬ m4 < 0 := by omega
  simp [t_aList, i_aList, t_aX, i_aX, t_aFired, i_aFired, c1, c2, eq_0, x1, x2, x3, kn, x4, y4, n4]
end Go.Pl
