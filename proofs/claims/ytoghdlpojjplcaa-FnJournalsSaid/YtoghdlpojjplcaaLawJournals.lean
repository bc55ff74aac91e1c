/- The law FnJournals, and what it stands on (the last part): the program answers as the law says, for all arguments of a claim's bounds. -/
import Derived.Test.YtoghdlpojjplcaaChecked
import Derived.Test.YtoghdlpojjplcaaProg
import Derived.Test.YtoghdlpojjplcaaRows
import Derived.Below
import Derived.Calls
import Derived.Carry
import Derived.ChangeArms
import Derived.ChangeKeysEq
import Derived.ChangeOld
import Derived.Deep.Quiet
import Derived.KernelRfl
import Derived.Laws.Append
import Derived.Laws.BytesString
import Derived.Laws.MakeOwn
import Derived.Laws.Strings
import Derived.Laws.StructEq
import Derived.OpenShut
import Derived.OrdersHeld
import Derived.ProofKit
import Derived.ShutString
import Derived.SizedLaws
import Derived.Tactics
import Derived.WalkKit
import Derived.WideShapes
import Derived.Test.YtoghdlpojjplcaaEvJournals4
namespace Go.Pl
open Go.Ev
set_option linter.unusedVariables false
noncomputable section
def spec_FirstDifference.g4 (L4 : Int → (List (Int × ByteArray)) → (List (Int × ByteArray)) → Option (Int × Int)) (i10 : Int) (x6 : List (Int × ByteArray)) (y8 : List (Int × ByteArray)) : Option (Int × Int) :=
  if (decide ((i10 : Int) < (x6.length : Int))) = false then
    if (decide ((i10 : Int) < (y8.length : Int))) = true then
      if (decide (((x6.length : Int) : Int) ≤ i10)) = false then
        if (decide (((y8.length : Int) : Int) ≤ i10)) = false then
          if (0 : Int) ≤ i10 ∧ (i10 : Int) < x6.length then
            if (0 : Int) ≤ i10 ∧ (i10 : Int) < y8.length then
              if (!(((((x6.getD (i10 : Int).toNat (0, ByteArray.empty)).1) : Int) == ((y8.getD (i10 : Int).toNat (0, ByteArray.empty)).1)) && (((x6.getD (i10 : Int).toNat (0, ByteArray.empty)).2).toList == ((y8.getD (i10 : Int).toNat (0, ByteArray.empty)).2).toList))) = true then
                some (i10, 0)
              else
                L4 (IntKind.i64.wrap (i10 + 1)) x6 y8
            else
              none
          else
            none
        else
          some (i10, 0)
      else
        some (i10, 0)
    else
      some (0, 4)
  else if (decide (((x6.length : Int) : Int) ≤ i10)) = false then
    if (decide (((y8.length : Int) : Int) ≤ i10)) = false then
      if (0 : Int) ≤ i10 ∧ (i10 : Int) < x6.length then
        if (0 : Int) ≤ i10 ∧ (i10 : Int) < y8.length then
          if (!(((((x6.getD (i10 : Int).toNat (0, ByteArray.empty)).1) : Int) == ((y8.getD (i10 : Int).toNat (0, ByteArray.empty)).1)) && (((x6.getD (i10 : Int).toNat (0, ByteArray.empty)).2).toList == ((y8.getD (i10 : Int).toNat (0, ByteArray.empty)).2).toList))) = true then
            some (i10, 0)
          else
            L4 (IntKind.i64.wrap (i10 + 1)) x6 y8
        else
          none
      else
        none
    else
      some (i10, 0)
  else
    some (i10, 0)
def spec_FirstDifference.l4 (n : Nat) : Nat → Int → (List (Int × ByteArray)) → (List (Int × ByteArray)) → Option (Int × Int)
  | 0 => fun _ _ _ => none
  | k + 1 => spec_FirstDifference.g4 (spec_FirstDifference.l4 n k)
def spec_FirstDifference.top (I4 : Int → (List (Int × ByteArray)) → (List (Int × ByteArray)) → Option (Int × Int)) (a0 : ByteArray) (b1 : ByteArray) : Option (Int × Int) :=
  (spec_l33Read.f a0).bind fun r1 =>
  (spec_l33Read.f b1).bind fun r2 =>
  I4 0 r1.1 r2.1
def spec_FirstDifference.fn (n : Nat) (a0 : ByteArray) (b1 : ByteArray) : Option (Int × Int) := spec_FirstDifference.top (spec_FirstDifference.l4 n n) a0 b1
def spec_FirstDifference.f (a0 : ByteArray) (b1 : ByteArray) : Option (Int × Int) := spec_FirstDifference.fn NN a0 b1
end
end Go.Pl

namespace Go.Pl
open Go.Ev
set_option linter.unusedVariables false
noncomputable section
def impl_AppendEntry.top (s0 : ByteArray) (e1 : Int × ByteArray) : Option (ByteArray × Int) :=
  (impl_isEntry.f e1).bind fun r1 =>
  if (!r1) = true then
    some ((⟨#[]⟩ : ByteArray), 1)
  else
    (impl_readJournal.f s0).bind fun r2 =>
    if (((r2.1.length : Int) : Int) == 20) = true then
      some ((⟨#[]⟩ : ByteArray), 3)
    else if r2.1.length + ([e1]).length < room 24 then
      (impl_journalOf.f (r2.1 ++ ([e1]))).bind fun r3 =>
      some (r3, 0)
    else
      none
def impl_AppendEntry.fn (n : Nat) (s0 : ByteArray) (e1 : Int × ByteArray) : Option (ByteArray × Int) := impl_AppendEntry.top s0 e1
def impl_AppendEntry.f (s0 : ByteArray) (e1 : Int × ByteArray) : Option (ByteArray × Int) := impl_AppendEntry.fn NN s0 e1
end
end Go.Pl

namespace Go.Pl
open Go.Ev
set_option linter.unusedVariables false
noncomputable section
def spec_AppendEntry.top (s0 : ByteArray) (e1 : Int × ByteArray) : Option (ByteArray × Int) :=
  (spec_l33Read.f s0).bind fun r1 =>
  if r1.1.length + ([e1]).length < room 24 then
    (spec_l33Code.f (r1.1 ++ ([e1]))).bind fun r2 =>
    if ((r2 : Int) != 0) = true then
      some ((⟨#[]⟩ : ByteArray), r2)
    else
      (spec_l33Write.f (r1.1 ++ ([e1]))).bind fun r3 =>
      some (r3, 0)
  else
    none
def spec_AppendEntry.fn (n : Nat) (s0 : ByteArray) (e1 : Int × ByteArray) : Option (ByteArray × Int) := spec_AppendEntry.top s0 e1
def spec_AppendEntry.f (s0 : ByteArray) (e1 : Int × ByteArray) : Option (ByteArray × Int) := spec_AppendEntry.fn NN s0 e1
end
end Go.Pl

namespace Go.Pl
open Go.Ev
set_option linter.unusedVariables false
noncomputable section
def laws_likeTexts.g4 (L4 : List ByteArray → List ByteArray → Int → Option Bool) (a0 : List ByteArray) (b1 : List ByteArray) (i5 : Int) : Option Bool :=
  if (decide ((i5 : Int) < (a0.length : Int))) = true then
    if (0 : Int) ≤ i5 ∧ (i5 : Int) < a0.length then
      if (0 : Int) ≤ i5 ∧ (i5 : Int) < b1.length then
        if (!((a0.getD (i5 : Int).toNat ByteArray.empty).toList == (b1.getD (i5 : Int).toNat ByteArray.empty).toList)) = true then
          some false
        else
          L4 a0 b1 (IntKind.i64.wrap (i5 + 1))
      else
        none
    else
      none
  else
    some true
def laws_likeTexts.l4 (n : Nat) : Nat → List ByteArray → List ByteArray → Int → Option Bool
  | 0 => fun _ _ _ => none
  | k + 1 => laws_likeTexts.g4 (laws_likeTexts.l4 n k)
def laws_likeTexts.top (I4 : List ByteArray → List ByteArray → Int → Option Bool) (a0 : List ByteArray) (b1 : List ByteArray) : Option Bool :=
  if (((a0.length : Int) : Int) != (b1.length : Int)) = true then
    some false
  else
    I4 a0 b1 0
def laws_likeTexts.fn (n : Nat) (a0 : List ByteArray) (b1 : List ByteArray) : Option Bool := laws_likeTexts.top (laws_likeTexts.l4 n n) a0 b1
def laws_likeTexts.f (a0 : List ByteArray) (b1 : List ByteArray) : Option Bool := laws_likeTexts.fn NN a0 b1
end
end Go.Pl

namespace Go.Pl
open Go.Ev
set_option linter.unusedVariables false
set_option linter.unusedSimpArgs false
theorem ReadJournal_both (s : ByteArray) (hs : s.size ≤ 1000000) : impl_ReadJournal.f s = some (readJ s) ∧ spec_ReadJournal.f s = some (readJ s) := by
  unfold impl_ReadJournal.f impl_ReadJournal.fn impl_ReadJournal.top spec_ReadJournal.f spec_ReadJournal.fn spec_ReadJournal.top
  rw [(read_both s hs).1, (read_both s hs).2]
  exact ⟨rfl, rfl⟩
theorem IsWhole_f (s : ByteArray) (hs : s.size ≤ 1000000) : impl_IsWhole.f s = some ((readJ s).2 == 0) := by
  unfold impl_IsWhole.f impl_IsWhole.fn impl_IsWhole.top
  rw [(read_both s hs).1]; rfl
theorem read_fact (s : ByteArray) : (readJ s).1.length ≤ 20 ∧ 0 ≤ (readJ s).2 ∧ ∀ x ∈ (readJ s).1, entB x = true := rdJ_fact 20 s 1
theorem all_ent {l : List (Int × ByteArray)} (h : ∀ x ∈ l, entB x = true) : ∀ x ∈ l, EnIn x := fun x hx => entB_in (h x hx)
open Classical in
noncomputable def cutR (s : ByteArray) (n : Int) : ByteArray × Int := if inB n 0 ((readJ s).1.length : Int) = true then (jB 1 ((readJ s).1.take n.toNat), 0) else (⟨#[]⟩, 2)
theorem CutJournal_both (s : ByteArray) (n : Int) (hs : s.size ≤ 1000000) : impl_CutJournal.f s n = some (cutR s n) ∧ spec_CutJournal.f s n = some (cutR s n) := by
  have hf := read_fact s
  unfold impl_CutJournal.f impl_CutJournal.fn impl_CutJournal.top spec_CutJournal.f spec_CutJournal.fn spec_CutJournal.top cutR
  rw [(read_both s hs).1, (read_both s hs).2]
  simp only [Option.bind_some, impl_within_f, spec_l01In_f]
  cases hb : inB n 0 ((readJ s).1.length : Int)
  · exact ⟨rfl, rfl⟩
  have hn := inB_iff.1 hb
  have hin := all_ent (l := (readJ s).1.take n.toNat) (fun x hx => hf.2.2 x (List.mem_of_mem_take hx))
  have hl : ((readJ s).1.take n.toNat).length ≤ 1000000 := by rw [List.length_take]; omega
  simp only [Bool.not_true, Bool.false_eq_true, if_false, hn.1, hn.2, and_self, if_true]
  rw [(impl_journalOf_f _ hl hin).1, (spec_l33Write_f _ hl hin).1, jText_eq]
  exact ⟨rfl, rfl⟩
def ofF (kind : Int) (out : List ByteArray) (e : Int × ByteArray) : List ByteArray := if e.1 = kind then out ++ [e.2] else out
def ofL (kind : Int) (l : List (Int × ByteArray)) : List ByteArray := l.foldl (ofF kind) []
theorem room16' (out : List ByteArray) (x : ByteArray) (h : out.length ≤ 1000000) : out.length + [x].length < room 16 := by rw [room16]; simp; omega
theorem impl_EntriesOf_l (kind : Int) (xs : List (Int × ByteArray)) (h : xs.length ≤ 1000) : impl_EntriesOf.l4 NN NN kind xs.length 0 [] xs = some (ofL kind xs) := by
  have := (fold_fix (E := fun _ => True) (fun p st => st.length ≤ p.length) (fun _ => ofF kind) some (fun k i st => impl_EntriesOf.l4 NN k kind xs.length i st xs) xs ?_ ?_ [] (fun _ _ => trivial) (by simp) (by omega) NN (NN_lt (by omega))).2
  · rw [foldi_foldl] at this
    exact this
  · intro k st _
    simp [impl_EntriesOf.l4, impl_EntriesOf.g4]
  · intro k p e r st hx _ hI c0 c1 c2 cw g
    have hp : p.length ≤ 1000 := by omega
    refine ⟨by unfold ofF; rw [List.length_append, List.length_singleton]; split <;> (try simp) <;> omega, ?_⟩
    simp only [impl_EntriesOf.l4, impl_EntriesOf.g4, c0, c1, cw, g, and_self, and_true, true_and, decide_true, decide_false, if_true, if_false, mid_get, mid_set, mid_getn, mid_setn, bt_mid, Option.bind_some, Bool.not_true, Bool.not_false, Bool.false_eq_true, Bool.true_eq_false, beq_self_eq_true, bne_self_eq_false, Int.toNat_natCast, room16' _ _ (show st.length ≤ 1000000 by omega)]
    unfold ofF
    by_cases he : e.1 = kind
    · simp [he]
    · simp [he]
theorem spec_EntriesOf_l (kind : Int) (xs : List (Int × ByteArray)) (h : xs.length ≤ 1000) : spec_EntriesOf.l4 NN NN kind 0 xs [] = some (ofL kind xs) := by
  have := (fold_fix (E := fun _ => True) (fun p st => st.length ≤ p.length) (fun _ => ofF kind) some (fun k i st => spec_EntriesOf.l4 NN k kind i xs st) xs ?_ ?_ [] (fun _ _ => trivial) (by simp) (by omega) NN (NN_lt (by omega))).2
  · rw [foldi_foldl] at this
    exact this
  · intro k st _
    simp [spec_EntriesOf.l4, spec_EntriesOf.g4]
  · intro k p e r st hx _ hI c0 c1 c2 cw g
    have hp : p.length ≤ 1000 := by omega
    refine ⟨by unfold ofF; rw [List.length_append, List.length_singleton]; split <;> (try simp) <;> omega, ?_⟩
    simp only [spec_EntriesOf.l4, spec_EntriesOf.g4, c0, c1, cw, g, and_self, and_true, true_and, decide_true, decide_false, if_true, if_false, mid_get, mid_set, mid_getn, mid_setn, bt_mid, Option.bind_some, Bool.not_true, Bool.not_false, Bool.false_eq_true, Bool.true_eq_false, beq_self_eq_true, bne_self_eq_false, Int.toNat_natCast, room16' _ _ (show st.length ≤ 1000000 by omega)]
    unfold ofF
    by_cases he : e.1 = kind
    · simp [he]
    · simp [he]
theorem ofL_len (kind : Int) (l : List (Int × ByteArray)) : (ofL kind l).length ≤ l.length := by
  have key : ∀ (l : List (Int × ByteArray)) (out : List ByteArray), (l.foldl (ofF kind) out).length ≤ out.length + l.length := by
    intro l
    induction l with
    | nil => intro out; simp
    | cons e l ih =>
      intro out
      have := ih (ofF kind out e)
      have h2 : (ofF kind out e).length ≤ out.length + 1 := by unfold ofF; split <;> simp
      simp only [List.foldl_cons, List.length_cons]
      omega
  have := key l []
  simpa [ofL] using this
theorem EntriesOf_both (s : ByteArray) (kind : Int) (hs : s.size ≤ 1000000) : impl_EntriesOf.f s kind = some (ofL kind (readJ s).1) ∧ spec_EntriesOf.f s kind = some (ofL kind (readJ s).1) := by
  have hf := read_fact s
  unfold impl_EntriesOf.f impl_EntriesOf.fn impl_EntriesOf.top spec_EntriesOf.f spec_EntriesOf.fn spec_EntriesOf.top
  rw [(read_both s hs).1, (read_both s hs).2]
  exact ⟨impl_EntriesOf_l kind _ (by omega), spec_EntriesOf_l kind _ (by omega)⟩
open Classical in
/-- the first difference -/
noncomputable def fdL : Nat → List (Int × ByteArray) → List (Int × ByteArray) → Int × Int
  | _, [], [] => (0, 4)
  | i, a :: x, b :: y => if a = b then fdL (i + 1) x y else ((i : Int), 0)
  | i, _, _ => ((i : Int), 0)
theorem fdL_symm : ∀ (x y : List (Int × ByteArray)) (i : Nat), fdL i x y = fdL i y x := by
  intro x
  induction x with
  | nil => intro y i; cases y <;> simp [fdL]
  | cons a x ih =>
    intro y i
    cases y with
    | nil => simp [fdL]
    | cons b y =>
      simp only [fdL]
      by_cases h : a = b
      · rw [if_pos h, if_pos h.symm]; exact ih y _
      · rw [if_neg h, if_neg (fun e => h e.symm)]
theorem fdL_self : ∀ (x : List (Int × ByteArray)) (i : Nat), fdL i x x = (0, 4) := by
  intro x
  induction x with
  | nil => intro i; rfl
  | cons a x ih => intro i; simp only [fdL, if_true]; exact ih _
theorem ent_eq (a b : Int × ByteArray) : (!((a.1 == b.1) && (a.2.toList == b.2.toList))) = !(decide (a = b)) := by
  obtain ⟨a1, a2⟩ := a
  obtain ⟨b1, b2⟩ := b
  rw [ba_beq]
  by_cases h1 : a1 = b1 <;> by_cases h2 : a2 = b2 <;> simp [h1, h2]
theorem impl_FirstDifference_l : ∀ (x y p q : List (Int × ByteArray)) (k : Nat), p.length = q.length → p.length + x.length + y.length ≤ 1000 → x.length + y.length < k →
    impl_FirstDifference.l4 NN k (p.length : Int) (p ++ x) (q ++ y) = some (fdL p.length x y) := by
  intro x
  induction x with
  | nil =>
    intro y p q k hpq hl hk
    obtain ⟨k, rfl⟩ : ∃ j, k = j + 1 := ⟨k - 1, by omega⟩
    have n1 : ¬ (p.length : Int) < ((p ++ []).length : Int) := by simp
    cases y with
    | nil =>
      have n2 : ¬ (p.length : Int) < ((q ++ []).length : Int) := by simp; omega
      simp only [impl_FirstDifference.l4, impl_FirstDifference.g4, n1, n2, decide_false, if_true, Bool.false_eq_true, if_false, fdL]
    | cons b y =>
      have n2 : (p.length : Int) < ((q ++ b :: y).length : Int) := by simp; omega
      have n3 : ((p ++ []).length : Int) ≤ (p.length : Int) := by simp
      simp only [impl_FirstDifference.l4, impl_FirstDifference.g4, n1, n2, n3, decide_false, decide_true, if_true, Bool.true_eq_false, if_false, fdL]
  | cons a x ih =>
    intro y p q k hpq hl hk
    simp only [List.length_cons] at hl hk
    obtain ⟨k, rfl⟩ : ∃ j, k = j + 1 := ⟨k - 1, by omega⟩
    have n1 : (p.length : Int) < ((p ++ a :: x).length : Int) := by simp; omega
    have n2 : ¬ ((p ++ a :: x).length : Int) ≤ (p.length : Int) := by omega
    have n0 : (0 : Int) ≤ (p.length : Int) := by omega
    cases y with
    | nil =>
      have n3 : ((q ++ []).length : Int) ≤ (p.length : Int) := by simp; omega
      simp only [impl_FirstDifference.l4, impl_FirstDifference.g4, n1, n2, n3, decide_false, decide_true, if_true, Bool.true_eq_false, if_false, fdL]
    | cons b y =>
      simp only [List.length_cons] at hl hk
      have n3 : (p.length : Int) < ((q ++ b :: y).length : Int) := by simp; omega
      have n4 : ¬ ((q ++ b :: y).length : Int) ≤ (p.length : Int) := by omega
      have g1 : (p ++ a :: x).getD (p.length : Int).toNat (0, ByteArray.empty) = a := mid_get p x a _
      have g2 : (q ++ b :: y).getD (p.length : Int).toNat (0, ByteArray.empty) = b := by rw [hpq]; exact mid_get q y b _
      have w := w64 (n := (p.length : Int) + 1) (by omega) (by omega)
      simp only [impl_FirstDifference.l4, impl_FirstDifference.g4, n0, n1, n2, n3, n4, g1, g2, w, and_self, decide_false, decide_true, if_true, Bool.true_eq_false, if_false, fdL, ent_eq]
      by_cases h : a = b
      · simp only [h, decide_true, Bool.not_true, Bool.false_eq_true, if_false, if_true]
        have := ih y (p ++ [a]) (q ++ [b]) k (by simp [hpq]) (by simp; omega) (by omega)
        rw [List.append_assoc, List.append_assoc, List.length_append, List.length_singleton] at this
        rw [h] at this
        exact this
      · simp only [h, decide_false, Bool.not_false, if_true, if_false]
theorem spec_FirstDifference_l : ∀ (x y p q : List (Int × ByteArray)) (k : Nat), p.length = q.length → p.length + x.length + y.length ≤ 1000 → x.length + y.length < k →
    spec_FirstDifference.l4 NN k (p.length : Int) (p ++ x) (q ++ y) = some (fdL p.length x y) := by
  intro x
  induction x with
  | nil =>
    intro y p q k hpq hl hk
    obtain ⟨k, rfl⟩ : ∃ j, k = j + 1 := ⟨k - 1, by omega⟩
    have n1 : ¬ (p.length : Int) < ((p ++ []).length : Int) := by simp
    cases y with
    | nil =>
      have n2 : ¬ (p.length : Int) < ((q ++ []).length : Int) := by simp; omega
      simp only [spec_FirstDifference.l4, spec_FirstDifference.g4, n1, n2, decide_false, if_true, Bool.false_eq_true, if_false, fdL]
    | cons b y =>
      have n2 : (p.length : Int) < ((q ++ b :: y).length : Int) := by simp; omega
      have n3 : ((p ++ []).length : Int) ≤ (p.length : Int) := by simp
      simp only [spec_FirstDifference.l4, spec_FirstDifference.g4, n1, n2, n3, decide_false, decide_true, if_true, Bool.true_eq_false, if_false, fdL]
  | cons a x ih =>
    intro y p q k hpq hl hk
    simp only [List.length_cons] at hl hk
    obtain ⟨k, rfl⟩ : ∃ j, k = j + 1 := ⟨k - 1, by omega⟩
    have n1 : (p.length : Int) < ((p ++ a :: x).length : Int) := by simp; omega
    have n2 : ¬ ((p ++ a :: x).length : Int) ≤ (p.length : Int) := by omega
    have n0 : (0 : Int) ≤ (p.length : Int) := by omega
    cases y with
    | nil =>
      have n3 : ((q ++ []).length : Int) ≤ (p.length : Int) := by simp; omega
      simp only [spec_FirstDifference.l4, spec_FirstDifference.g4, n1, n2, n3, decide_false, decide_true, if_true, Bool.true_eq_false, if_false, fdL]
    | cons b y =>
      simp only [List.length_cons] at hl hk
      have n3 : (p.length : Int) < ((q ++ b :: y).length : Int) := by simp; omega
      have n4 : ¬ ((q ++ b :: y).length : Int) ≤ (p.length : Int) := by omega
      have g1 : (p ++ a :: x).getD (p.length : Int).toNat (0, ByteArray.empty) = a := mid_get p x a _
      have g2 : (q ++ b :: y).getD (p.length : Int).toNat (0, ByteArray.empty) = b := by rw [hpq]; exact mid_get q y b _
      have w := w64 (n := (p.length : Int) + 1) (by omega) (by omega)
      simp only [spec_FirstDifference.l4, spec_FirstDifference.g4, n0, n1, n2, n3, n4, g1, g2, w, and_self, decide_false, decide_true, if_true, Bool.true_eq_false, if_false, fdL, ent_eq]
      by_cases h : a = b
      · simp only [h, decide_true, Bool.not_true, Bool.false_eq_true, if_false, if_true]
        have := ih y (p ++ [a]) (q ++ [b]) k (by simp [hpq]) (by simp; omega) (by omega)
        rw [List.append_assoc, List.append_assoc, List.length_append, List.length_singleton] at this
        rw [h] at this
        exact this
      · simp only [h, decide_false, Bool.not_false, if_true, if_false]
theorem FirstDifference_both (a b : ByteArray) (ha : a.size ≤ 1000000) (hb : b.size ≤ 1000000) : impl_FirstDifference.f a b = some (fdL 0 (readJ a).1 (readJ b).1) ∧ spec_FirstDifference.f a b = some (fdL 0 (readJ a).1 (readJ b).1) := by
  have h1 := read_fact a
  have h2 := read_fact b
  unfold impl_FirstDifference.f impl_FirstDifference.fn impl_FirstDifference.top spec_FirstDifference.f spec_FirstDifference.fn spec_FirstDifference.top
  rw [(read_both a ha).1, (read_both a ha).2, (read_both b hb).1, (read_both b hb).2]
  have z1 := h1.1
  have z2 := h2.1
  exact ⟨impl_FirstDifference_l (readJ a).1 (readJ b).1 [] [] NN rfl (by simp only [List.length_nil]; omega) (NN_lt (by omega)), spec_FirstDifference_l (readJ a).1 (readJ b).1 [] [] NN rfl (by simp only [List.length_nil]; omega) (NN_lt (by omega))⟩
def writeR (xs : List (Int × ByteArray)) : ByteArray × Int := if xs.all entB = true then (if xs.length ≤ 20 then (jB 1 xs, 0) else (⟨#[]⟩, 3)) else (⟨#[]⟩, 1)
theorem WriteJournal_both (xs : List (Int × ByteArray)) (h : Ls (fun e => Sz e.2) xs) (hl : xs.length ≤ 1000000) : impl_WriteJournal.f xs = some (writeR xs) ∧ spec_WriteJournal.f xs = some (writeR xs) := by
  unfold impl_WriteJournal.f impl_WriteJournal.fn impl_WriteJournal.top spec_WriteJournal.f spec_WriteJournal.fn spec_WriteJournal.top writeR
  rw [spec_l33Code_f xs h, impl_areEntries_f xs h]
  cases ha : xs.all entB
  · exact ⟨rfl, rfl⟩
  have hin := all_in ha
  by_cases h20 : xs.length ≤ 20
  · have n1 : ¬ (20 : Int) < (xs.length : Int) := by omega
    simp only [h20, n1, if_true, Option.bind_some, Bool.not_true, Bool.false_eq_true, if_false, decide_false, bne_self_eq_false]
    rw [(impl_journalOf_f xs (by omega) hin).1, (spec_l33Write_f xs (by omega) hin).1, jText_eq]
    exact ⟨rfl, rfl⟩
  · have n1 : (20 : Int) < (xs.length : Int) := by omega
    simp only [h20, n1, if_true, Option.bind_some, Bool.not_true, Bool.false_eq_true, if_false, decide_true]
    exact ⟨by first | trivial | rfl, by first | trivial | rfl⟩
open Classical in
noncomputable def appR (s : ByteArray) (e : Int × ByteArray) : ByteArray × Int := if entB e = true then (if (readJ s).1.length = 20 then (⟨#[]⟩, 3) else (jB 1 ((readJ s).1 ++ [e]), 0)) else (⟨#[]⟩, 1)
theorem AppendEntry_both (s : ByteArray) (e : Int × ByteArray) (hs : s.size ≤ 1000000) (he : e.2.size ≤ 1000000) : impl_AppendEntry.f s e = some (appR s e) ∧ spec_AppendEntry.f s e = some (appR s e) := by
  obtain ⟨h5, h3, h6⟩ := read_fact s
  obtain ⟨h1, h2⟩ := read_both s hs
  have hroom : (readJ s).1.length + [e].length < room 24 := by rw [room24]; simp; omega
  have hls : Ls (fun e => Sz e.2) ((readJ s).1 ++ [e]) := ⟨by simp; omega, fun x hx => by
    rcases List.mem_append.1 hx with h | h
    · exact Nat.le_trans (entB_in (h6 x h)).2.2 (by omega)
    · rw [List.mem_singleton.1 h]; exact Nat.le_trans he (by omega)⟩
  have hal : ((readJ s).1 ++ [e]).all entB = entB e := by
    rw [List.all_append, List.all_eq_true.2 h6]; simp
  unfold appR
  refine ⟨?_, ?_⟩
  · unfold impl_AppendEntry.f impl_AppendEntry.fn impl_AppendEntry.top
    rw [impl_isEntry_f e (Nat.le_trans he (by omega))]
    cases hb : entB e
    · rfl
    simp only [and_self, and_true, true_and, decide_true, decide_false, if_true, if_false, mid_get, mid_set, mid_getn, mid_setn, bt_mid, Option.bind_some, Bool.not_true, Bool.not_false, Bool.false_eq_true, Bool.true_eq_false, beq_self_eq_true, bne_self_eq_false, Int.toNat_natCast]
    rw [h1]
    by_cases h20 : (readJ s).1.length = 20
    · have : (((readJ s).1.length : Int) == 20) = true := by rw [beq_iff_eq]; omega
      simp only [h20, and_self, and_true, true_and, decide_true, decide_false, if_true, if_false, mid_get, mid_set, mid_getn, mid_setn, bt_mid, Option.bind_some, Bool.not_true, Bool.not_false, Bool.false_eq_true, Bool.true_eq_false, beq_self_eq_true, bne_self_eq_false, Int.toNat_natCast]; rfl
    · have : (((readJ s).1.length : Int) == 20) = false := by rw [beq_eq_false_iff_ne]; omega
      simp only [h20, this, hroom, and_self, and_true, true_and, decide_true, decide_false, if_true, if_false, mid_get, mid_set, mid_getn, mid_setn, bt_mid, Option.bind_some, Bool.not_true, Bool.not_false, Bool.false_eq_true, Bool.true_eq_false, beq_self_eq_true, bne_self_eq_false, Int.toNat_natCast]
      rw [(impl_journalOf_f ((readJ s).1 ++ [e]) (by simp; omega) (all_in (by rw [hal]; exact hb))).1, jText_eq]; rfl
  · unfold spec_AppendEntry.f spec_AppendEntry.fn spec_AppendEntry.top
    rw [h2]
    simp only [and_self, and_true, true_and, decide_true, decide_false, if_true, if_false, mid_get, mid_set, mid_getn, mid_setn, bt_mid, Option.bind_some, Bool.not_true, Bool.not_false, Bool.false_eq_true, Bool.true_eq_false, beq_self_eq_true, bne_self_eq_false, Int.toNat_natCast, hroom]
    rw [spec_l33Code_f _ hls, hal]
    cases hb : entB e
    · rfl
    by_cases h20 : (readJ s).1.length = 20
    · have : ¬ ((readJ s).1 ++ [e]).length ≤ 20 := by simp; omega
      simp only [h20, this, and_self, and_true, true_and, decide_true, decide_false, if_true, if_false, mid_get, mid_set, mid_getn, mid_setn, bt_mid, Option.bind_some, Bool.not_true, Bool.not_false, Bool.false_eq_true, Bool.true_eq_false, beq_self_eq_true, bne_self_eq_false, Int.toNat_natCast]; rfl
    · have : ((readJ s).1 ++ [e]).length ≤ 20 := by simp; omega
      simp only [h20, this, and_self, and_true, true_and, decide_true, decide_false, if_true, if_false, mid_get, mid_set, mid_getn, mid_setn, bt_mid, Option.bind_some, Bool.not_true, Bool.not_false, Bool.false_eq_true, Bool.true_eq_false, beq_self_eq_true, bne_self_eq_false, Int.toNat_natCast]
      rw [(spec_l33Write_f ((readJ s).1 ++ [e]) (by omega) (all_in (by rw [hal]; exact hb))).1, jText_eq]; rfl
theorem likeEntries_self (a : List (Int × ByteArray)) (hl : a.length ≤ 140737488355328) : laws_likeEntries.f a a = some true := by
  unfold laws_likeEntries.f laws_likeEntries.fn laws_likeEntries.top
  simp only [bne_self_eq_false, Bool.false_eq_true, if_false]
  refine eqS_loop (E := fun _ => True) (fun k a b i => laws_likeEntries.l4 NN k a b i) a (fun _ _ => trivial) ?_ ?_ NN (NN_lt (by omega))
  · intro k p x r hx ha
    subst ha
    have hm := mid_len p r x
    have c1 : (p.length : Int) < ((p ++ x :: r).length : Int) := by omega
    have c0 : (0 : Int) ≤ (p.length : Int) := by omega
    have cw := w64 (n := (p.length : Int) + 1) (by omega) (by omega)
    simp only [laws_likeEntries.l4, laws_likeEntries.g4, c0, c1, cw, and_self, and_true, true_and, decide_true, decide_false, if_true, if_false, mid_get, mid_set, mid_getn, mid_setn, bt_mid, Option.bind_some, Bool.not_true, Bool.not_false, Bool.false_eq_true, Bool.true_eq_false, beq_self_eq_true, bne_self_eq_false, Int.toNat_natCast]
    simp
  · intro k
    simp [laws_likeEntries.l4, laws_likeEntries.g4]
theorem likeTexts_self (a : List ByteArray) (hl : a.length ≤ 140737488355328) : laws_likeTexts.f a a = some true := by
  unfold laws_likeTexts.f laws_likeTexts.fn laws_likeTexts.top
  simp only [bne_self_eq_false, Bool.false_eq_true, if_false]
  refine eqS_loop (E := fun _ => True) (fun k a b i => laws_likeTexts.l4 NN k a b i) a (fun _ _ => trivial) ?_ ?_ NN (NN_lt (by omega))
  · intro k p x r hx ha
    subst ha
    have hm := mid_len p r x
    have c1 : (p.length : Int) < ((p ++ x :: r).length : Int) := by omega
    have c0 : (0 : Int) ≤ (p.length : Int) := by omega
    have cw := w64 (n := (p.length : Int) + 1) (by omega) (by omega)
    simp only [laws_likeTexts.l4, laws_likeTexts.g4, c0, c1, cw, and_self, and_true, true_and, decide_true, decide_false, if_true, if_false, mid_get, mid_set, mid_getn, mid_setn, bt_mid, Option.bind_some, Bool.not_true, Bool.not_false, Bool.false_eq_true, Bool.true_eq_false, beq_self_eq_true, bne_self_eq_false, Int.toNat_natCast]
  · intro k
    simp [laws_likeTexts.l4, laws_likeTexts.g4]
theorem roll_ok (code : List Int) (hl : code.length ≤ 4096) (seed : Int) : ∃ x, laws_roll.f code seed = some (code, 0, x) := by
  have key : ∀ (d i k : Nat) (x : Int), i + d = code.length → d < k → ∃ y, laws_roll.l3 NN k code i code 0 x = some (code, 0, y) := by
    intro d
    induction d with
    | zero =>
      intro i k x hi hk
      obtain ⟨k, rfl⟩ : ∃ j, k = j + 1 := ⟨k - 1, by omega⟩
      have n1 : ¬ (i : Int) < (code.length : Int) := by omega
      exact ⟨x, by simp only [laws_roll.l3, laws_roll.g3, n1, decide_false, Bool.false_eq_true, if_false]⟩
    | succ d ih =>
      intro i k x hi hk
      obtain ⟨k, rfl⟩ : ∃ j, k = j + 1 := ⟨k - 1, by omega⟩
      have n1 : (i : Int) < (code.length : Int) := by omega
      have n0 : (0 : Int) ≤ (i : Int) := by omega
      have w := w64 (n := (i : Int) + 1) (by omega) (by omega)
      simp only [laws_roll.l3, laws_roll.g3, n0, n1, w, and_self, decide_true, if_true]
      exact ih (i + 1) k _ (by omega) (by omega)
  exact key code.length 0 NN _ (by omega) (NN_lt (by omega))
theorem and24 (A : BitVec IntKind.u64.bits) : (A &&& BitVec.ofInt IntKind.u64.bits 16777215).toNat ≤ 16777215 := by
  rw [BitVec.toNat_and]
  exact Nat.le_trans Nat.and_le_right (by decide)
theorem wu64 {n : Int} (h1 : 0 ≤ n) (h2 : n < 18446744073709551616) : IntKind.u64.wrap n = n := by
  simp only [IntKind.wrap, IntKind.bits, IntKind.signed]
  simp
  omega
theorem tm1 {z : Nat} {y n : Int} (hn : 0 < n) (hz : z ≤ 16777215) (hy : 0 ≤ y ∧ y ≤ 255) : 0 ≤ Int.tmod (IntKind.i64.wrap ((IntKind.i64.wrap (IntKind.u64.wrap (z : Int))) + (IntKind.i64.wrap y))) n ∧ Int.tmod (IntKind.i64.wrap ((IntKind.i64.wrap (IntKind.u64.wrap (z : Int))) + (IntKind.i64.wrap y))) n < n := by
  rw [wu64 (n := (z : Int)) (by omega) (by omega), w64 (n := (z : Int)) (by omega) (by omega), w64 (n := y) (by omega) (by omega), w64 (n := (z : Int) + y) (by omega) (by omega), Int.tmod_eq_emod_of_nonneg (by omega)]
  exact ⟨Int.emod_nonneg _ (by omega), Int.emod_lt_of_pos _ hn⟩
theorem tm2 {z : Nat} {n : Int} (hn : 0 < n) (hz : z ≤ 16777215) : 0 ≤ Int.tmod (IntKind.i64.wrap (IntKind.u64.wrap (z : Int))) n ∧ Int.tmod (IntKind.i64.wrap (IntKind.u64.wrap (z : Int))) n < n := by
  rw [wu64 (n := (z : Int)) (by omega) (by omega), w64 (n := (z : Int)) (by omega) (by omega), Int.tmod_eq_emod_of_nonneg (by omega)]
  exact ⟨Int.emod_nonneg _ (by omega), Int.emod_lt_of_pos _ hn⟩
theorem below_ok (code : List Int) (hc : ∀ c ∈ code, 0 ≤ c ∧ c ≤ 255) (hl : code.length ≤ 4096) (x n : Int) (hn : 0 < n) : ∃ v s, laws_dice_below.f (code, 0, x) n = some (v, s) ∧ 0 ≤ v ∧ v < n := by
  unfold laws_dice_below.f laws_dice_below.fn laws_dice_below.top
  rw [if_neg (show ¬ (33 : Int) < 0 by omega)]
  have hn0 : ¬ n = 0 := by omega
  by_cases h0 : (0 : Int) < (code.length : Int)
  · have hd := hc _ (show code.getD (0 : Int).toNat 0 ∈ code by
      show code.getD 0 0 ∈ code
      rw [List.getD_eq_getElem?_getD, List.getElem?_eq_getElem (by omega)]; exact List.getElem_mem _)
    rw [if_pos (by simp only; exact decide_eq_true h0), if_pos (by simp only; exact ⟨Int.le_refl 0, h0⟩), if_neg hn0]
    exact ⟨_, _, rfl, (tm1 hn (and24 _) hd).1, (tm1 hn (and24 _) hd).2⟩
  · rw [if_neg (by simp only; simpa using h0), if_neg hn0]
    exact ⟨_, _, rfl, (tm2 hn (and24 _)).1, (tm2 hn (and24 _)).2⟩
end Go.Pl

namespace Go.Pl
open Go.Ev
set_option linter.unusedVariables false
set_option linter.unusedSimpArgs false
theorem journals_l27 (left : Int) (some_ : List (Int × ByteArray)) : ∀ (r p rest : List UInt8) (k : Nat), p.length + r.length + rest.length ≤ 1000000 → r.length < k →
    laws_FnJournals.l27 NN k (ob (p ++ r ++ rest)) ((p.length : Int) + r.length) left (tens p : Nat) p.length some_ = if (((some_.length : Int) : Int) == ((tens (p ++ r) : Nat) : Int)) = true then some (decide (0 ≤ left)) else some false := by
  intro r
  induction r with
  | nil =>
    intro p rest k hl hk
    obtain ⟨k, rfl⟩ : ∃ j, k = j + 1 := ⟨k - 1, by omega⟩
    have n1 : ¬ (p.length : Int) < (p.length : Int) + (([] : List UInt8).length : Int) := by simp
    simp only [laws_FnJournals.l27, laws_FnJournals.g27, n1, decide_false, Bool.false_eq_true, if_false, List.append_nil]
  | cons c r ih =>
    intro p rest k hl hk
    simp only [List.length_cons] at hl hk
    obtain ⟨k, rfl⟩ : ∃ j, k = j + 1 := ⟨k - 1, by omega⟩
    have hs : p ++ c :: r ++ rest = p ++ c :: (r ++ rest) := by simp
    have hs2 : p ++ c :: r ++ rest = (p ++ [c]) ++ r ++ rest := by simp
    have hs3 : p ++ c :: r = (p ++ [c]) ++ r := by simp
    have n1 : (p.length : Int) < (p.length : Int) + ((c :: r).length : Int) := by simp only [List.length_cons]; omega
    have n2 : (p.length : Int) < ((ob (p ++ c :: r ++ rest)).size : Int) := by rw [ob_size]; simp only [List.length_append, List.length_cons]; omega
    have n0 : (0 : Int) ≤ (p.length : Int) := by omega
    have hb : bt (ob (p ++ c :: r ++ rest)) (p.length : Int) = (c.toNat : Int) := by rw [hs]; exact bt_mid p _ c
    have htp : tens p ≤ p.length := by
      have key : ∀ l : List UInt8, tens l ≤ l.length := by
        intro l
        induction l with
        | nil => exact Nat.le_refl 0
        | cons a l ih => simp only [tens, List.length_cons]; split <;> omega
      exact key p
    have w1 := w64 (n := ((tens p : Nat) : Int) + 1) (by omega) (by omega)
    have w2 := w64 (n := (p.length : Int) + 1) (by omega) (by omega)
    have i1 := ih (p ++ [c]) rest k (by simp; omega) (by omega)
    rw [← hs2, ← hs3] at i1
    have e1 : (((p ++ [c]).length : Nat) : Int) = (p.length : Int) + 1 := by simp
    have e2 : (p.length : Int) + 1 + (r.length : Int) = (p.length : Int) + ((c :: r).length : Int) := by simp only [List.length_cons]; omega
    rw [e1, e2] at i1
    simp only [laws_FnJournals.l27, laws_FnJournals.g27, n0, n1, n2, hb, w1, w2, and_self, decide_true, if_true]
    by_cases h : c = 10
    · have e3 : ((c.toNat : Int) == 10) = true := by rw [h]; rfl
      have e4 : ((tens (p ++ [c]) : Nat) : Int) = ((tens p : Nat) : Int) + 1 := by rw [tens_app, h]; simp [tens]
      rw [e4] at i1
      simp only [e3, if_true]
      exact i1
    · have e3 : ((c.toNat : Int) == 10) = false := by rw [beq_eq_false_iff_ne]; exact u8_ne10 h
      have e4 : ((tens (p ++ [c]) : Nat) : Int) = ((tens p : Nat) : Int) := by rw [tens_app]; simp [tens, h]
      rw [e4] at i1
      simp only [e3, Bool.false_eq_true, if_false]
      exact i1
theorem journals_end (code : List Int) (hco : CodeOk code) (xs : List (Int × ByteArray)) (h : xs.all entB = true) (h20 : xs.length ≤ 20) : (impl_ReadJournal.f (jB 1 xs)).bind (fun r15 =>
      (laws_roll.f code 3301).bind fun r16 =>
      (laws_dice_below.f r16 (IntKind.i64.wrap (((jB 1 xs).size : Int) + 1))).bind fun r17 =>
      if (0 : Int) ≤ r17.1 ∧ (r17.1 : Int) ≤ (jB 1 xs).size then
        (impl_ReadJournal.f ((jB 1 xs).extract 0 (r17.1 : Int).toNat)).bind fun r18 =>
        (laws_likeEntries.f r15.1 xs).bind fun r19 =>
        if (!r19) = false then
          if ((r15.2 : Int) != 0) = false then
            if (decide (((xs.length : Int) : Int) < (r18.1.length : Int))) = false then
              if (0 : Int) ≤ (r18.1.length : Int) ∧ ((r18.1.length : Int) : Int) ≤ xs.length then
                (laws_likeEntries.f r18.1 (xs.take ((r18.1.length : Int) : Int).toNat)).bind fun r20 =>
                if (!r20) = true then
                  some false
                else
                  laws_FnJournals.l27 NN NN (jB 1 xs) r17.1 r18.2 0 0 r18.1
              else
                none
            else
              some false
          else
            some false
        else
          some false
      else
        none) = some true := by
  have hall := List.all_eq_true.1 h
  have hsz := jB_size xs 1 hall
  have hrd : readJ (jB 1 xs) = (xs, 0) := rdJ_all _ 20 1 h20 hall
  obtain ⟨q, e1⟩ := roll_ok code hco.1 3301
  have w := w64 (n := ((jB 1 xs).size : Int) + 1) (by omega) (by omega)
  obtain ⟨v, st, e2, v0, v1⟩ := below_ok code hco.2 hco.1 q (((jB 1 xs).size : Int) + 1) (by omega)
  obtain ⟨n, hn⟩ := Int.eq_ofNat_of_zero_le v0
  subst hn
  obtain ⟨c1, c2⟩ := rdJ_cut xs 20 1 n h20 hall
  have hxs := size_extract_le (jB 1 xs) 0 n
  have hc1 : (readJ ((jB 1 xs).extract 0 n)).1 = xs.take (tens ((bl (jB 1 xs)).take n)) := c1
  have hf := read_fact ((jB 1 xs).extract 0 n)
  rw [(ReadJournal_both _ (by omega)).1, hrd, e1]
  simp only [Option.bind_some, w, e2, v0, show (n : Int) ≤ ((jB 1 xs).size : Int) from by omega, and_self, if_true, Int.toNat_natCast]
  rw [(ReadJournal_both _ (by omega)).1]
  simp only [Option.bind_some, hc1]
  have hl : (xs.take (tens ((bl (jB 1 xs)).take n))).length = tens ((bl (jB 1 xs)).take n) := by rw [List.length_take]; omega
  have n1 : ¬ (xs.length : Int) < ((tens ((bl (jB 1 xs)).take n) : Nat) : Int) := by omega
  have n2 : ((tens ((bl (jB 1 xs)).take n) : Nat) : Int) ≤ (xs.length : Int) := by omega
  have n3 : (0 : Int) ≤ ((tens ((bl (jB 1 xs)).take n) : Nat) : Int) := by omega
  simp only [likeEntries_self _ (show xs.length ≤ 140737488355328 by omega), likeEntries_self _ (show (xs.take (tens ((bl (jB 1 xs)).take n))).length ≤ 140737488355328 by omega), hl, n1, n2, n3, and_self, Int.toNat_natCast, Option.bind_some, bne_self_eq_false, Bool.not_true, Bool.false_eq_true, if_true, if_false, decide_false]
  have hbl : (bl (jB 1 xs)).length = (jB 1 xs).size := bl_length _
  have L := journals_l27 (readJ ((jB 1 xs).extract 0 n)).2 (xs.take (tens ((bl (jB 1 xs)).take n))) ((bl (jB 1 xs)).take n) [] ((bl (jB 1 xs)).drop n) NN (by rw [List.length_take, List.length_drop, List.length_nil]; omega) (NN_lt (by rw [List.length_take]; omega))
  rw [List.nil_append, List.take_append_drop, ob_bl, List.length_take, List.length_nil, Nat.min_eq_left (by omega), hl] at L
  simp only [beq_self_eq_true, if_true, decide_eq_true hf.2.1] at L
  rw [show ((0 : Nat) : Int) + (n : Int) = (n : Int) by omega] at L
  exact L
theorem FnJournals_true (code : List Int) (hyp : Ls (Rg .u8) code) : laws_FnJournals.f code = some true := by
  unfold laws_FnJournals.f laws_FnJournals.fn laws_FnJournals.top
  rw [big_f]
  by_cases hb : (4096 : Int) < (code.length : Int)
  · simp [hb]
  have hco := code_of hyp hb
  obtain ⟨xs, e1, l1, d1⟩ := drawWJ_ok hco
  obtain ⟨x, e2, lx⟩ := drawRJ_ok hco
  obtain ⟨y, k, e3, ly⟩ := drawCJ_ok hco
  have hls := dr_sz (show xs.length ≤ 1000 by omega) d1
  have hfx := read_fact x
  have hfy := read_fact y
  have hend := journals_end code hco xs
  simp only [hb, decide_false, Bool.false_eq_true, if_false, Option.bind_some, e1, e2, e3]
  rw [(WriteJournal_both xs hls (by omega)).1, (WriteJournal_both xs hls (by omega)).2, (ReadJournal_both x (by omega)).1, (ReadJournal_both x (by omega)).2, (CutJournal_both y k (by omega)).1, (CutJournal_both y k (by omega)).2, impl_AreEntries_f xs hls, IsWhole_f x (by omega)]
  have hae : (entsB xs == ((writeR xs).2 == 0)) = true := by
    unfold entsB writeR
    cases ha : xs.all entB
    · simp
    · by_cases h : xs.length ≤ 20 <;> simp [h]
  simp only [Option.bind_some, bne_self_eq_false, beq_self_eq_true, if_true, Bool.not_true, Bool.false_eq_true, if_false, hae, likeEntries_self _ (show (readJ x).1.length ≤ 140737488355328 by omega)]
  have fin : (if ((writeR xs).2 != 0) = true then some true else
      (impl_ReadJournal.f (writeR xs).1).bind fun r15 =>
      (laws_roll.f code 3301).bind fun r16 =>
      (laws_dice_below.f r16 (IntKind.i64.wrap (((writeR xs).1.size : Int) + 1))).bind fun r17 =>
      if (0 : Int) ≤ r17.1 ∧ (r17.1 : Int) ≤ (writeR xs).1.size then
        (impl_ReadJournal.f ((writeR xs).1.extract 0 (r17.1 : Int).toNat)).bind fun r18 =>
        (laws_likeEntries.f r15.1 xs).bind fun r19 =>
        if (!r19) = false then
          if ((r15.2 : Int) != 0) = false then
            if (decide (((xs.length : Int) : Int) < (r18.1.length : Int))) = false then
              if (0 : Int) ≤ (r18.1.length : Int) ∧ ((r18.1.length : Int) : Int) ≤ xs.length then
                (laws_likeEntries.f r18.1 (xs.take ((r18.1.length : Int) : Int).toNat)).bind fun r20 =>
                if (!r20) = true then
                  some false
                else
                  laws_FnJournals.l27 NN NN (writeR xs).1 r17.1 r18.2 0 0 r18.1
              else
                none
            else
              some false
          else
            some false
        else
          some false
      else
        none) = some true := by
    by_cases h : xs.all entB = true
    · by_cases h20 : xs.length ≤ 20
      · have hw : writeR xs = (jB 1 xs, 0) := by unfold writeR; rw [if_pos h, if_pos h20]
        rw [hw, if_neg (by simp)]
        exact hend h h20
      · have hw : writeR xs = (⟨#[]⟩, 3) := by unfold writeR; rw [if_pos h, if_neg h20]
        rw [hw, if_pos (by simp)]
    · have hw : writeR xs = (⟨#[]⟩, 1) := by unfold writeR; rw [if_neg h]
      rw [hw, if_pos (by simp)]
  unfold cutR
  cases hk : inB k 0 ((readJ y).1.length : Int)
  · simp only [Bool.false_eq_true, if_false, show ((2 : Int) == 0) = false from rfl]
    exact fin
  · have hkk := inB_iff.1 hk
    have hall : ∀ v ∈ (readJ y).1.take k.toNat, entB v = true := fun v hv => hfy.2.2 v (List.mem_of_mem_take hv)
    have htl : ((readJ y).1.take k.toNat).length = k.toNat := by rw [List.length_take]; omega
    have hrd : readJ (jB 1 ((readJ y).1.take k.toNat)) = ((readJ y).1.take k.toNat, 0) := rdJ_all _ 20 1 (by omega) hall
    have hs1 := jB_take (readJ y).1 1 k.toNat
    have hs2 : ((jB 1 (readJ y).1).size : Int) + (readJ y).2 = y.size := rdJ_size 20 y 1
    simp only [if_true, beq_self_eq_true]
    rw [(ReadJournal_both _ (by omega)).1, hrd]
    have n1 : ((((readJ y).1.take k.toNat).length : Int) != k) = false := by rw [htl, bne_eq_false_iff_eq]; omega
    have n2 : ¬ (y.size : Int) < ((jB 1 ((readJ y).1.take k.toNat)).size : Int) := by omega
    simp only [Option.bind_some, n1, n2, bne_self_eq_false, if_true, decide_false, Bool.false_eq_true, if_false]
    exact fin
end Go.Pl

/- The law FnJournals: the program's function answers as the law says, for all arguments of a claim's bounds. -/
namespace Go.Proofs.Ytoghdlpojjplcaa.fnJournals
open Go.ChangeShapes Go.WideShapes Go.ChangeAt Go.RowKit Go.Ev
set_option linter.unusedVariables false
theorem own : ownKnob Try.prog.godebug = none := by kernel_rfl
theorem posok : posB Go.Ev.Try.tab = true := by kernel_rfl
theorem laidOut : laidOutB Try.prog = true := by kernel_rfl
set_option maxRecDepth 100000 in
theorem lifted (os : Os) (started : os.Started) (H : Type) (enc : TypeId × Value → H) :
    ReturnsInHanded {} Try.checked os 11 .any (Rows.fnJournalsSpec.pre6 enc Try.prog Try.f11 Rows.fnJournalsRow.domain false) (Rows.fnJournalsSpec.post enc Try.prog Try.f11 false true false false) := by
  refine returnsInHanded_of_change_sized (C := Try.checked) own started (by kernel_rfl) Try.func11
    (ChangeSpec.witness6 (enc := enc) (C := Try.checked) false ⟨#[], #[.slice none 0 0], []⟩ 8 (by kernel_rfl) (by kernel_rfl) (by kernel_rfl) (by kernel_rfl)) ?_
  intro W base args ds gs before hval0 hW hcnd hsz0 _
  have hsz : (DataW.weightsEach Try.prog (Try.f11.params.toList ++ Rows.fnJournalsSpec.plain.varTypes Try.prog) (ds ++ gs)).all (· ≤ reachBytes) = true := hsz0
  have hval : ∀ (j : Nat) t v, Try.f11.params[j]? = some t → args[j]? = some v → Value.okWide Try.prog W .any base t v := hval0
  have hW' := hW
  obtain ⟨p, q, hA0, hV, rfl, hfz, hnd⟩ := hW
  have hA : DataW.TrodAll enc Try.prog W 0 (fun _ => true) true Try.f11.params.toList args.toList ds p := hA0
  rw [Try.params11] at hA hval hsz
  obtain ⟨rfl, rfl⟩ := trodVars_none hV
  have hcall := fun hl => law_row Go.Ev.Try.tabok posok Go.Ev.Try.laws_FnJournals.good rfl (by kernel_rfl)
    (fun x hx => ⟨true, Go.Pl.FnJournals_true x hx, rfl⟩) (ts := [22]) (by rfl) hA (fun j t v hj hv => hval j t v (by simpa using hj) hv) (.inr rfl) hsz hl
  obtain ⟨v0, vs0, d0, ds0, p0, q0, hargs0, rfl, rfl, h0, r0⟩ := trodAll_cons hA
  obtain ⟨rfl, rfl, rfl⟩ := trodAll_nil r0
  obtain rfl : args = #[v0] := by cases args; simp_all
  refine (hcall rfl).mono fun e W' ⟨he, bel⟩ => ?_
  subst he
  have hlt0 : ∀ x ∈ p0, x.block < W.heap.size := fun x hx => by simpa using hW'.lt x (by simp [hx])
  exact ⟨_, rfl, _, _, _, [], _, [], hW', trodAll_mk1 (shut_bool Try.underlying4 _), (trodAll_cons_mk (Below.trod laidOut (by kernel_rfl) (of_decide_eq_true (by kernel_rfl)) h0 bel hlt0) trodAll_mk0), rfl, bel.frame _, fun h => by cases h⟩
theorem over : Rows.fnJournalsRow.holds Try.pinned (OpenSpec.ofChange Rows.fnJournalsSpec) :=
  OpenClaim.holds_of_wide 11 Try.f11 rfl rfl rfl rfl rfl rfl rfl ⟨rfl, rfl, rfl, rfl, rfl⟩ rfl rfl rfl rfl rfl (by kernel_rfl) Try.func11 (by kernel_rfl)
    (of_decide_eq_true (by kernel_rfl)) (by unfold Func.isWrapper; first | (rw [if_pos (by decide +kernel)]; kernel_rfl) | (rw [if_neg (by decide +kernel)]; exact ⟨rfl, rfl⟩))
    (fun os started H enc _ => lifted os started H enc)
theorem proved : Rows.FnJournalsSaid := over
end Go.Proofs.Ytoghdlpojjplcaa.fnJournals
namespace Go.Proofs.Ytoghdlpojjplcaa
theorem fnJournals_holds : Rows.FnJournalsSaid := fnJournals.proved
end Go.Proofs.Ytoghdlpojjplcaa
