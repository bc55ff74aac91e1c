/- The law FnAppended, and what it stands on (the last part): the program answers as the law says, for all arguments of a claim's bounds. -/
import Derived.Test.YtoghdlpojjplcaaChecked
import Derived.Test.YtoghdlpojjplcaaProg
import Derived.Test.YtoghdlpojjplcaaRows
import Derived.Below
import Derived.Calls
import Derived.Carry
import Derived.ChangeArms
import Derived.ChangeKeysEq
import Derived.ChangeOld
import Derived.Deep.Quiet
import Derived.KernelRfl
import Derived.Laws.Append
import Derived.Laws.BytesString
import Derived.Laws.MakeOwn
import Derived.Laws.Strings
import Derived.Laws.StructEq
import Derived.OpenShut
import Derived.OrdersHeld
import Derived.ProofKit
import Derived.ShutString
import Derived.SizedLaws
import Derived.Tactics
import Derived.WalkKit
import Derived.WideShapes
import Derived.Test.YtoghdlpojjplcaaEvAppended4
namespace Go.Pl
open Go.Ev
set_option linter.unusedVariables false
noncomputable section
def laws_dice_below.top (d0 : List Int × Int × Int) (n1 : Int) : Option (Int × List Int × Int × Int) :=
  if (33 : Int) < 0 then
    none
  else if (decide ((d0.2.1 : Int) < (d0.1.length : Int))) = true then
    if (0 : Int) ≤ d0.2.1 ∧ (d0.2.1 : Int) < d0.1.length then
      if n1 = 0 then
        none
      else
        some (Int.tmod (IntKind.i64.wrap ((IntKind.i64.wrap (IntKind.u64.wrap (BitVec.ofInt IntKind.u64.bits (Int.fdiv (IntKind.u64.wrap ((IntKind.u64.wrap (d0.2.2 * 6364136223846793005)) + 1442695040888963407)) (2 ^ (min (33 : Int).toNat IntKind.u64.bits))) &&& BitVec.ofInt IntKind.u64.bits 16777215).toNat)) + (IntKind.i64.wrap (d0.1.getD (d0.2.1 : Int).toNat 0)))) n1, (d0.1, (IntKind.i64.wrap (d0.2.1 + 1), IntKind.u64.wrap ((IntKind.u64.wrap (d0.2.2 * 6364136223846793005)) + 1442695040888963407))))
    else
      none
  else if n1 = 0 then
    none
  else
    some (Int.tmod (IntKind.i64.wrap (IntKind.u64.wrap (BitVec.ofInt IntKind.u64.bits (Int.fdiv (IntKind.u64.wrap ((IntKind.u64.wrap (d0.2.2 * 6364136223846793005)) + 1442695040888963407)) (2 ^ (min (33 : Int).toNat IntKind.u64.bits))) &&& BitVec.ofInt IntKind.u64.bits 16777215).toNat)) n1, (d0.1, (d0.2.1, IntKind.u64.wrap ((IntKind.u64.wrap (d0.2.2 * 6364136223846793005)) + 1442695040888963407))))
def laws_dice_below.fn (n : Nat) (d0 : List Int × Int × Int) (n1 : Int) : Option (Int × List Int × Int × Int) := laws_dice_below.top d0 n1
def laws_dice_below.f (d0 : List Int × Int × Int) (n1 : Int) : Option (Int × List Int × Int × Int) := laws_dice_below.fn NN d0 n1
end
end Go.Pl

namespace Go.Pl
open Go.Ev
set_option linter.unusedVariables false
set_option linter.unusedSimpArgs false
theorem ReadJournal_both (s : ByteArray) (hs : s.size ≤ 1000000) : impl_ReadJournal.f s = some (readJ s) ∧ spec_ReadJournal.f s = some (readJ s) := by
  unfold impl_ReadJournal.f impl_ReadJournal.fn impl_ReadJournal.top spec_ReadJournal.f spec_ReadJournal.fn spec_ReadJournal.top
  rw [(read_both s hs).1, (read_both s hs).2]
  exact ⟨rfl, rfl⟩
theorem IsWhole_f (s : ByteArray) (hs : s.size ≤ 1000000) : impl_IsWhole.f s = some ((readJ s).2 == 0) := by
  unfold impl_IsWhole.f impl_IsWhole.fn impl_IsWhole.top
  rw [(read_both s hs).1]; rfl
theorem read_fact (s : ByteArray) : (readJ s).1.length ≤ 20 ∧ 0 ≤ (readJ s).2 ∧ ∀ x ∈ (readJ s).1, entB x = true := rdJ_fact 20 s 1
theorem all_ent {l : List (Int × ByteArray)} (h : ∀ x ∈ l, entB x = true) : ∀ x ∈ l, EnIn x := fun x hx => entB_in (h x hx)
open Classical in
noncomputable def cutR (s : ByteArray) (n : Int) : ByteArray × Int := if inB n 0 ((readJ s).1.length : Int) = true then (jB 1 ((readJ s).1.take n.toNat), 0) else (⟨#[]⟩, 2)
theorem CutJournal_both (s : ByteArray) (n : Int) (hs : s.size ≤ 1000000) : impl_CutJournal.f s n = some (cutR s n) ∧ spec_CutJournal.f s n = some (cutR s n) := by
  have hf := read_fact s
  unfold impl_CutJournal.f impl_CutJournal.fn impl_CutJournal.top spec_CutJournal.f spec_CutJournal.fn spec_CutJournal.top cutR
  rw [(read_both s hs).1, (read_both s hs).2]
  simp only [Option.bind_some, impl_within_f, spec_l01In_f]
  cases hb : inB n 0 ((readJ s).1.length : Int)
  · exact ⟨rfl, rfl⟩
  have hn := inB_iff.1 hb
  have hin := all_ent (l := (readJ s).1.take n.toNat) (fun x hx => hf.2.2 x (List.mem_of_mem_take hx))
  have hl : ((readJ s).1.take n.toNat).length ≤ 1000000 := by rw [List.length_take]; omega
  simp only [Bool.not_true, Bool.false_eq_true, if_false, hn.1, hn.2, and_self, if_true]
  rw [(impl_journalOf_f _ hl hin).1, (spec_l33Write_f _ hl hin).1, jText_eq]
  exact ⟨rfl, rfl⟩
def ofF (kind : Int) (out : List ByteArray) (e : Int × ByteArray) : List ByteArray := if e.1 = kind then out ++ [e.2] else out
def ofL (kind : Int) (l : List (Int × ByteArray)) : List ByteArray := l.foldl (ofF kind) []
theorem room16' (out : List ByteArray) (x : ByteArray) (h : out.length ≤ 1000000) : out.length + [x].length < room 16 := by rw [room16]; simp; omega
theorem impl_EntriesOf_l (kind : Int) (xs : List (Int × ByteArray)) (h : xs.length ≤ 1000) : impl_EntriesOf.l4 NN NN kind xs.length 0 [] xs = some (ofL kind xs) := by
  have := (fold_fix (E := fun _ => True) (fun p st => st.length ≤ p.length) (fun _ => ofF kind) some (fun k i st => impl_EntriesOf.l4 NN k kind xs.length i st xs) xs ?_ ?_ [] (fun _ _ => trivial) (by simp) (by omega) NN (NN_lt (by omega))).2
  · rw [foldi_foldl] at this
    exact this
  · intro k st _
    simp [impl_EntriesOf.l4, impl_EntriesOf.g4]
  · intro k p e r st hx _ hI c0 c1 c2 cw g
    have hp : p.length ≤ 1000 := by omega
    refine ⟨by unfold ofF; rw [List.length_append, List.length_singleton]; split <;> (try simp) <;> omega, ?_⟩
    simp only [impl_EntriesOf.l4, impl_EntriesOf.g4, c0, c1, cw, g, and_self, and_true, true_and, decide_true, decide_false, if_true, if_false, mid_get, mid_set, mid_getn, mid_setn, bt_mid, Option.bind_some, Bool.not_true, Bool.not_false, Bool.false_eq_true, Bool.true_eq_false, beq_self_eq_true, bne_self_eq_false, Int.toNat_natCast, room16' _ _ (show st.length ≤ 1000000 by omega)]
    unfold ofF
    by_cases he : e.1 = kind
    · simp [he]
    · simp [he]
theorem spec_EntriesOf_l (kind : Int) (xs : List (Int × ByteArray)) (h : xs.length ≤ 1000) : spec_EntriesOf.l4 NN NN kind 0 xs [] = some (ofL kind xs) := by
  have := (fold_fix (E := fun _ => True) (fun p st => st.length ≤ p.length) (fun _ => ofF kind) some (fun k i st => spec_EntriesOf.l4 NN k kind i xs st) xs ?_ ?_ [] (fun _ _ => trivial) (by simp) (by omega) NN (NN_lt (by omega))).2
  · rw [foldi_foldl] at this
    exact this
  · intro k st _
    simp [spec_EntriesOf.l4, spec_EntriesOf.g4]
  · intro k p e r st hx _ hI c0 c1 c2 cw g
    have hp : p.length ≤ 1000 := by omega
    refine ⟨by unfold ofF; rw [List.length_append, List.length_singleton]; split <;> (try simp) <;> omega, ?_⟩
    simp only [spec_EntriesOf.l4, spec_EntriesOf.g4, c0, c1, cw, g, and_self, and_true, true_and, decide_true, decide_false, if_true, if_false, mid_get, mid_set, mid_getn, mid_setn, bt_mid, Option.bind_some, Bool.not_true, Bool.not_false, Bool.false_eq_true, Bool.true_eq_false, beq_self_eq_true, bne_self_eq_false, Int.toNat_natCast, room16' _ _ (show st.length ≤ 1000000 by omega)]
    unfold ofF
    by_cases he : e.1 = kind
    · simp [he]
    · simp [he]
theorem ofL_len (kind : Int) (l : List (Int × ByteArray)) : (ofL kind l).length ≤ l.length := by
  have key : ∀ (l : List (Int × ByteArray)) (out : List ByteArray), (l.foldl (ofF kind) out).length ≤ out.length + l.length := by
    intro l
    induction l with
    | nil => intro out; simp
    | cons e l ih =>
      intro out
      have := ih (ofF kind out e)
      have h2 : (ofF kind out e).length ≤ out.length + 1 := by unfold ofF; split <;> simp
      simp only [List.foldl_cons, List.length_cons]
      omega
  have := key l []
  simpa [ofL] using this
theorem EntriesOf_both (s : ByteArray) (kind : Int) (hs : s.size ≤ 1000000) : impl_EntriesOf.f s kind = some (ofL kind (readJ s).1) ∧ spec_EntriesOf.f s kind = some (ofL kind (readJ s).1) := by
  have hf := read_fact s
  unfold impl_EntriesOf.f impl_EntriesOf.fn impl_EntriesOf.top spec_EntriesOf.f spec_EntriesOf.fn spec_EntriesOf.top
  rw [(read_both s hs).1, (read_both s hs).2]
  exact ⟨impl_EntriesOf_l kind _ (by omega), spec_EntriesOf_l kind _ (by omega)⟩
open Classical in
/-- the first difference -/
noncomputable def fdL : Nat → List (Int × ByteArray) → List (Int × ByteArray) → Int × Int
  | _, [], [] => (0, 4)
  | i, a :: x, b :: y => if a = b then fdL (i + 1) x y else ((i : Int), 0)
  | i, _, _ => ((i : Int), 0)
theorem fdL_symm : ∀ (x y : List (Int × ByteArray)) (i : Nat), fdL i x y = fdL i y x := by
  intro x
  induction x with
  | nil => intro y i; cases y <;> simp [fdL]
  | cons a x ih =>
    intro y i
    cases y with
    | nil => simp [fdL]
    | cons b y =>
      simp only [fdL]
      by_cases h : a = b
      · rw [if_pos h, if_pos h.symm]; exact ih y _
      · rw [if_neg h, if_neg (fun e => h e.symm)]
theorem fdL_self : ∀ (x : List (Int × ByteArray)) (i : Nat), fdL i x x = (0, 4) := by
  intro x
  induction x with
  | nil => intro i; rfl
  | cons a x ih => intro i; simp only [fdL, if_true]; exact ih _
theorem ent_eq (a b : Int × ByteArray) : (!((a.1 == b.1) && (a.2.toList == b.2.toList))) = !(decide (a = b)) := by
  obtain ⟨a1, a2⟩ := a
  obtain ⟨b1, b2⟩ := b
  rw [ba_beq]
  by_cases h1 : a1 = b1 <;> by_cases h2 : a2 = b2 <;> simp [h1, h2]
theorem impl_FirstDifference_l : ∀ (x y p q : List (Int × ByteArray)) (k : Nat), p.length = q.length → p.length + x.length + y.length ≤ 1000 → x.length + y.length < k →
    impl_FirstDifference.l4 NN k (p.length : Int) (p ++ x) (q ++ y) = some (fdL p.length x y) := by
  intro x
  induction x with
  | nil =>
    intro y p q k hpq hl hk
    obtain ⟨k, rfl⟩ : ∃ j, k = j + 1 := ⟨k - 1, by omega⟩
    have n1 : ¬ (p.length : Int) < ((p ++ []).length : Int) := by simp
    cases y with
    | nil =>
      have n2 : ¬ (p.length : Int) < ((q ++ []).length : Int) := by simp; omega
      simp only [impl_FirstDifference.l4, impl_FirstDifference.g4, n1, n2, decide_false, if_true, Bool.false_eq_true, if_false, fdL]
    | cons b y =>
      have n2 : (p.length : Int) < ((q ++ b :: y).length : Int) := by simp; omega
      have n3 : ((p ++ []).length : Int) ≤ (p.length : Int) := by simp
      simp only [impl_FirstDifference.l4, impl_FirstDifference.g4, n1, n2, n3, decide_false, decide_true, if_true, Bool.true_eq_false, if_false, fdL]
  | cons a x ih =>
    intro y p q k hpq hl hk
    simp only [List.length_cons] at hl hk
    obtain ⟨k, rfl⟩ : ∃ j, k = j + 1 := ⟨k - 1, by omega⟩
    have n1 : (p.length : Int) < ((p ++ a :: x).length : Int) := by simp; omega
    have n2 : ¬ ((p ++ a :: x).length : Int) ≤ (p.length : Int) := by omega
    have n0 : (0 : Int) ≤ (p.length : Int) := by omega
    cases y with
    | nil =>
      have n3 : ((q ++ []).length : Int) ≤ (p.length : Int) := by simp; omega
      simp only [impl_FirstDifference.l4, impl_FirstDifference.g4, n1, n2, n3, decide_false, decide_true, if_true, Bool.true_eq_false, if_false, fdL]
    | cons b y =>
      simp only [List.length_cons] at hl hk
      have n3 : (p.length : Int) < ((q ++ b :: y).length : Int) := by simp; omega
      have n4 : ¬ ((q ++ b :: y).length : Int) ≤ (p.length : Int) := by omega
      have g1 : (p ++ a :: x).getD (p.length : Int).toNat (0, ByteArray.empty) = a := mid_get p x a _
      have g2 : (q ++ b :: y).getD (p.length : Int).toNat (0, ByteArray.empty) = b := by rw [hpq]; exact mid_get q y b _
      have w := w64 (n := (p.length : Int) + 1) (by omega) (by omega)
      simp only [impl_FirstDifference.l4, impl_FirstDifference.g4, n0, n1, n2, n3, n4, g1, g2, w, and_self, decide_false, decide_true, if_true, Bool.true_eq_false, if_false, fdL, ent_eq]
      by_cases h : a = b
      · simp only [h, decide_true, Bool.not_true, Bool.false_eq_true, if_false, if_true]
        have := ih y (p ++ [a]) (q ++ [b]) k (by simp [hpq]) (by simp; omega) (by omega)
        rw [List.append_assoc, List.append_assoc, List.length_append, List.length_singleton] at this
        rw [h] at this
        exact this
      · simp only [h, decide_false, Bool.not_false, if_true, if_false]
theorem spec_FirstDifference_l : ∀ (x y p q : List (Int × ByteArray)) (k : Nat), p.length = q.length → p.length + x.length + y.length ≤ 1000 → x.length + y.length < k →
    spec_FirstDifference.l4 NN k (p.length : Int) (p ++ x) (q ++ y) = some (fdL p.length x y) := by
  intro x
  induction x with
  | nil =>
    intro y p q k hpq hl hk
    obtain ⟨k, rfl⟩ : ∃ j, k = j + 1 := ⟨k - 1, by omega⟩
    have n1 : ¬ (p.length : Int) < ((p ++ []).length : Int) := by simp
    cases y with
    | nil =>
      have n2 : ¬ (p.length : Int) < ((q ++ []).length : Int) := by simp; omega
      simp only [spec_FirstDifference.l4, spec_FirstDifference.g4, n1, n2, decide_false, if_true, Bool.false_eq_true, if_false, fdL]
    | cons b y =>
      have n2 : (p.length : Int) < ((q ++ b :: y).length : Int) := by simp; omega
      have n3 : ((p ++ []).length : Int) ≤ (p.length : Int) := by simp
      simp only [spec_FirstDifference.l4, spec_FirstDifference.g4, n1, n2, n3, decide_false, decide_true, if_true, Bool.true_eq_false, if_false, fdL]
  | cons a x ih =>
    intro y p q k hpq hl hk
    simp only [List.length_cons] at hl hk
    obtain ⟨k, rfl⟩ : ∃ j, k = j + 1 := ⟨k - 1, by omega⟩
    have n1 : (p.length : Int) < ((p ++ a :: x).length : Int) := by simp; omega
    have n2 : ¬ ((p ++ a :: x).length : Int) ≤ (p.length : Int) := by omega
    have n0 : (0 : Int) ≤ (p.length : Int) := by omega
    cases y with
    | nil =>
      have n3 : ((q ++ []).length : Int) ≤ (p.length : Int) := by simp; omega
      simp only [spec_FirstDifference.l4, spec_FirstDifference.g4, n1, n2, n3, decide_false, decide_true, if_true, Bool.true_eq_false, if_false, fdL]
    | cons b y =>
      simp only [List.length_cons] at hl hk
      have n3 : (p.length : Int) < ((q ++ b :: y).length : Int) := by simp; omega
      have n4 : ¬ ((q ++ b :: y).length : Int) ≤ (p.length : Int) := by omega
      have g1 : (p ++ a :: x).getD (p.length : Int).toNat (0, ByteArray.empty) = a := mid_get p x a _
      have g2 : (q ++ b :: y).getD (p.length : Int).toNat (0, ByteArray.empty) = b := by rw [hpq]; exact mid_get q y b _
      have w := w64 (n := (p.length : Int) + 1) (by omega) (by omega)
      simp only [spec_FirstDifference.l4, spec_FirstDifference.g4, n0, n1, n2, n3, n4, g1, g2, w, and_self, decide_false, decide_true, if_true, Bool.true_eq_false, if_false, fdL, ent_eq]
      by_cases h : a = b
      · simp only [h, decide_true, Bool.not_true, Bool.false_eq_true, if_false, if_true]
        have := ih y (p ++ [a]) (q ++ [b]) k (by simp [hpq]) (by simp; omega) (by omega)
        rw [List.append_assoc, List.append_assoc, List.length_append, List.length_singleton] at this
        rw [h] at this
        exact this
      · simp only [h, decide_false, Bool.not_false, if_true, if_false]
theorem FirstDifference_both (a b : ByteArray) (ha : a.size ≤ 1000000) (hb : b.size ≤ 1000000) : impl_FirstDifference.f a b = some (fdL 0 (readJ a).1 (readJ b).1) ∧ spec_FirstDifference.f a b = some (fdL 0 (readJ a).1 (readJ b).1) := by
  have h1 := read_fact a
  have h2 := read_fact b
  unfold impl_FirstDifference.f impl_FirstDifference.fn impl_FirstDifference.top spec_FirstDifference.f spec_FirstDifference.fn spec_FirstDifference.top
  rw [(read_both a ha).1, (read_both a ha).2, (read_both b hb).1, (read_both b hb).2]
  have z1 := h1.1
  have z2 := h2.1
  exact ⟨impl_FirstDifference_l (readJ a).1 (readJ b).1 [] [] NN rfl (by simp only [List.length_nil]; omega) (NN_lt (by omega)), spec_FirstDifference_l (readJ a).1 (readJ b).1 [] [] NN rfl (by simp only [List.length_nil]; omega) (NN_lt (by omega))⟩
def writeR (xs : List (Int × ByteArray)) : ByteArray × Int := if xs.all entB = true then (if xs.length ≤ 20 then (jB 1 xs, 0) else (⟨#[]⟩, 3)) else (⟨#[]⟩, 1)
theorem WriteJournal_both (xs : List (Int × ByteArray)) (h : Ls (fun e => Sz e.2) xs) (hl : xs.length ≤ 1000000) : impl_WriteJournal.f xs = some (writeR xs) ∧ spec_WriteJournal.f xs = some (writeR xs) := by
  unfold impl_WriteJournal.f impl_WriteJournal.fn impl_WriteJournal.top spec_WriteJournal.f spec_WriteJournal.fn spec_WriteJournal.top writeR
  rw [spec_l33Code_f xs h, impl_areEntries_f xs h]
  cases ha : xs.all entB
  · exact ⟨rfl, rfl⟩
  have hin := all_in ha
  by_cases h20 : xs.length ≤ 20
  · have n1 : ¬ (20 : Int) < (xs.length : Int) := by omega
    simp only [h20, n1, if_true, Option.bind_some, Bool.not_true, Bool.false_eq_true, if_false, decide_false, bne_self_eq_false]
    rw [(impl_journalOf_f xs (by omega) hin).1, (spec_l33Write_f xs (by omega) hin).1, jText_eq]
    exact ⟨rfl, rfl⟩
  · have n1 : (20 : Int) < (xs.length : Int) := by omega
    simp only [h20, n1, if_true, Option.bind_some, Bool.not_true, Bool.false_eq_true, if_false, decide_true]
    exact ⟨by first | trivial | rfl, by first | trivial | rfl⟩
open Classical in
noncomputable def appR (s : ByteArray) (e : Int × ByteArray) : ByteArray × Int := if entB e = true then (if (readJ s).1.length = 20 then (⟨#[]⟩, 3) else (jB 1 ((readJ s).1 ++ [e]), 0)) else (⟨#[]⟩, 1)
theorem AppendEntry_both (s : ByteArray) (e : Int × ByteArray) (hs : s.size ≤ 1000000) (he : e.2.size ≤ 1000000) : impl_AppendEntry.f s e = some (appR s e) ∧ spec_AppendEntry.f s e = some (appR s e) := by
  obtain ⟨h5, h3, h6⟩ := read_fact s
  obtain ⟨h1, h2⟩ := read_both s hs
  have hroom : (readJ s).1.length + [e].length < room 24 := by rw [room24]; simp; omega
  have hls : Ls (fun e => Sz e.2) ((readJ s).1 ++ [e]) := ⟨by simp; omega, fun x hx => by
    rcases List.mem_append.1 hx with h | h
    · exact Nat.le_trans (entB_in (h6 x h)).2.2 (by omega)
    · rw [List.mem_singleton.1 h]; exact Nat.le_trans he (by omega)⟩
  have hal : ((readJ s).1 ++ [e]).all entB = entB e := by
    rw [List.all_append, List.all_eq_true.2 h6]; simp
  unfold appR
  refine ⟨?_, ?_⟩
  · unfold impl_AppendEntry.f impl_AppendEntry.fn impl_AppendEntry.top
    rw [impl_isEntry_f e (Nat.le_trans he (by omega))]
    cases hb : entB e
    · rfl
    simp only [and_self, and_true, true_and, decide_true, decide_false, if_true, if_false, mid_get, mid_set, mid_getn, mid_setn, bt_mid, Option.bind_some, Bool.not_true, Bool.not_false, Bool.false_eq_true, Bool.true_eq_false, beq_self_eq_true, bne_self_eq_false, Int.toNat_natCast]
    rw [h1]
    by_cases h20 : (readJ s).1.length = 20
    · have : (((readJ s).1.length : Int) == 20) = true := by rw [beq_iff_eq]; omega
      simp only [h20, and_self, and_true, true_and, decide_true, decide_false, if_true, if_false, mid_get, mid_set, mid_getn, mid_setn, bt_mid, Option.bind_some, Bool.not_true, Bool.not_false, Bool.false_eq_true, Bool.true_eq_false, beq_self_eq_true, bne_self_eq_false, Int.toNat_natCast]; rfl
    · have : (((readJ s).1.length : Int) == 20) = false := by rw [beq_eq_false_iff_ne]; omega
      simp only [h20, this, hroom, and_self, and_true, true_and, decide_true, decide_false, if_true, if_false, mid_get, mid_set, mid_getn, mid_setn, bt_mid, Option.bind_some, Bool.not_true, Bool.not_false, Bool.false_eq_true, Bool.true_eq_false, beq_self_eq_true, bne_self_eq_false, Int.toNat_natCast]
      rw [(impl_journalOf_f ((readJ s).1 ++ [e]) (by simp; omega) (all_in (by rw [hal]; exact hb))).1, jText_eq]; rfl
  · unfold spec_AppendEntry.f spec_AppendEntry.fn spec_AppendEntry.top
    rw [h2]
    simp only [and_self, and_true, true_and, decide_true, decide_false, if_true, if_false, mid_get, mid_set, mid_getn, mid_setn, bt_mid, Option.bind_some, Bool.not_true, Bool.not_false, Bool.false_eq_true, Bool.true_eq_false, beq_self_eq_true, bne_self_eq_false, Int.toNat_natCast, hroom]
    rw [spec_l33Code_f _ hls, hal]
    cases hb : entB e
    · rfl
    by_cases h20 : (readJ s).1.length = 20
    · have : ¬ ((readJ s).1 ++ [e]).length ≤ 20 := by simp; omega
      simp only [h20, this, and_self, and_true, true_and, decide_true, decide_false, if_true, if_false, mid_get, mid_set, mid_getn, mid_setn, bt_mid, Option.bind_some, Bool.not_true, Bool.not_false, Bool.false_eq_true, Bool.true_eq_false, beq_self_eq_true, bne_self_eq_false, Int.toNat_natCast]; rfl
    · have : ((readJ s).1 ++ [e]).length ≤ 20 := by simp; omega
      simp only [h20, this, and_self, and_true, true_and, decide_true, decide_false, if_true, if_false, mid_get, mid_set, mid_getn, mid_setn, bt_mid, Option.bind_some, Bool.not_true, Bool.not_false, Bool.false_eq_true, Bool.true_eq_false, beq_self_eq_true, bne_self_eq_false, Int.toNat_natCast]
      rw [(spec_l33Write_f ((readJ s).1 ++ [e]) (by omega) (all_in (by rw [hal]; exact hb))).1, jText_eq]; rfl
theorem likeEntries_self (a : List (Int × ByteArray)) (hl : a.length ≤ 140737488355328) : laws_likeEntries.f a a = some true := by
  unfold laws_likeEntries.f laws_likeEntries.fn laws_likeEntries.top
  simp only [bne_self_eq_false, Bool.false_eq_true, if_false]
  refine eqS_loop (E := fun _ => True) (fun k a b i => laws_likeEntries.l4 NN k a b i) a (fun _ _ => trivial) ?_ ?_ NN (NN_lt (by omega))
  · intro k p x r hx ha
    subst ha
    have hm := mid_len p r x
    have c1 : (p.length : Int) < ((p ++ x :: r).length : Int) := by omega
    have c0 : (0 : Int) ≤ (p.length : Int) := by omega
    have cw := w64 (n := (p.length : Int) + 1) (by omega) (by omega)
    simp only [laws_likeEntries.l4, laws_likeEntries.g4, c0, c1, cw, and_self, and_true, true_and, decide_true, decide_false, if_true, if_false, mid_get, mid_set, mid_getn, mid_setn, bt_mid, Option.bind_some, Bool.not_true, Bool.not_false, Bool.false_eq_true, Bool.true_eq_false, beq_self_eq_true, bne_self_eq_false, Int.toNat_natCast]
    simp
  · intro k
    simp [laws_likeEntries.l4, laws_likeEntries.g4]
theorem likeTexts_self (a : List ByteArray) (hl : a.length ≤ 140737488355328) : laws_likeTexts.f a a = some true := by
  unfold laws_likeTexts.f laws_likeTexts.fn laws_likeTexts.top
  simp only [bne_self_eq_false, Bool.false_eq_true, if_false]
  refine eqS_loop (E := fun _ => True) (fun k a b i => laws_likeTexts.l4 NN k a b i) a (fun _ _ => trivial) ?_ ?_ NN (NN_lt (by omega))
  · intro k p x r hx ha
    subst ha
    have hm := mid_len p r x
    have c1 : (p.length : Int) < ((p ++ x :: r).length : Int) := by omega
    have c0 : (0 : Int) ≤ (p.length : Int) := by omega
    have cw := w64 (n := (p.length : Int) + 1) (by omega) (by omega)
    simp only [laws_likeTexts.l4, laws_likeTexts.g4, c0, c1, cw, and_self, and_true, true_and, decide_true, decide_false, if_true, if_false, mid_get, mid_set, mid_getn, mid_setn, bt_mid, Option.bind_some, Bool.not_true, Bool.not_false, Bool.false_eq_true, Bool.true_eq_false, beq_self_eq_true, bne_self_eq_false, Int.toNat_natCast]
  · intro k
    simp [laws_likeTexts.l4, laws_likeTexts.g4]
theorem roll_ok (code : List Int) (hl : code.length ≤ 4096) (seed : Int) : ∃ x, laws_roll.f code seed = some (code, 0, x) := by
  have key : ∀ (d i k : Nat) (x : Int), i + d = code.length → d < k → ∃ y, laws_roll.l3 NN k code i code 0 x = some (code, 0, y) := by
    intro d
    induction d with
    | zero =>
      intro i k x hi hk
      obtain ⟨k, rfl⟩ : ∃ j, k = j + 1 := ⟨k - 1, by omega⟩
      have n1 : ¬ (i : Int) < (code.length : Int) := by omega
      exact ⟨x, by simp only [laws_roll.l3, laws_roll.g3, n1, decide_false, Bool.false_eq_true, if_false]⟩
    | succ d ih =>
      intro i k x hi hk
      obtain ⟨k, rfl⟩ : ∃ j, k = j + 1 := ⟨k - 1, by omega⟩
      have n1 : (i : Int) < (code.length : Int) := by omega
      have n0 : (0 : Int) ≤ (i : Int) := by omega
      have w := w64 (n := (i : Int) + 1) (by omega) (by omega)
      simp only [laws_roll.l3, laws_roll.g3, n0, n1, w, and_self, decide_true, if_true]
      exact ih (i + 1) k _ (by omega) (by omega)
  exact key code.length 0 NN _ (by omega) (NN_lt (by omega))
theorem and24 (A : BitVec IntKind.u64.bits) : (A &&& BitVec.ofInt IntKind.u64.bits 16777215).toNat ≤ 16777215 := by
  rw [BitVec.toNat_and]
  exact Nat.le_trans Nat.and_le_right (by decide)
theorem wu64 {n : Int} (h1 : 0 ≤ n) (h2 : n < 18446744073709551616) : IntKind.u64.wrap n = n := by
  simp only [IntKind.wrap, IntKind.bits, IntKind.signed]
  simp
  omega
theorem tm1 {z : Nat} {y n : Int} (hn : 0 < n) (hz : z ≤ 16777215) (hy : 0 ≤ y ∧ y ≤ 255) : 0 ≤ Int.tmod (IntKind.i64.wrap ((IntKind.i64.wrap (IntKind.u64.wrap (z : Int))) + (IntKind.i64.wrap y))) n ∧ Int.tmod (IntKind.i64.wrap ((IntKind.i64.wrap (IntKind.u64.wrap (z : Int))) + (IntKind.i64.wrap y))) n < n := by
  rw [wu64 (n := (z : Int)) (by omega) (by omega), w64 (n := (z : Int)) (by omega) (by omega), w64 (n := y) (by omega) (by omega), w64 (n := (z : Int) + y) (by omega) (by omega), Int.tmod_eq_emod_of_nonneg (by omega)]
  exact ⟨Int.emod_nonneg _ (by omega), Int.emod_lt_of_pos _ hn⟩
theorem tm2 {z : Nat} {n : Int} (hn : 0 < n) (hz : z ≤ 16777215) : 0 ≤ Int.tmod (IntKind.i64.wrap (IntKind.u64.wrap (z : Int))) n ∧ Int.tmod (IntKind.i64.wrap (IntKind.u64.wrap (z : Int))) n < n := by
  rw [wu64 (n := (z : Int)) (by omega) (by omega), w64 (n := (z : Int)) (by omega) (by omega), Int.tmod_eq_emod_of_nonneg (by omega)]
  exact ⟨Int.emod_nonneg _ (by omega), Int.emod_lt_of_pos _ hn⟩
theorem below_ok (code : List Int) (hc : ∀ c ∈ code, 0 ≤ c ∧ c ≤ 255) (hl : code.length ≤ 4096) (x n : Int) (hn : 0 < n) : ∃ v s, laws_dice_below.f (code, 0, x) n = some (v, s) ∧ 0 ≤ v ∧ v < n := by
  unfold laws_dice_below.f laws_dice_below.fn laws_dice_below.top
  rw [if_neg (show ¬ (33 : Int) < 0 by omega)]
  have hn0 : ¬ n = 0 := by omega
  by_cases h0 : (0 : Int) < (code.length : Int)
  · have hd := hc _ (show code.getD (0 : Int).toNat 0 ∈ code by
      show code.getD 0 0 ∈ code
      rw [List.getD_eq_getElem?_getD, List.getElem?_eq_getElem (by omega)]; exact List.getElem_mem _)
    rw [if_pos (by simp only; exact decide_eq_true h0), if_pos (by simp only; exact ⟨Int.le_refl 0, h0⟩), if_neg hn0]
    exact ⟨_, _, rfl, (tm1 hn (and24 _) hd).1, (tm1 hn (and24 _) hd).2⟩
  · rw [if_neg (by simp only; simpa using h0), if_neg hn0]
    exact ⟨_, _, rfl, (tm2 hn (and24 _)).1, (tm2 hn (and24 _)).2⟩
end Go.Pl

namespace Go.Pl
open Go.Ev
set_option linter.unusedVariables false
set_option linter.unusedSimpArgs false
theorem FnAppended_true (code : List Int) (hyp : Ls (Rg .u8) code) : laws_FnAppended.f code = some true := by
  unfold laws_FnAppended.f laws_FnAppended.fn laws_FnAppended.top
  rw [big_f]
  by_cases hb : (4096 : Int) < (code.length : Int)
  · simp [hb]
  have hco := code_of hyp hb
  obtain ⟨s, e, e1, l1, d1⟩ := drawAE_ok hco
  obtain ⟨x, y, e2, lx, ly⟩ := drawFD_ok hco
  obtain ⟨z, kind, e3, lz⟩ := drawEO_ok hco
  have hof := ofL_len kind (readJ z).1
  have hz := (read_fact z).1
  have hfs := read_fact s
  simp only [hb, decide_false, Bool.false_eq_true, if_false, Option.bind_some, e1, e2, e3]
  rw [(AppendEntry_both s e (by omega) (Nat.le_trans d1.2 (by omega))).1, (AppendEntry_both s e (by omega) (Nat.le_trans d1.2 (by omega))).2, (FirstDifference_both x y (by omega) (by omega)).1, (FirstDifference_both x y (by omega) (by omega)).2, (EntriesOf_both z kind (by omega)).1, (EntriesOf_both z kind (by omega)).2, (FirstDifference_both y x (by omega) (by omega)).1, (FirstDifference_both x x (by omega) (by omega)).1, fdL_symm (readJ y).1 (readJ x).1, fdL_self]
  simp only [Option.bind_some, bne_self_eq_false, beq_self_eq_true, if_true, Bool.not_true, Bool.false_eq_true, if_false, likeTexts_self _ (show (ofL kind (readJ z).1).length ≤ 140737488355328 by omega)]
  unfold appR
  by_cases he : entB e = true
  · rw [if_pos he]
    by_cases h20 : (readJ s).1.length = 20
    · rw [if_pos h20]; rfl
    · rw [if_neg h20]
      have hall : ∀ v ∈ (readJ s).1 ++ [e], entB v = true := fun v hv => by
        rcases List.mem_append.1 hv with h | h
        · exact hfs.2.2 v h
        · rw [List.mem_singleton.1 h]; exact he
      have hlen : ((readJ s).1 ++ [e]).length = (readJ s).1.length + 1 := by simp
      have hrd : readJ (jB 1 ((readJ s).1 ++ [e])) = ((readJ s).1 ++ [e], 0) := rdJ_all _ 20 1 (by omega) hall
      have hsz := jB_size _ 1 hall
      have w := w64 (n := ((readJ s).1.length : Int) + 1) (by omega) (by omega)
      have n1 : ((((readJ s).1 ++ [e]).length : Int) == ((readJ s).1.length : Int) + 1) = true := by rw [beq_iff_eq]; omega
      have n2 : (0 : Int) ≤ ((readJ s).1.length : Int) := by omega
      have n3 : ((readJ s).1.length : Int) ≤ (((readJ s).1 ++ [e]).length : Int) := by omega
      have n4 : ((readJ s).1.length : Int) < (((readJ s).1 ++ [e]).length : Int) := by omega
      have tk : ((readJ s).1 ++ [e]).take ((readJ s).1.length : Int).toNat = (readJ s).1 := by rw [Int.toNat_natCast]; simp
      have gd : ((readJ s).1 ++ [e]).getD ((readJ s).1.length : Int).toNat (0, ByteArray.empty) = e := mid_get (readJ s).1 [] e _
      simp only [bne_self_eq_false, Bool.false_eq_true, if_false]
      rw [(ReadJournal_both s (by omega)).1, (ReadJournal_both _ (by omega)).1, (ReadJournal_both _ (by omega)).2, hrd]
      simp only [Option.bind_some, bne_self_eq_false, beq_self_eq_true, if_true, Bool.not_true, Bool.false_eq_true, if_false, likeEntries_self _ (show ((readJ s).1 ++ [e]).length ≤ 140737488355328 by omega), likeEntries_self _ (show (readJ s).1.length ≤ 140737488355328 by omega), w, n1, n2, n3, n4, and_self, tk, gd, Bool.and_self]
  · rw [if_neg he]; rfl
end Go.Pl

/- The law FnAppended: the program's function answers as the law says, for all arguments of a claim's bounds. -/
namespace Go.Proofs.Ytoghdlpojjplcaa.fnAppended
open Go.ChangeShapes Go.WideShapes Go.ChangeAt Go.RowKit Go.Ev
set_option linter.unusedVariables false
theorem own : ownKnob Try.prog.godebug = none := by kernel_rfl
theorem posok : posB Go.Ev.Try.tab = true := by kernel_rfl
theorem laidOut : laidOutB Try.prog = true := by kernel_rfl
set_option maxRecDepth 100000 in
theorem lifted (os : Os) (started : os.Started) (H : Type) (enc : TypeId × Value → H) :
    ReturnsInHanded {} Try.checked os 13 .any (Rows.fnAppendedSpec.pre6 enc Try.prog Try.f13 Rows.fnAppendedRow.domain false) (Rows.fnAppendedSpec.post enc Try.prog Try.f13 false true false false) := by
  refine returnsInHanded_of_change_sized (C := Try.checked) own started (by kernel_rfl) Try.func13
    (ChangeSpec.witness6 (enc := enc) (C := Try.checked) false ⟨#[], #[.slice none 0 0], []⟩ 8 (by kernel_rfl) (by kernel_rfl) (by kernel_rfl) (by kernel_rfl)) ?_
  intro W base args ds gs before hval0 hW hcnd hsz0 _
  have hsz : (DataW.weightsEach Try.prog (Try.f13.params.toList ++ Rows.fnAppendedSpec.plain.varTypes Try.prog) (ds ++ gs)).all (· ≤ reachBytes) = true := hsz0
  have hval : ∀ (j : Nat) t v, Try.f13.params[j]? = some t → args[j]? = some v → Value.okWide Try.prog W .any base t v := hval0
  have hW' := hW
  obtain ⟨p, q, hA0, hV, rfl, hfz, hnd⟩ := hW
  have hA : DataW.TrodAll enc Try.prog W 0 (fun _ => true) true Try.f13.params.toList args.toList ds p := hA0
  rw [Try.params13] at hA hval hsz
  obtain ⟨rfl, rfl⟩ := trodVars_none hV
  have hcall := fun hl => law_row Go.Ev.Try.tabok posok Go.Ev.Try.laws_FnAppended.good rfl (by kernel_rfl)
    (fun x hx => ⟨true, Go.Pl.FnAppended_true x hx, rfl⟩) (ts := [22]) (by rfl) hA (fun j t v hj hv => hval j t v (by simpa using hj) hv) (.inr rfl) hsz hl
  obtain ⟨v0, vs0, d0, ds0, p0, q0, hargs0, rfl, rfl, h0, r0⟩ := trodAll_cons hA
  obtain ⟨rfl, rfl, rfl⟩ := trodAll_nil r0
  obtain rfl : args = #[v0] := by cases args; simp_all
  refine (hcall rfl).mono fun e W' ⟨he, bel⟩ => ?_
  subst he
  have hlt0 : ∀ x ∈ p0, x.block < W.heap.size := fun x hx => by simpa using hW'.lt x (by simp [hx])
  exact ⟨_, rfl, _, _, _, [], _, [], hW', trodAll_mk1 (shut_bool Try.underlying4 _), (trodAll_cons_mk (Below.trod laidOut (by kernel_rfl) (of_decide_eq_true (by kernel_rfl)) h0 bel hlt0) trodAll_mk0), rfl, bel.frame _, fun h => by cases h⟩
theorem over : Rows.fnAppendedRow.holds Try.pinned (OpenSpec.ofChange Rows.fnAppendedSpec) :=
  OpenClaim.holds_of_wide 13 Try.f13 rfl rfl rfl rfl rfl rfl rfl ⟨rfl, rfl, rfl, rfl, rfl⟩ rfl rfl rfl rfl rfl (by kernel_rfl) Try.func13 (by kernel_rfl)
    (of_decide_eq_true (by kernel_rfl)) (by unfold Func.isWrapper; first | (rw [if_pos (by decide +kernel)]; kernel_rfl) | (rw [if_neg (by decide +kernel)]; exact ⟨rfl, rfl⟩))
    (fun os started H enc _ => lifted os started H enc)
theorem proved : Rows.FnAppendedSaid := over
end Go.Proofs.Ytoghdlpojjplcaa.fnAppended
namespace Go.Proofs.Ytoghdlpojjplcaa
theorem fnAppended_holds : Rows.FnAppendedSaid := fnAppended.proved
end Go.Proofs.Ytoghdlpojjplcaa
