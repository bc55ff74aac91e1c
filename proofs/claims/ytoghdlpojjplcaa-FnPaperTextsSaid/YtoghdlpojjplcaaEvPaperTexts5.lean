/- Part 5 of what the law FnPaperTexts stands on: an evaluator of the model's code, proved sound; the functions as plain texts; their contracts. -/
import Derived.Test.YtoghdlpojjplcaaChecked
import Derived.Test.YtoghdlpojjplcaaProg
import Derived.Test.YtoghdlpojjplcaaRows
import Derived.Below
import Derived.Calls
import Derived.Carry
import Derived.ChangeArms
import Derived.ChangeKeysEq
import Derived.ChangeOld
import Derived.Deep.Quiet
import Derived.KernelRfl
import Derived.Laws.Append
import Derived.Laws.BytesString
import Derived.Laws.MakeOwn
import Derived.Laws.Strings
import Derived.Laws.StructEq
import Derived.OpenShut
import Derived.OrdersHeld
import Derived.ProofKit
import Derived.ShutString
import Derived.SizedLaws
import Derived.Tactics
import Derived.WalkKit
import Derived.WideShapes
import Derived.Test.YtoghdlpojjplcaaEvPaperTexts4
namespace Go.Pl
open Go.Ev
set_option linter.unusedVariables false
set_option linter.unusedSimpArgs false
theorem getB_mem {xs : List ByteArray} {i : Nat} (h : i < xs.length) : xs.getD i ByteArray.empty ∈ xs := by
  rw [List.getD_eq_getElem?_getD, List.getElem?_eq_getElem h]; exact List.getElem_mem h
def names6 : List ByteArray := [(⟨#[97, 115, 116, 101, 114]⟩ : ByteArray), (⟨#[99, 111, 109, 101, 116]⟩ : ByteArray), (⟨#[100, 97, 104, 108, 105, 97]⟩ : ByteArray), (⟨#[112, 97, 108, 109]⟩ : ByteArray), (⟨#[112, 101, 111, 110, 121]⟩ : ByteArray), (⟨#[119, 105, 108, 108, 111, 119]⟩ : ByteArray)]
theorem names_f : spec_l03Names.f = some names6 := rfl
theorem names6_len : names6.length = 6 := rfl
theorem names6_sm : ∀ c ∈ names6, Sm c := by
  intro c hc
  unfold names6 at hc
  simp only [List.mem_cons, List.not_mem_nil, or_false] at hc
  unfold Sm
  rcases hc with h | h | h | h | h | h <;> (rw [h]; exact Nat.le_of_ble_eq_true rfl)
theorem good01_ok {s : List Int × Int × Int} (hs : SrcOk s) : ∃ u s', spec_l01Good.f s = some (u, s') ∧ SrcOk s' ∧ Sm u := by
  unfold spec_l01Good.f spec_l01Good.fn spec_l01Good.top
  obtain ⟨a, s1, e1, o1, a0, a1⟩ := next_ok hs 12 (by omega)
  rw [e1]
  simp only [Option.bind_some]
  rw [if_pos ⟨a0, by simp only [List.length_cons, List.length_nil]; omega⟩]
  refine ⟨_, _, rfl, o1, ?_⟩
  have hm := getB_mem (xs := [(⟨#[97, 100, 97]⟩ : ByteArray), (⟨#[98, 114, 117, 110, 111]⟩ : ByteArray), (⟨#[99, 108, 97, 114, 97]⟩ : ByteArray), (⟨#[100, 111, 114, 97]⟩ : ByteArray), (⟨#[101, 109, 105, 108]⟩ : ByteArray), (⟨#[102, 114, 105, 100, 97]⟩ : ByteArray), (⟨#[103, 117, 115, 116, 97, 118]⟩ : ByteArray), (⟨#[104, 97, 110, 110, 97]⟩ : ByteArray), (⟨#[105, 118, 97, 110]⟩ : ByteArray), (⟨#[106, 97, 110, 97]⟩ : ByteArray), (⟨#[107, 97, 114, 108]⟩ : ByteArray), (⟨#[108, 101, 110, 97]⟩ : ByteArray)]) (i := a.toNat) (by simp only [List.length_cons, List.length_nil]; omega)
  revert hm
  generalize List.getD _ a.toNat ByteArray.empty = c
  intro hc
  simp only [List.mem_cons, List.not_mem_nil, or_false] at hc
  unfold Sm
  rcases hc with h | h | h | h | h | h | h | h | h | h | h | h <;> (rw [h]; exact Nat.le_of_ble_eq_true rfl)
theorem drawWord_ok {s : List Int × Int × Int} (hs : SrcOk s) : ∃ u s', spec_l01DrawWord.f s = some (u, s') ∧ SrcOk s' ∧ Sm u := by
  unfold spec_l01DrawWord.f spec_l01DrawWord.fn spec_l01DrawWord.top
  obtain ⟨a, s1, e1, o1, a0, a1⟩ := next_ok hs 24 (by omega)
  obtain ⟨b, s2, e2, o2, b0, b1⟩ := next_ok o1 6 (by omega)
  obtain ⟨u, s3, e3, o3, u1⟩ := good01_ok o1
  rw [e1]
  simp only [Option.bind_some, e2, e3]
  split
  · rw [if_pos ⟨b0, by simp only [List.length_cons, List.length_nil]; omega⟩]
    refine ⟨_, _, rfl, o2, ?_⟩
    have hm := getB_mem (xs := [(⟨#[]⟩ : ByteArray), (⟨#[65, 100, 97]⟩ : ByteArray), (⟨#[97, 49]⟩ : ByteArray), (⟨#[97, 98, 99, 100, 101, 102, 103, 104, 105, 106, 107, 108, 109, 110, 111, 112]⟩ : ByteArray), (⟨#[97, 98, 99, 100, 101, 102, 103, 104, 105, 106, 107, 108, 109, 110, 111, 112, 113]⟩ : ByteArray), (⟨#[97, 32, 98]⟩ : ByteArray)]) (i := b.toNat) (by simp only [List.length_cons, List.length_nil]; omega)
    revert hm
    generalize List.getD _ b.toNat ByteArray.empty = c
    intro hc
    simp only [List.mem_cons, List.not_mem_nil, or_false] at hc
    unfold Sm
    rcases hc with h | h | h | h | h | h <;> (rw [h]; exact Nat.le_of_ble_eq_true rfl)
  · exact ⟨_, _, rfl, o3, u1⟩
theorem mkB {a c : Int} {n : ByteArray} (h1 : -9223372036854775808 ≤ a ∧ a ≤ 9223372036854775807) (h2 : Sm n) (h3 : -9223372036854775808 ≤ c ∧ c ≤ 9223372036854775807) : OkBooking (a, n, c) := ⟨wf64.2 h1, h2, wf64.2 h3⟩
theorem bookR_zero {xs : List (Int × ByteArray × Int)} {b : Int × ByteArray × Int} (h : (bookR xs b).2 = 0) : booksB xs = true ∧ (bookR xs b).1 = xs ++ [b] ∧ booksB (xs ++ [b]) = true := by
  unfold bookR at h ⊢
  by_cases h1 : booksB xs = true
  · rw [if_pos h1] at h ⊢
    by_cases h2 : xs.length = 60
    · rw [if_pos h2] at h; simp at h
    · rw [if_neg h2] at h ⊢
      by_cases h3 : booksB (xs ++ [b]) = true
      · rw [if_pos h3]; exact ⟨h1, rfl, h3⟩
      · rw [if_neg h3] at h; simp at h
  · rw [if_neg h1] at h; simp at h
theorem bookR_one (xs : List (Int × ByteArray × Int)) (b : Int × ByteArray × Int) : ((bookR xs b).2 != 1) = booksB xs := by
  unfold bookR
  cases h1 : booksB xs
  · rfl
  · by_cases h2 : xs.length = 60
    · simp [h2]
    · by_cases h3 : booksB (xs ++ [b]) = true
      · simp [h2, h3]
      · simp [h2, h3]
theorem good32_l : ∀ (d k : Nat) (s : List Int × Int × Int) (out : List (Int × ByteArray × Int)), d < k → d ≤ 1000 → SrcOk s → booksB out = true → Lm OkBooking out →
    ∃ o' s', spec_l32Good.l4 NN k d s out names6 = some (o', s') ∧ SrcOk s' ∧ booksB o' = true ∧ Lm OkBooking o' := by
  intro d
  induction d with
  | zero =>
    intro k s out hk _ hs hb hl
    obtain ⟨k, rfl⟩ : ∃ j, k = j + 1 := ⟨k - 1, by omega⟩
    exact ⟨out, s, by simp [spec_l32Good.l4, spec_l32Good.g4], hs, hb, hl⟩
  | succ d ih =>
    intro k s out hk hd hs hb hl
    obtain ⟨k, rfl⟩ : ∃ j, k = j + 1 := ⟨k - 1, by omega⟩
    obtain ⟨a, s1, e1, o1, a0, a1⟩ := next_ok hs 4 (by omega)
    obtain ⟨c, s2, e2, o2, c0, c1⟩ := next_ok o1 4 (by omega)
    obtain ⟨n, s3, e3, o3, n0, n1⟩ := next_ok o2 12 (by omega)
    obtain ⟨f, s4, e4, o4, f0, f1⟩ := next_ok o3 2 (by omega)
    have hv := booksB_val hb
    have hc : c < (names6.length : Int) := by rw [names6_len]; omega
    have hm := names6_sm _ (getB_mem (show c.toNat < names6.length by rw [names6_len]; omega))
    have hleft := leftOf_le (names6.getD c.toNat ByteArray.empty) out hv.1
    have z := l32Left_all out (names6.getD c.toNat ByteArray.empty) hv.1 (by omega)
    have hv2 := hv.2
    have w1 : IntKind.i64.wrap (((d + 1 : Nat) : Int) - 1) = (d : Int) := by rw [w64 (by omega) (by omega)]; omega
    have w2 := w64 (n := 1 + n) (by omega) (by omega)
    have bk : ∀ (b : Int × ByteArray × Int) (s' : List Int × Int × Int), OkBooking b → SrcOk s' → ∃ o' s'', ((spec_BookPieces.f out b).bind fun r => if ((r.2 : Int) == 0) = true then spec_l32Good.l4 NN k d s' r.1 names6 else spec_l32Good.l4 NN k d s' out names6) = some (o', s'') ∧ SrcOk s'' ∧ booksB o' = true ∧ Lm OkBooking o' := by
      intro b s' hb' hs'
      rw [spec_BookPieces_f out b hl hb']
      simp only [Option.bind_some]
      by_cases h0 : (bookR out b).2 = 0
      · rw [if_pos (by rw [h0]; rfl)]
        have := bookR_zero h0
        exact ih k s' _ (by omega) (by omega) hs' (by rw [this.2.1]; exact this.2.2) (bookR_ok out b hl hb')
      · rw [if_neg (by simpa using h0)]
        exact ih k s' out (by omega) (by omega) hs' hb hl
    simp only [spec_l32Good.l4, spec_l32Good.g4, show (0 : Int) < ((d + 1 : Nat) : Int) from by omega, decide_true, if_true, e1, e2, e3, e4, z, hc, c0, and_self, Option.bind_some, w1, w2]
    generalize names6.getD c.toNat ByteArray.empty = nm at hm hleft
    generalize leftOf out nm = lf at hleft
    have hmin : -9223372036854775808 ≤ (if lf < 1000 then lf else 1000) ∧ (if lf < 1000 then lf else 1000) ≤ 9223372036854775807 := by split <;> omega
    generalize (if lf < 1000 then lf else 1000) = mn at hmin
    by_cases h1 : 0 < a
    · by_cases h2 : 0 < lf
      · have f4 : (lf == 0) = false := by rw [beq_eq_false_iff_ne]; omega
        by_cases h3 : f = 0
        · have f3 : (f == 0) = true := by rw [h3]; rfl
          simp only [decide_eq_true h1, decide_eq_true h2, f3, f4, if_true, Bool.false_eq_true, if_false]
          exact bk (a, nm, mn) s4 (mkB (by omega) hm hmin) o4
        · have f3 : (f == 0) = false := by rw [beq_eq_false_iff_ne]; exact h3
          simp only [decide_eq_true h1, decide_eq_true h2, f3, f4, if_true, Bool.false_eq_true, if_false]
          exact bk (a, nm, 1 + n) s4 (mkB (by omega) hm (by omega)) o4
      · by_cases h4 : lf = 0
        · have f4 : (lf == 0) = true := by rw [h4]; rfl
          simp only [decide_eq_true h1, decide_eq_false h2, f4, if_true, Bool.false_eq_true, if_false]
          exact bk (0, nm, 1 + n) s3 (mkB (by omega) hm (by omega)) o3
        · have f4 : (lf == 0) = false := by rw [beq_eq_false_iff_ne]; exact h4
          simp only [decide_eq_true h1, decide_eq_false h2, f4, if_true, Bool.false_eq_true, if_false]
          exact bk (a, nm, 1 + n) s3 (mkB (by omega) hm (by omega)) o3
    · by_cases h4 : lf = 0
      · have f4 : (lf == 0) = true := by rw [h4]; rfl
        simp only [decide_eq_false h1, f4, if_true, Bool.false_eq_true, if_false]
        exact bk (0, nm, 1 + n) s3 (mkB (by omega) hm (by omega)) o3
      · have f4 : (lf == 0) = false := by rw [beq_eq_false_iff_ne]; exact h4
        simp only [decide_eq_false h1, f4, if_true, Bool.false_eq_true, if_false]
        exact bk (a, nm, 1 + n) s3 (mkB (by omega) hm (by omega)) o3
theorem good32_ok {s : List Int × Int × Int} (hs : SrcOk s) : ∃ o s', spec_l32Good.f s = some (o, s') ∧ SrcOk s' ∧ booksB o = true ∧ Lm OkBooking o := by
  unfold spec_l32Good.f spec_l32Good.fn spec_l32Good.top
  obtain ⟨n, s1, e1, o1, n0, n1⟩ := next_ok hs 10 (by omega)
  obtain ⟨N, hN⟩ := Int.eq_ofNat_of_zero_le n0
  subst hN
  simp only [names_f, e1, Option.bind_some]
  exact good32_l N NN s1 [] (NN_lt (by omega)) (by omega) o1 rfl ⟨by simp, by simp⟩
theorem draw32_l : ∀ (d k : Nat) (s : List Int × Int × Int) (out : List (Int × ByteArray × Int)), out.length + d = 62 → d < k → SrcOk s → Lm OkBooking out →
    ∃ o s', spec_l32Draw.l6 NN k s out = some (o, s') ∧ SrcOk s' ∧ Lm OkBooking o := by
  intro d
  induction d with
  | zero =>
    intro k s out hd hk hs hl
    obtain ⟨k, rfl⟩ : ∃ j, k = j + 1 := ⟨k - 1, by omega⟩
    obtain ⟨a, s1, e1, o1, a0, a1⟩ := next_ok hs 2 (by omega)
    have w := w64 (n := 60 + a) (by omega) (by omega)
    have n1 : ¬ (out.length : Int) < 60 + a := by omega
    simp only [spec_l32Draw.l6, spec_l32Draw.g6, e1, Option.bind_some, w, n1, decide_false, Bool.false_eq_true, if_false]
    exact ⟨_, _, rfl, o1, hl⟩
  | succ d ih =>
    intro k s out hd hk hs hl
    obtain ⟨k, rfl⟩ : ∃ j, k = j + 1 := ⟨k - 1, by omega⟩
    obtain ⟨a, s1, e1, o1, a0, a1⟩ := next_ok hs 2 (by omega)
    have w := w64 (n := 60 + a) (by omega) (by omega)
    by_cases n1 : (out.length : Int) < 60 + a
    · simp only [spec_l32Draw.l6, spec_l32Draw.g6, e1, Option.bind_some, w, n1, decide_true, if_true]
      rw [if_pos (by rw [room32]; simp; omega)]
      exact ih k s1 _ (by simp; omega) (by omega) o1 (ok_snoc hl (mkB (by omega) (Nat.le_of_ble_eq_true rfl) (by omega)) (by omega))
    · simp only [spec_l32Draw.l6, spec_l32Draw.g6, e1, Option.bind_some, w, n1, decide_false, Bool.false_eq_true, if_false]
      exact ⟨_, _, rfl, o1, hl⟩
theorem draw32_ok {s : List Int × Int × Int} (hs : SrcOk s) : ∃ o s', spec_l32Draw.f s = some (o, s') ∧ SrcOk s' ∧ Lm OkBooking o := by
  unfold spec_l32Draw.f spec_l32Draw.fn spec_l32Draw.top
  obtain ⟨o, s1, e1, o1, b1, l1⟩ := good32_ok hs
  have hv := (booksB_val b1).2
  obtain ⟨x, s2, e2, o2, x0, x1⟩ := next_ok o1 30 (by omega)
  obtain ⟨y, s3, e3, o3, y0, y1⟩ := next_ok o2 6 (by omega)
  obtain ⟨u, s4, e4, o4, u1⟩ := drawWord_ok o3
  obtain ⟨c, s5, e5, o5, c1⟩ := pick_ok o4 [0, 1, 1000, 1001] (by simp) (by simp)
  have hc : 0 ≤ c ∧ c ≤ 1001 := by simp at c1; omega
  have w := w64 (n := y - 1) (by omega) (by omega)
  simp only [e1, e2, e3, e4, e5, Option.bind_some, w]
  by_cases h0 : x = 0
  · simp only [h0, beq_self_eq_true, if_true]
    rw [if_pos (by rw [room32]; simp; omega)]
    exact ⟨_, _, rfl, o5, ok_snoc l1 (mkB (by omega) u1 (by omega)) (by omega)⟩
  · by_cases h1 : x = 1
    · simp only [h1, beq_iff_eq, show ¬ (1 : Int) = 0 from by omega, if_true, if_false]
      exact draw32_l (62 - o.length) NN s2 o (by omega) (NN_lt (by omega)) o2 l1
    · by_cases h2 : x = 2
      · simp only [h2, beq_iff_eq, show ¬ (2 : Int) = 0 from by omega, show ¬ (2 : Int) = 1 from by omega, if_true, if_false]
        rw [if_pos (by rw [room32]; simp; omega)]
        refine ⟨_, _, rfl, o2, ?_⟩
        have q1 := ok_snoc l1 (mkB (a := 0) (n := (⟨#[97, 115, 116, 101, 114]⟩ : ByteArray)) (c := 1000) (by omega) (Nat.le_of_ble_eq_true rfl) (by omega)) (by omega)
        have q2 := ok_snoc q1 (mkB (a := 0) (n := (⟨#[97, 115, 116, 101, 114]⟩ : ByteArray)) (c := 700) (by omega) (Nat.le_of_ble_eq_true rfl) (by omega)) (by simp; omega)
        rw [List.append_assoc] at q2
        exact q2
      · simp only [h0, h1, h2, beq_iff_eq, if_false]
        exact ⟨_, _, rfl, o2, l1⟩
theorem drawBook_ok {code : List Int} (h : CodeOk code) : ∃ o b, spec_DrawBookPieces.f code = some (o, b) ∧ Lm OkBooking o ∧ OkBooking b := by
  unfold spec_DrawBookPieces.f spec_DrawBookPieces.fn spec_DrawBookPieces.top
  obtain ⟨s, e, ho⟩ := from_ok h
  obtain ⟨o, s1, e1, o1, l1⟩ := draw32_ok ho
  obtain ⟨x, s2, e2, o2, x0, x1⟩ := next_ok o1 4 (by omega)
  obtain ⟨y, s3, e3, o3, y0, y1⟩ := next_ok o2 5 (by omega)
  obtain ⟨m, s4, e4, o4, m0, m1⟩ := next_ok o3 12 (by omega)
  obtain ⟨n, s5, e5, o5, n0, n1⟩ := next_ok o4 4 (by omega)
  have w1 := w64 (n := 1 + m) (by omega) (by omega)
  have w2 := w64 (n := 1 + n) (by omega) (by omega)
  obtain ⟨c, s6, e6, o6, c1⟩ := pick_ok o5 [1 + m, 1, 1000, 1001, 1 + n] (by simp) (by simp)
  have hc : 0 ≤ c ∧ c ≤ 1001 := by simp at c1; omega
  have hy : y < (names6.length : Int) := by rw [names6_len]; omega
  have hm := names6_sm _ (getB_mem (show y.toNat < names6.length by rw [names6_len]; omega))
  simp only [e, e1, e2, e3, e4, e5, w1, w2, e6, names_f, Option.bind_some, y0, hy, and_self, if_true]
  exact ⟨_, _, rfl, l1, mkB (by omega) hm (by omega)⟩
theorem drawPieces_ok {code : List Int} (h : CodeOk code) : ∃ o b, spec_DrawPiecesLeft.f code = some (o, b) ∧ Lm OkBooking o ∧ Sm b := by
  unfold spec_DrawPiecesLeft.f spec_DrawPiecesLeft.fn spec_DrawPiecesLeft.top
  obtain ⟨s, e, ho⟩ := from_ok h
  obtain ⟨o, s1, e1, o1, l1⟩ := draw32_ok ho
  obtain ⟨x, s2, e2, o2, x0, x1⟩ := next_ok o1 16 (by omega)
  obtain ⟨u, s3, e3, o3, u1⟩ := drawWord_ok o2
  obtain ⟨y, s4, e4, o4, y0, y1⟩ := next_ok o2 5 (by omega)
  have hy : y < (names6.length : Int) := by rw [names6_len]; omega
  have hm := names6_sm _ (getB_mem (show y.toNat < names6.length by rw [names6_len]; omega))
  simp only [e, e1, e2, e3, e4, names_f, Option.bind_some, y0, hy, and_self, if_true]
  split
  · exact ⟨_, _, rfl, l1, u1⟩
  · exact ⟨_, _, rfl, l1, hm⟩
theorem likeBookings_self (a : List (Int × ByteArray × Int)) (hl : a.length ≤ 140737488355328) : laws_likeBookings.f a a = some true := by
  unfold laws_likeBookings.f laws_likeBookings.fn laws_likeBookings.top
  simp only [bne_self_eq_false, Bool.false_eq_true, if_false]
  refine eqS_loop (E := fun _ => True) (fun k a b i => laws_likeBookings.l4 NN k a b i) a (fun _ _ => trivial) ?_ ?_ NN (NN_lt (by omega))
  · intro k p x r hx ha
    subst ha
    have hm := mid_len p r x
    have c1 : (p.length : Int) < ((p ++ x :: r).length : Int) := by omega
    have c0 : (0 : Int) ≤ (p.length : Int) := by omega
    have cw := w64 (n := (p.length : Int) + 1) (by omega) (by omega)
    simp only [laws_likeBookings.l4, laws_likeBookings.g4, c0, c1, cw, and_self, and_true, true_and, decide_true, decide_false, if_true, if_false, mid_get, mid_set, mid_getn, mid_setn, bt_mid, Option.bind_some, Bool.not_true, Bool.not_false, Bool.false_eq_true, Bool.true_eq_false, beq_self_eq_true, bne_self_eq_false, Int.toNat_natCast]
    simp
  · intro k
    simp [laws_likeBookings.l4, laws_likeBookings.g4]
theorem leftOf_nonneg : ∀ (r p : List (Int × ByteArray × Int)) (a : ByteArray), okFrom p r = true → 0 ≤ leftOf p a → 0 ≤ leftOf (p ++ r) a := by
  intro r
  induction r with
  | nil => intro p a _ h; rwa [List.append_nil]
  | cons b r ih =>
    intro p a h hp
    simp only [okFrom, Bool.and_eq_true, decide_eq_true_eq] at h
    have := ih (p ++ [b]) a h.2 (by
      by_cases ha : b.2.1 = a
      · rw [← ha]; exact h.1.2
      · rw [leftOf_snoc]; unfold addL; rw [if_neg ha]; exact hp)
    rwa [List.append_assoc] at this
theorem tot0_mono (a : ByteArray) : ∀ (r p : List (Int × ByteArray × Int)), (∀ b ∈ p ++ r, valB b = true) → (totL p a).getD 0 0 ≤ (totL (p ++ r) a).getD 0 0 := by
  intro r
  induction r with
  | nil => intro p _; rw [List.append_nil]; exact Int.le_refl _
  | cons b r ih =>
    intro p h
    have h1 := ih (p ++ [b]) (by rw [List.append_assoc]; exact h)
    rw [List.append_assoc] at h1
    refine Int.le_trans ?_ h1
    have hv := valB_count (h b (by simp))
    obtain ⟨t0, t1, t2, t3, q1, q2⟩ := totL_shape a p (fun x hx => h x (by simp [hx]))
    rw [totL_snoc, q1]
    unfold addT
    split
    · obtain h | h | h | h : b.1 = 0 ∨ b.1 = 1 ∨ b.1 = 2 ∨ b.1 = 3 := by omega
      all_goals (rw [h]; simp)
      omega
    · exact Int.le_refl _
theorem left_tot0 (xs : List (Int × ByteArray × Int)) (a : ByteArray) (h : ∀ b ∈ xs, valB b = true) (n : Nat) : leftOf (xs.take n) a ≤ (totL xs a).getD 0 0 := by
  have h1 := tot0_mono a (xs.drop n) (xs.take n) (by rw [List.take_append_drop]; exact h)
  rw [List.take_append_drop] at h1
  obtain ⟨t0, t1, t2, t3, q1, q2, q3, q4, q5, q6, q7⟩ := totL_shape a (xs.take n) (fun x hx => h x (List.mem_of_mem_take hx))
  rw [q1] at h1
  have : ([t0, t1, t2, t3] : List Int).getD 0 0 = t0 := rfl
  rw [this] at h1
  omega
theorem most_le (xs : List (Int × ByteArray × Int)) (a : ByteArray) (h : ∀ b ∈ xs, valB b = true) (B : Int) (hB : ∀ n, leftOf (xs.take n) a ≤ B) : ∀ (r : List (Int × ByteArray × Int)) (i : Nat) (st : Int), st ≤ B → foldi (fun i st (_ : Int × ByteArray × Int) => mostF xs a i st) i st r ≤ B := by
  intro r
  induction r with
  | nil => intro i st hs; exact hs
  | cons b r ih =>
    intro i st hs
    refine ih (i + 1) _ ?_
    have := hB (i + 1)
    show mostF xs a i st ≤ B
    unfold mostF; split <;> omega
theorem most_ge (xs : List (Int × ByteArray × Int)) (a : ByteArray) : ∀ (r : List (Int × ByteArray × Int)) (i : Nat) (st : Int), st ≤ foldi (fun i st (_ : Int × ByteArray × Int) => mostF xs a i st) i st r ∧ (0 < r.length → leftOf (xs.take (i + r.length)) a ≤ foldi (fun i st (_ : Int × ByteArray × Int) => mostF xs a i st) i st r) := by
  intro r
  induction r with
  | nil => intro i st; exact ⟨Int.le_refl _, fun h => by simp at h⟩
  | cons b r ih =>
    intro i st
    have h1 := ih (i + 1) (mostF xs a i st)
    have h2 : st ≤ mostF xs a i st ∧ leftOf (xs.take (i + 1)) a ≤ mostF xs a i st := by unfold mostF; split <;> omega
    refine ⟨Int.le_trans h2.1 h1.1, fun _ => ?_⟩
    cases r with
    | nil => exact Int.le_trans h2.2 h1.1
    | cons c r =>
      have := h1.2 (by simp)
      rw [show i + (b :: c :: r).length = i + 1 + (c :: r).length by simp only [List.length_cons]; omega]
      exact this
theorem most_bd (xs : List (Int × ByteArray × Int)) (a : ByteArray) (h : booksB xs = true) : 0 ≤ leftOf xs a ∧ leftOf xs a ≤ mostL xs a ∧ mostL xs a ≤ (totL xs a).getD 0 0 := by
  have hv := booksB_val h
  have hok : okFrom [] xs = true := by
    unfold booksB at h
    simp only [Bool.and_eq_true] at h
    exact h.2
  have h0 := leftOf_nonneg xs [] a hok (Int.le_refl 0)
  rw [List.nil_append] at h0
  have ht := left_tot0 xs a hv.1
  refine ⟨h0, ?_, ?_⟩
  · have := most_ge xs a xs 0 0
    unfold mostL
    cases xs with
    | nil => exact Int.le_refl 0
    | cons b r =>
      have h2 := this.2 (by simp)
      rw [Nat.zero_add, List.take_length] at h2
      exact h2
  · unfold mostL
    refine most_le xs a hv.1 _ ht xs 0 0 ?_
    have := ht 0
    rw [List.take_zero] at this
    exact this
end Go.Pl

namespace Go.Pl
open Go.Ev
set_option linter.unusedVariables false
set_option linter.unusedSimpArgs false
theorem damage_ok {s : List Int × Int × Int} (hs : SrcOk s) (t : ByteArray) (ht : t.size ≤ 1000000) : ∃ u s', spec_l01Damage.f s t = some (u, s') ∧ SrcOk s' ∧ u.size ≤ t.size + 1 := by
  unfold spec_l01Damage.f spec_l01Damage.fn spec_l01Damage.top
  rw [w64 (n := (t.size : Int) + 1) (by omega) (by omega)]
  obtain ⟨k, s1, e1, o1, k0, k1⟩ := next_ok hs ((t.size : Int) + 1) (by omega)
  obtain ⟨x, s2, e2, o2, x0, x1⟩ := next_ok o1 8 (by omega)
  obtain ⟨y, s3, e3, o3, y0, y1⟩ := next_ok o2 8 (by omega)
  have hk : k ≤ (t.size : Int) := by omega
  have z1 : ∀ a b : Nat, (t.extract a b).size ≤ b - a := fun a b => by rw [ByteArray.size_extract]; omega
  have za := z1 0 k.toNat
  have zb := z1 k.toNat t.size
  simp only [e1, e2, Option.bind_some, k0, hk, and_self, if_true]
  by_cases hx0 : x = 0
  · subst hx0
    simp only [beq_self_eq_true, if_true]
    exact ⟨_, _, rfl, o2, by omega⟩
  · have b0 : (x == 0) = false := by rw [beq_eq_false_iff_ne]; exact hx0
    simp only [b0, Bool.false_eq_true, if_false]
    by_cases hx1 : x = 1
    · subst hx1
      simp only [beq_self_eq_true, if_true, e3, Option.bind_some]
      have hy : y < 8 := by omega
      have hlit : ∀ i : Nat, (([(⟨#[48]⟩ : ByteArray), (⟨#[35]⟩ : ByteArray), (⟨#[46]⟩ : ByteArray), (⟨#[47]⟩ : ByteArray), (⟨#[32]⟩ : ByteArray), (⟨#[97]⟩ : ByteArray), (⟨#[45]⟩ : ByteArray), (⟨#[10]⟩ : ByteArray)]).getD i ByteArray.empty).size ≤ 1 := by
        intro i
        match i with
        | 0 | 1 | 2 | 3 | 4 | 5 | 6 | 7 => exact Nat.le_refl 1
        | n + 8 => exact Nat.zero_le 1
      have hl := hlit y.toNat
      rw [if_pos ⟨y0, by simp only [List.length_cons, List.length_nil]; omega⟩, if_pos (by omega), if_pos (by rw [ByteArray.size_append]; omega)]
      exact ⟨_, _, rfl, o3, by rw [ByteArray.size_append, ByteArray.size_append]; omega⟩
    · have b1 : (x == 1) = false := by rw [beq_eq_false_iff_ne]; exact hx1
      simp only [b1, Bool.false_eq_true, if_false]
      by_cases hx2 : x = 2
      · subst hx2
        simp only [beq_self_eq_true, if_true, decide_eq_true_eq]
        by_cases hlt : k < (t.size : Int)
        · have w1 := w64 (n := k + 1) (by omega) (by omega)
          have zc := z1 (k + 1).toNat t.size
          simp only [hlt, if_true, w1]
          rw [if_pos ⟨by omega, by omega⟩, if_pos (by omega)]
          exact ⟨_, _, rfl, o2, by rw [ByteArray.size_append]; omega⟩
        · simp only [hlt, if_false]
          exact ⟨_, _, rfl, o2, by omega⟩
      · have b2 : (x == 2) = false := by rw [beq_eq_false_iff_ne]; exact hx2
        simp only [b2, Bool.false_eq_true, if_false]
        exact ⟨_, _, rfl, o2, by omega⟩
end Go.Pl

namespace Go.Pl
open Go.Ev
set_option linter.unusedVariables false
set_option linter.unusedSimpArgs false
theorem likeLines_self (a : List (ByteArray × Int)) (hl : a.length ≤ 140737488355328) : laws_likeLines.f a a = some true := by
  unfold laws_likeLines.f laws_likeLines.fn laws_likeLines.top
  simp only [bne_self_eq_false, Bool.false_eq_true, if_false]
  refine eqS_loop (E := fun _ => True) (fun k a b i => laws_likeLines.l4 NN k a b i) a (fun _ _ => trivial) ?_ ?_ NN (NN_lt (by omega))
  · intro k p x r hx ha
    subst ha
    have hm := mid_len p r x
    have c1 : (p.length : Int) < ((p ++ x :: r).length : Int) := by omega
    have c0 : (0 : Int) ≤ (p.length : Int) := by omega
    have cw := w64 (n := (p.length : Int) + 1) (by omega) (by omega)
    simp only [laws_likeLines.l4, laws_likeLines.g4, c0, c1, cw, and_self, and_true, true_and, decide_true, decide_false, if_true, if_false, mid_get, mid_set, mid_getn, mid_setn, bt_mid, Option.bind_some, Bool.not_true, Bool.not_false, Bool.false_eq_true, Bool.true_eq_false, beq_self_eq_true, bne_self_eq_false, Int.toNat_natCast]
    simp
  · intro k
    simp [laws_likeLines.l4, laws_likeLines.g4]
theorem likePaper_self (p : ByteArray × Int × List (ByteArray × Int)) (hl : p.2.2.length ≤ 140737488355328) : laws_likePaper.f p p = some true := by
  unfold laws_likePaper.f laws_likePaper.fn laws_likePaper.top
  simp only [beq_self_eq_true, if_true, likeLines_self _ hl, Option.bind_some]
/-- a drawn paper -/
def PapS (p : ByteArray × Int × List (ByteArray × Int)) : Prop := p.1.size ≤ 1000 ∧ (-1 ≤ p.2.1 ∧ p.2.1 ≤ 100001) ∧ p.2.2.length ≤ 30 ∧ ∀ l ∈ p.2.2, Sm l.1 ∧ 0 ≤ l.2 ∧ l.2 ≤ 1001
theorem papS_ok {p : ByteArray × Int × List (ByteArray × Int)} (h : PapS p) : OkPaper p := by
  obtain ⟨h1, h2, h3, h4⟩ := h
  refine ⟨Nat.le_trans h1 (by omega), wf64.2 (by omega), by omega, fun l hl => ⟨(h4 l hl).1, wf64.2 (by have := h4 l hl; omega)⟩⟩
theorem names6_szs : ∀ c ∈ names6, c.size ≤ 10 := by
  intro c hc
  unfold names6 at hc
  simp only [List.mem_cons, List.not_mem_nil, or_false] at hc
  rcases hc with h | h | h | h | h | h <;> (rw [h]; exact Nat.le_of_ble_eq_true rfl)
/-- a drawn good paper -/
def PapG (p : ByteArray × Int × List (ByteArray × Int)) : Prop := p.1.size ≤ 10 ∧ (0 ≤ p.2.1 ∧ p.2.1 ≤ 1000) ∧ p.2.2.length ≤ 6 ∧ ∀ l ∈ p.2.2, l.1.size ≤ 10 ∧ 0 ≤ l.2 ∧ l.2 ≤ 1000
theorem good29_l (a : ByteArray) (b : Int) (v : ByteArray) (d : Int) (w : List (ByteArray × Int)) : ∀ (m i k : Nat) (s : List Int × Int × Int) (out : List (ByteArray × Int)), i + m = 6 → m < k → SrcOk s → out.length ≤ i → (∀ l ∈ out, l.1.size ≤ 10 ∧ 0 ≤ l.2 ∧ l.2 ≤ 1000) →
    ∃ o s', spec_l29Good.l4 NN k i s a b v d names6 w out = some ((v, (d, o)), s') ∧ SrcOk s' ∧ o.length ≤ 6 ∧ ∀ l ∈ o, l.1.size ≤ 10 ∧ 0 ≤ l.2 ∧ l.2 ≤ 1000 := by
  intro m
  induction m with
  | zero =>
    intro i k s out hi hk hs ho hl
    obtain ⟨k, rfl⟩ : ∃ j, k = j + 1 := ⟨k - 1, by omega⟩
    have n1 : ¬ (i : Int) < (names6.length : Int) := by rw [names6_len]; omega
    exact ⟨out, s, by simp only [spec_l29Good.l4, spec_l29Good.g4, n1, decide_false, Bool.false_eq_true, if_false], hs, by omega, hl⟩
  | succ m ih =>
    intro i k s out hi hk hs ho hl
    obtain ⟨k, rfl⟩ : ∃ j, k = j + 1 := ⟨k - 1, by omega⟩
    obtain ⟨x, s1, e1, o1, x0, x1⟩ := next_ok hs 2 (by omega)
    obtain ⟨y, s2, e2, o2, y0, y1⟩ := next_ok o1 20 (by omega)
    have n1 : (i : Int) < (names6.length : Int) := by rw [names6_len]; omega
    have n0 : (0 : Int) ≤ (i : Int) := by omega
    have w1 := w64 (n := (i : Int) + 1) (by omega) (by omega)
    have w2 := w64 (n := 1 + y) (by omega) (by omega)
    have hz := names6_szs _ (getB_mem (show (i : Int).toNat < names6.length by rw [names6_len]; omega))
    simp only [spec_l29Good.l4, spec_l29Good.g4, n0, n1, e1, e2, w1, w2, and_self, decide_true, if_true, Option.bind_some]
    split
    · rw [if_pos (by rw [room24]; simp; omega)]
      exact ih (i + 1) k s2 _ (by omega) (by omega) o2 (by simp; omega) (fun l h => by
        rcases List.mem_append.1 h with h | h
        · exact hl l h
        · rw [List.mem_singleton.1 h]; exact ⟨hz, by simp only; omega, by simp only; omega⟩)
    · exact ih (i + 1) k s1 out (by omega) (by omega) o1 (by omega) hl
theorem good29_ok {s : List Int × Int × Int} (hs : SrcOk s) : ∃ p s', spec_l29Good.f s = some (p, s') ∧ SrcOk s' ∧ PapG p := by
  unfold spec_l29Good.f spec_l29Good.fn spec_l29Good.top
  obtain ⟨x, s1, e1, o1, x0, x1⟩ := next_ok hs 2 (by omega)
  obtain ⟨y, s2, e2, o2, y0, y1⟩ := next_ok o1 1000 (by omega)
  have hc : (0 : Int) ≤ x ∧ x < (([(⟨#[118, 97, 110]⟩ : ByteArray), (⟨#[116, 114, 117, 99, 107]⟩ : ByteArray)] : List ByteArray).length : Int) := ⟨x0, by simp only [List.length_cons, List.length_nil]; omega⟩
  have hm := getB_mem (xs := [(⟨#[118, 97, 110]⟩ : ByteArray), (⟨#[116, 114, 117, 99, 107]⟩ : ByteArray)]) (i := x.toNat) (by have := hc.2; omega)
  have hv : ([(⟨#[118, 97, 110]⟩ : ByteArray), (⟨#[116, 114, 117, 99, 107]⟩ : ByteArray)].getD x.toNat ByteArray.empty).size ≤ 10 := by
    revert hm
    generalize List.getD _ x.toNat ByteArray.empty = c
    intro hc
    simp only [List.mem_cons, List.not_mem_nil, or_false] at hc
    rcases hc with h | h <;> (rw [h]; exact Nat.le_of_ble_eq_true rfl)
  simp only [e1, e2, names_f, if_pos hc, Option.bind_some, agree_self]
  obtain ⟨o, s3, i1, i2, i3, i4⟩ := good29_l ByteArray.empty 0 ([(⟨#[118, 97, 110]⟩ : ByteArray), (⟨#[116, 114, 117, 99, 107]⟩ : ByteArray)].getD x.toNat ByteArray.empty) y [] 6 0 NN s2 [] (by omega) (NN_lt (by omega)) o2 (by simp) (by simp)
  exact ⟨_, s3, i1, i2, hv, by simp only; omega, i3, i4⟩
theorem papG_S {p : ByteArray × Int × List (ByteArray × Int)} (h : PapG p) : PapS p := by
  obtain ⟨h1, h2, h3, h4⟩ := h
  refine ⟨by omega, by omega, by omega, fun l hl => ?_⟩
  have := h4 l hl
  exact ⟨Nat.le_trans this.1 (by omega), by omega, by omega⟩
theorem draw29_l (a : ByteArray) (b : Int) (v : ByteArray) (d : Int) (w : List (ByteArray × Int)) (hv : v.size ≤ 1000) (hd : -1 ≤ d ∧ d ≤ 100001) : ∀ (m i k : Nat) (s : List Int × Int × Int) (out : List (ByteArray × Int)), i + m = 14 → m < k → SrcOk s → out.length ≤ 10 + i → (∀ l ∈ out, Sm l.1 ∧ 0 ≤ l.2 ∧ l.2 ≤ 1001) →
    ∃ p s', spec_l29Draw.l9 NN k i s a b v d w out = some (p, s') ∧ SrcOk s' ∧ PapS p := by
  intro m
  induction m with
  | zero =>
    intro i k s out hi hk hs ho hl
    obtain ⟨k, rfl⟩ : ∃ j, k = j + 1 := ⟨k - 1, by omega⟩
    obtain ⟨x, s1, e1, o1, x0, x1⟩ := next_ok hs 2 (by omega)
    have w1 := w64 (n := 12 + x) (by omega) (by omega)
    have n1 : ¬ (i : Int) < 14 := by omega
    simp only [spec_l29Draw.l9, spec_l29Draw.g9, e1, w1, n1, Option.bind_some, decide_false, Bool.false_eq_true, if_false]
    split <;> exact ⟨_, _, rfl, o1, hv, hd, by simp only; omega, hl⟩
  | succ m ih =>
    intro i k s out hi hk hs ho hl
    obtain ⟨k, rfl⟩ : ∃ j, k = j + 1 := ⟨k - 1, by omega⟩
    obtain ⟨x, s1, e1, o1, x0, x1⟩ := next_ok hs 2 (by omega)
    have w1 := w64 (n := 12 + x) (by omega) (by omega)
    have w2 := w64 (n := (i : Int) + 1) (by omega) (by omega)
    have n1 : (i : Int) < 14 := by omega
    have n2 : (0 : Int) ≤ (i : Int) := by omega
    have n3 : (i : Int) ≤ (i : Int) + 1 := by omega
    have z : (⟨#[97, 98, 99, 100, 101, 102, 103, 104, 105, 106, 107, 108, 109, 110]⟩ : ByteArray).size = 14 := rfl
    have n4 : (i : Int) + 1 ≤ ((⟨#[97, 98, 99, 100, 101, 102, 103, 104, 105, 106, 107, 108, 109, 110]⟩ : ByteArray).size : Int) := by rw [z]; omega
    have zx : (⟨#[120]⟩ : ByteArray).size = 1 := rfl
    have ze : ((⟨#[97, 98, 99, 100, 101, 102, 103, 104, 105, 106, 107, 108, 109, 110]⟩ : ByteArray).extract (i : Int).toNat ((i : Int) + 1).toNat).size ≤ 14 := by rw [ByteArray.size_extract, z]; omega
    by_cases hx : (out.length : Int) < 12 + x
    · simp only [spec_l29Draw.l9, spec_l29Draw.g9, e1, w1, w2, n1, n2, n3, n4, hx, Option.bind_some, decide_true, if_true, and_self]
      rw [if_pos (by omega), if_pos (by rw [room24]; simp; omega)]
      exact ih (i + 1) k s1 _ (by omega) (by omega) o1 (by simp; omega) (fun l h => by
        rcases List.mem_append.1 h with h | h
        · exact hl l h
        · rw [List.mem_singleton.1 h]; exact ⟨by unfold Sm; simp only [ByteArray.size_append]; omega, by simp only; omega, by simp only; omega⟩)
    · simp only [spec_l29Draw.l9, spec_l29Draw.g9, e1, w1, hx, Option.bind_some, decide_false, Bool.false_eq_true, if_false]
      exact ⟨_, _, rfl, o1, hv, hd, by simp only; omega, hl⟩
theorem draw29_ok {s : List Int × Int × Int} (hs : SrcOk s) : ∃ p s', spec_l29Draw.f s = some (p, s') ∧ SrcOk s' ∧ PapS p := by
  unfold spec_l29Draw.f spec_l29Draw.fn spec_l29Draw.top
  obtain ⟨p, s1, e1, o1, g1⟩ := good29_ok hs
  obtain ⟨x, s2, e2, o2, x0, x1⟩ := next_ok o1 30 (by omega)
  obtain ⟨c, s3, e3, o3, c1⟩ := pick_ok o2 [-1, 0, 100000, 100001] (by simp) (by simp)
  obtain ⟨u, s4, e4, o4, u1⟩ := drawWord_ok o2
  obtain ⟨f, s5, e5, o5, f1⟩ := pick_ok o4 [0, 1, 1000, 1001] (by simp) (by simp)
  have hc : -1 ≤ c ∧ c ≤ 100001 := by simp at c1; omega
  have hf : 0 ≤ f ∧ f ≤ 1001 := by simp at f1; omega
  have hS := papG_S g1
  obtain ⟨q1, q2, q3, q4⟩ := hS
  have g3 := g1.2.2.1
  simp only [e1, e2, e3, e4, e5, Option.bind_some]
  by_cases h0 : x = 0
  · rw [if_pos (by rw [h0]; rfl)]
    exact ⟨_, _, rfl, o3, q1, hc, q3, q4⟩
  rw [if_neg (by simpa using h0)]
  by_cases h1 : x = 1
  · rw [if_pos (by rw [h1]; rfl), if_pos (by rw [room24]; simp; omega)]
    refine ⟨_, _, rfl, o5, q1, q2, by simp only [List.length_append, List.length_singleton]; omega, fun l hl => ?_⟩
    rcases List.mem_append.1 hl with h | h
    · exact q4 l h
    · rw [List.mem_singleton.1 h]; exact ⟨u1, hf⟩
  rw [if_neg (by simpa using h1)]
  by_cases h2 : x = 2
  · rw [if_pos (by rw [h2]; rfl)]
    exact draw29_l ByteArray.empty 0 p.1 p.2.1 [] q1 q2 14 0 NN s2 p.2.2 (by omega) (NN_lt (by omega)) o2 (by omega) q4
  · rw [if_neg (by simpa using h2)]
    exact ⟨_, _, rfl, o2, q1, q2, q3, q4⟩
theorem drawPT_ok {code : List Int} (h : CodeOk code) : ∃ p, spec_DrawPaperText.f code = some p ∧ PapS p := by
  unfold spec_DrawPaperText.f spec_DrawPaperText.fn spec_DrawPaperText.top
  obtain ⟨s, e, ho⟩ := from_ok h
  obtain ⟨p, s1, e1, o1, p1⟩ := draw29_ok ho
  simp only [e, e1, Option.bind_some]
  exact ⟨_, rfl, p1⟩
theorem drawRP_ok {code : List Int} (h : CodeOk code) : ∃ t, spec_DrawReadPaper.f code = some t ∧ t.size ≤ 1000000 := by
  unfold spec_DrawReadPaper.f spec_DrawReadPaper.fn spec_DrawReadPaper.top
  obtain ⟨s, e, ho⟩ := from_ok h
  obtain ⟨p, s1, e1, o1, p1⟩ := good29_ok ho
  obtain ⟨x, s2, e2, o2, x0, x1⟩ := next_ok o1 3 (by omega)
  have hT : TxOk p := ⟨by have := p1.1; omega, by have := p1.2.1; omega, by have := p1.2.2.1; omega, fun l hl => by have := p1.2.2.2 l hl; omega⟩
  have hz : (txT p).size ≤ 100000 := by
    have key : ∀ (ls : List (ByteArray × Int)) (st : ByteArray), (∀ l ∈ ls, l.1.size ≤ 10 ∧ 0 ≤ l.2 ∧ l.2 ≤ 1000) → (ls.foldl lnF st).size ≤ st.size + 100 * ls.length := by
      intro ls
      induction ls with
      | nil => intro st _; simp
      | cons l ls ih =>
        intro st hl
        have h1 := ih (lnF st l) (fun x hx => hl x (by simp [hx]))
        have h2 := hl l (by simp)
        have h3 := digs_len 6 l.2.toNat (by omega)
        have h4 : (lnF st l).size ≤ st.size + 100 := by
          unfold lnF lnT
          rw [ByteArray.size_append, ob_size]
          simp only [List.length_cons, List.length_append, bl_length]
          omega
        simp only [List.foldl_cons, List.length_cons]
        omega
    have h1 := key p.2.2 (ob (hdT p)) p1.2.2.2
    have h3 := digs_len 6 p.2.1.toNat (by have := p1.2.1; omega)
    have h4 : (ob (hdT p)).size ≤ 100 := by
      unfold hdT
      rw [ob_size]
      simp only [List.length_cons, List.length_append, bl_length]
      have := p1.1; omega
    have := p1.2.2.1
    unfold txT
    omega
  obtain ⟨u, s3, e3, o3, u1⟩ := damage_ok o2 (txT p) (by omega)
  simp only [e, e1, e2, Option.bind_some, show (p.1, p.2.1, p.2.2) = p from rfl, (spec_l29Text_f p hT).1, e3]
  split
  · exact ⟨_, rfl, by omega⟩
  · exact ⟨_, rfl, by omega⟩
theorem FnPaperTexts_true (code : List Int) (hyp : Ls (Rg .u8) code) : laws_FnPaperTexts.f code = some true := by
  unfold laws_FnPaperTexts.f laws_FnPaperTexts.fn laws_FnPaperTexts.top
  rw [big_f]
  by_cases hb : (4096 : Int) < (code.length : Int)
  · simp [hb]
  have hco := code_of hyp hb
  obtain ⟨p, e1, p1⟩ := drawPT_ok hco
  obtain ⟨t, e2, t1⟩ := drawRP_ok hco
  have hok := papS_ok p1
  have hro := readP_ok t t1
  have hl3 := p1.2.2.1
  simp only [hb, decide_false, Bool.false_eq_true, if_false, Option.bind_some, e1, e2]
  rw [show (p.1, p.2.1, p.2.2) = p from rfl, (PaperText_both p hok).1, (PaperText_both p hok).2, impl_ReadPaper_f t t1, spec_ReadPaper_f t t1, readP_same t, impl_IsPaper_f p hok]
  have hae : (paperB p == ((textR p).2 == 0)) = true := by
    unfold textR
    cases paperB p <;> rfl
  simp only [Option.bind_some, bne_self_eq_false, beq_self_eq_true, if_true, Bool.not_true, Bool.false_eq_true, if_false, hae]
  rw [show ((readP rdV t).1.1, (readP rdV t).1.2.1, (readP rdV t).1.2.2) = (readP rdV t).1 from rfl, likePaper_self _ (Nat.le_trans hro.2.2.1 (by omega))]
  have fin : (if ((textR p).2 != 0) = true then some true else
      (impl_ReadPaper.f (textR p).1).bind fun r13 =>
      if ((r13.2 : Int) == 0) = true then
        (laws_likePaper.f (r13.1.1, (r13.1.2.1, r13.1.2.2)) p).bind fun r14 =>
        some r14
      else
        some false) = some true := by
    unfold textR
    by_cases h : paperB p = true
    · rw [if_pos h]
      have hz := (impl_paperText_f p (paper_tx h)).2
      simp only [bne_self_eq_false, Bool.false_eq_true, if_false]
      rw [impl_ReadPaper_f _ hz, readP_same, read_text h]
      simp only [Option.bind_some, beq_self_eq_true, if_true, show (p.1, p.2.1, p.2.2) = p from rfl]
      rw [likePaper_self _ (by omega)]; rfl
    · rw [if_neg h]; rfl
  simp only [Option.bind_some, Bool.not_true, Bool.false_eq_true, if_false, if_true]
  by_cases h0 : (readP rdV t).2 = 0
  · obtain ⟨h1, h2⟩ := text_read h0
    have hT : textR (readP rdV t).1 = (t, 0) := by unfold textR; rw [if_pos h1, h2]
    rw [if_pos (by rw [h0]; rfl), (PaperText_both _ hro).1, hT]
    simp only [Option.bind_some, bne_self_eq_false, beq_self_eq_true, Bool.not_true, Bool.false_eq_true, if_false, if_true]
    exact fin
  · rw [if_neg (by simpa using h0)]
    exact fin
end Go.Pl
