/- Part 8 of what the law FnCovered stands on: an evaluator of the model's code, proved sound; the functions as plain texts; their contracts. -/
import Derived.Test.YtfedipldlkncnaaChecked
import Derived.Test.YtfedipldlkncnaaProg
import Derived.Test.YtfedipldlkncnaaRows
import Derived.Below
import Derived.Calls
import Derived.Carry
import Derived.ChangeArms
import Derived.ChangeKeysEq
import Derived.ChangeOld
import Derived.Deep.Quiet
import Derived.KernelRfl
import Derived.Laws.Append
import Derived.Laws.BytesString
import Derived.Laws.MakeOwn
import Derived.Laws.Strings
import Derived.Laws.StructEq
import Derived.OpenShut
import Derived.OrdersHeld
import Derived.ProofKit
import Derived.ShutString
import Derived.SizedLaws
import Derived.Tactics
import Derived.WalkKit
import Derived.WideShapes
import Derived.Test.YtfedipldlkncnaaEvCovered7
namespace Go.Pl
open Go.Ev
set_option linter.unusedVariables false
set_option linter.unusedSimpArgs false
theorem room80 : room 80 = 1759218604441 := by decide
theorem getB_mem3 {xs : List ByteArray} {i : Nat} (h : i < xs.length) : xs.getD i ByteArray.empty ∈ xs := by
  rw [List.getD_eq_getElem?_getD, List.getElem?_eq_getElem h]; exact List.getElem_mem h
def nam6 : List ByteArray := [(⟨#[97, 115, 116, 101, 114]⟩ : ByteArray), (⟨#[99, 111, 109, 101, 116]⟩ : ByteArray), (⟨#[100, 97, 104, 108, 105, 97]⟩ : ByteArray), (⟨#[112, 97, 108, 109]⟩ : ByteArray), (⟨#[112, 101, 111, 110, 121]⟩ : ByteArray), (⟨#[119, 105, 108, 108, 111, 119]⟩ : ByteArray)]
theorem nam6_f : spec_l03Names.f = some nam6 := rfl
theorem nam6_len : nam6.length = 6 := rfl
theorem nam6_sm : ∀ c ∈ nam6, c.size ≤ 100 := by
  intro c hc
  unfold nam6 at hc
  simp only [List.mem_cons, List.not_mem_nil, or_false] at hc
  rcases hc with h | h | h | h | h | h <;> (rw [h]; exact Nat.le_of_ble_eq_true rfl)
theorem word03_good {s : List Int × Int × Int} (hs : SrcOk s) : ∃ u s', spec_l01Good.f s = some (u, s') ∧ SrcOk s' ∧ u.size ≤ 100 := by
  unfold spec_l01Good.f spec_l01Good.fn spec_l01Good.top
  obtain ⟨a, s1, e1, o1, a0, a1⟩ := next_ok hs 12 (by omega)
  rw [e1]
  simp only [Option.bind_some]
  rw [if_pos ⟨a0, by simp only [List.length_cons, List.length_nil]; omega⟩]
  refine ⟨_, _, rfl, o1, ?_⟩
  have hm := getB_mem3 (xs := [(⟨#[97, 100, 97]⟩ : ByteArray), (⟨#[98, 114, 117, 110, 111]⟩ : ByteArray), (⟨#[99, 108, 97, 114, 97]⟩ : ByteArray), (⟨#[100, 111, 114, 97]⟩ : ByteArray), (⟨#[101, 109, 105, 108]⟩ : ByteArray), (⟨#[102, 114, 105, 100, 97]⟩ : ByteArray), (⟨#[103, 117, 115, 116, 97, 118]⟩ : ByteArray), (⟨#[104, 97, 110, 110, 97]⟩ : ByteArray), (⟨#[105, 118, 97, 110]⟩ : ByteArray), (⟨#[106, 97, 110, 97]⟩ : ByteArray), (⟨#[107, 97, 114, 108]⟩ : ByteArray), (⟨#[108, 101, 110, 97]⟩ : ByteArray)]) (i := a.toNat) (by simp only [List.length_cons, List.length_nil]; omega)
  revert hm
  generalize List.getD _ a.toNat ByteArray.empty = c
  intro hc
  simp only [List.mem_cons, List.not_mem_nil, or_false] at hc
  rcases hc with h | h | h | h | h | h | h | h | h | h | h | h <;> (rw [h]; exact Nat.le_of_ble_eq_true rfl)
theorem word03_ok {s : List Int × Int × Int} (hs : SrcOk s) : ∃ u s', spec_l01DrawWord.f s = some (u, s') ∧ SrcOk s' ∧ u.size ≤ 100 := by
  unfold spec_l01DrawWord.f spec_l01DrawWord.fn spec_l01DrawWord.top
  obtain ⟨a, s1, e1, o1, a0, a1⟩ := next_ok hs 24 (by omega)
  obtain ⟨b, s2, e2, o2, b0, b1⟩ := next_ok o1 6 (by omega)
  obtain ⟨u, s3, e3, o3, u1⟩ := word03_good o1
  rw [e1]
  simp only [Option.bind_some, e2, e3]
  split
  · rw [if_pos ⟨b0, by simp only [List.length_cons, List.length_nil]; omega⟩]
    refine ⟨_, _, rfl, o2, ?_⟩
    have hm := getB_mem3 (xs := [(⟨#[]⟩ : ByteArray), (⟨#[65, 100, 97]⟩ : ByteArray), (⟨#[97, 49]⟩ : ByteArray), (⟨#[97, 98, 99, 100, 101, 102, 103, 104, 105, 106, 107, 108, 109, 110, 111, 112]⟩ : ByteArray), (⟨#[97, 98, 99, 100, 101, 102, 103, 104, 105, 106, 107, 108, 109, 110, 111, 112, 113]⟩ : ByteArray), (⟨#[97, 32, 98]⟩ : ByteArray)]) (i := b.toNat) (by simp only [List.length_cons, List.length_nil]; omega)
    revert hm
    generalize List.getD _ b.toNat ByteArray.empty = c
    intro hc
    simp only [List.mem_cons, List.not_mem_nil, or_false] at hc
    rcases hc with h | h | h | h | h | h <;> (rw [h]; exact Nat.le_of_ble_eq_true rfl)
  · exact ⟨_, _, rfl, o3, u1⟩
/-- an article as drawn -/
def ArtM (M : Int) (a : Art) : Prop := a.1.size ≤ 1000 ∧ (-10 ≤ a.2.1 ∧ a.2.1 ≤ M) ∧ (-10 ≤ a.2.2.1 ∧ a.2.2.1 ≤ M) ∧ (-10 ≤ a.2.2.2.1 ∧ a.2.2.2.1 ≤ M) ∧ (-10 ≤ a.2.2.2.2.1 ∧ a.2.2.2.2.1 ≤ M) ∧ (-10 ≤ a.2.2.2.2.2.1 ∧ a.2.2.2.2.2.1 ≤ M) ∧ (-10 ≤ a.2.2.2.2.2.2.1 ∧ a.2.2.2.2.2.2.1 ≤ M) ∧ (-10 ≤ a.2.2.2.2.2.2.2.1 ∧ a.2.2.2.2.2.2.2.1 ≤ M) ∧ (-10 ≤ a.2.2.2.2.2.2.2.2 ∧ a.2.2.2.2.2.2.2.2 ≤ M)
abbrev ArtS (a : Art) : Prop := ArtM 1000000 a
theorem artM_S {a : Art} (h : ArtM 100000 a) : ArtS a := by
  obtain ⟨h0, h1, h2, h3, h4, h5, h6, h7, h8⟩ := h
  exact ⟨h0, by omega, by omega, by omega, by omega, by omega, by omega, by omega, by omega⟩
theorem artS_ok {a : Art} (h : ArtS a) : OkArticle a := by
  obtain ⟨h0, h1, h2, h3, h4, h5, h6, h7, h8⟩ := h
  exact ⟨Nat.le_trans h0 (by omega), wf64.2 (by omega), wf64.2 (by omega), wf64.2 (by omega), wf64.2 (by omega), wf64.2 (by omega), wf64.2 (by omega), wf64.2 (by omega), wf64.2 (by omega)⟩
theorem good03_ok {s : List Int × Int × Int} (hs : SrcOk s) (name : ByteArray) (hn : name.size ≤ 1000) : ∃ a s', spec_l03Good.f s name = some (a, s') ∧ SrcOk s' ∧ ArtM 100000 a := by
  unfold spec_l03Good.f spec_l03Good.fn spec_l03Good.top
  obtain ⟨a, s1, e1, o1, a0, a1⟩ := next_ok hs 4 (by omega)
  obtain ⟨b, s2, e2, o2, b0, b1⟩ := next_ok o1 281 (by omega)
  have w1 := w64 (n := 20 + b) (by omega) (by omega)
  obtain ⟨c, s3, e3, o3, c0⟩ := pick_ok o2 [50, 75, 100, 150, 20 + b] (by simp) (by simp)
  have c1 : -10 ≤ c ∧ c ≤ 100000 := by simp at c0; omega
  obtain ⟨d, s4, e4, o4, d0, d1⟩ := next_ok o3 5000 (by omega)
  obtain ⟨e, s5, e5, o5, f0, f1⟩ := next_ok o4 300 (by omega)
  obtain ⟨f, s6, e6, o6, g0, g1⟩ := next_ok o5 2000 (by omega)
  obtain ⟨g, s7, e7, o7, h0, h1⟩ := next_ok o6 4 (by omega)
  obtain ⟨h, s8, e8, o8, i0, i1⟩ := next_ok o7 8 (by omega)
  obtain ⟨i, s9, e9, o9, j0, j1⟩ := next_ok o8 2000 (by omega)
  have w2 := w64 (n := 1000 + d) (by omega) (by omega)
  have w3 := w64 (n := 50 + f) (by omega) (by omega)
  have w4 := w64 (n := 1 + h) (by omega) (by omega)
  have w5 := w64 (n := 500 + i) (by omega) (by omega)
  simp only [e1, e2, w1, e3, e4, e5, e6, e7, e8, e9, w2, w3, w4, w5, Option.bind_some, beq_iff_eq]
  by_cases q1 : a = 1
  · have q2 : ¬ a = 2 := by omega
    rw [if_pos q1, if_neg q2]
    exact ⟨_, _, rfl, o9, hn, by simp only; omega, by simp only; omega, by simp only; omega, by simp only; omega, by simp only; omega, by simp only; omega, by simp only; omega, by simp only; omega⟩
  · rw [if_neg q1]
    by_cases q2 : a = 2
    · rw [if_pos q2]
      exact ⟨_, _, rfl, o7, hn, by simp only; omega, by simp only; omega, by simp only; omega, by simp only; omega, by simp only; omega, by simp only; omega, by simp only; omega, by simp only; omega⟩
    · rw [if_neg q2]
      exact ⟨_, _, rfl, o7, hn, by simp only; omega, by simp only; omega, by simp only; omega, by simp only; omega, by simp only; omega, by simp only; omega, by simp only; omega, by simp only; omega⟩
theorem draw03_ok {s : List Int × Int × Int} (hs : SrcOk s) (name : ByteArray) (hn : name.size ≤ 1000) : ∃ a s', spec_l03Draw.f s name = some (a, s') ∧ SrcOk s' ∧ ArtS a := by
  unfold spec_l03Draw.f spec_l03Draw.fn spec_l03Draw.top
  obtain ⟨g, s1, e1, o1, gm⟩ := good03_ok hs name hn
  obtain ⟨p0, p1, p2, p3, p4, p5, p6, p7, p8⟩ := artM_S gm
  have pm := gm.2.2.2.1
  obtain ⟨b, s2, e2, o2, b0, b1⟩ := next_ok o1 60 (by omega)
  have w1 := w64 (n := g.2.2.2.1 + 1) (by omega) (by omega)
  obtain ⟨c3, t3, e3, o3, m3⟩ := pick_ok o2 [19, 20, 300, 301] (by simp) (by simp)
  obtain ⟨c4, t4, e4, o4, m4⟩ := pick_ok o2 [g.2.2.2.1, g.2.2.2.1 + 1, (-1)] (by simp) (by simp)
  obtain ⟨c5, t5, e5, o5, m5⟩ := pick_ok o2 [0, 50, 51] (by simp) (by simp)
  obtain ⟨u, t6, e6, o6, m6⟩ := word03_ok o2
  obtain ⟨c7, t7, e7, o7, m7⟩ := pick_ok o2 [0, 100000, 100001] (by simp) (by simp)
  have n3 : -10 ≤ c3 ∧ c3 ≤ 1000000 := by simp at m3; omega
  have n4 : -10 ≤ c4 ∧ c4 ≤ 1000000 := by simp at m4; omega
  have n5 : -10 ≤ c5 ∧ c5 ≤ 1000000 := by simp at m5; omega
  have n7 : -10 ≤ c7 ∧ c7 ≤ 1000000 := by simp at m7; omega
  simp only [e1, e2, e3, w1, e4, e5, e6, e7, Option.bind_some]
  split
  · exact ⟨_, _, rfl, o3, p0, p1, n3, p3, p4, p5, p6, p7, p8⟩
  split
  · exact ⟨_, _, rfl, o4, p0, p1, p2, p3, n4, p5, p6, p7, p8⟩
  split
  · exact ⟨_, _, rfl, o5, p0, p1, p2, p3, p4, n5, p6, p7, p8⟩
  split
  · exact ⟨_, _, rfl, o6, Nat.le_trans m6 (by omega), p1, p2, p3, p4, p5, p6, p7, p8⟩
  split
  · exact ⟨_, _, rfl, o7, p0, p1, p2, p3, p4, p5, p6, n7, p8⟩
  · exact ⟨_, _, rfl, o2, p0, p1, p2, p3, p4, p5, p6, p7, p8⟩
theorem artS_snoc {out : List Art} {a : Art} (h : ∀ x ∈ out, ArtS x) (ha : ArtS a) : ∀ x ∈ out ++ [a], ArtS x := fun x hx => by
  rcases List.mem_append.1 hx with h1 | h1
  · exact h x h1
  · rw [List.mem_singleton.1 h1]; exact ha
def al14 : ByteArray := ⟨#[97, 98, 99, 100, 101, 102, 103, 104, 105, 106, 107, 108, 109, 110]⟩
theorem al14_size : al14.size = 14 := rfl
def exx : ByteArray := ⟨#[120]⟩
theorem exx_size : exx.size = 1 := rfl
theorem list03_l13 : ∀ (d i k : Nat) (s : List Int × Int × Int) (out : List Art), i + d = 14 → out.length ≤ 6 + i → d < k → SrcOk s → (∀ x ∈ out, ArtS x) →
    ∃ o s', spec_l03List.l13 NN k i s out = some (o, s') ∧ SrcOk s' ∧ o.length ≤ 20 ∧ ∀ x ∈ o, ArtS x := by
  intro d
  induction d with
  | zero =>
    intro i k s out hd hl hk hs ho
    obtain ⟨k, rfl⟩ : ∃ j, k = j + 1 := ⟨k - 1, by omega⟩
    obtain ⟨a, s1, e1, o1, a0, a1⟩ := next_ok hs 2 (by omega)
    have n1 : ¬ (i : Int) < 14 := by omega
    simp only [spec_l03List.l13, spec_l03List.g13, e1, Option.bind_some, n1, decide_false, Bool.false_eq_true, if_false]
    rw [ite_self]
    exact ⟨_, _, rfl, o1, by omega, ho⟩
  | succ d ih =>
    intro i k s out hd hl hk hs ho
    obtain ⟨k, rfl⟩ : ∃ j, k = j + 1 := ⟨k - 1, by omega⟩
    obtain ⟨a, s1, e1, o1, a0, a1⟩ := next_ok hs 2 (by omega)
    have n1 : (i : Int) < 14 := by omega
    have w1 := w64 (n := (i : Int) + 1) (by omega) (by omega)
    have hz : exx.size + (al14.extract (i : Int).toNat ((i : Int) + 1).toNat).size ≤ 1000 := by
      rw [exx_size, ByteArray.size_extract, al14_size]; omega
    have hz2 : (exx ++ al14.extract (i : Int).toNat ((i : Int) + 1).toNat).size ≤ 1000 := by
      rw [ByteArray.size_append]; exact hz
    obtain ⟨g, s2, e2, o2, g1⟩ := good03_ok o1 _ hz2
    have hc : (0 : Int) ≤ (i : Int) ∧ (i : Int) ≤ (i : Int) + 1 ∧ ((i : Int) + 1) ≤ (al14.size : Int) := by rw [al14_size]; omega
    have w2 := w64 (n := 12 + a) (by omega) (by omega)
    simp only [spec_l03List.l13, spec_l03List.g13, e1, Option.bind_some, n1, decide_true, if_true, w1, w2]
    rw [show (⟨#[97, 98, 99, 100, 101, 102, 103, 104, 105, 106, 107, 108, 109, 110]⟩ : ByteArray) = al14 from rfl, show (⟨#[120]⟩ : ByteArray) = exx from rfl]
    by_cases n2 : (out.length : Int) < 12 + a
    · rw [if_pos (decide_eq_true n2), if_pos hc, if_pos (show exx.size + (al14.extract (i : Int).toNat ((i : Int) + 1).toNat).size ≤ 9223372036854775807 by omega), e2]
      simp only [Option.bind_some]
      rw [if_pos (by rw [room80]; simp; omega)]
      have := ih (i + 1) k s2 (out ++ [g]) (by omega) (by simp; omega) (by omega) o2 (artS_snoc ho (artM_S g1))
      rw [show ((i + 1 : Nat) : Int) = (i : Int) + 1 by omega] at this
      exact this
    · rw [if_neg (by rw [decide_eq_false n2]; decide)]
      exact ⟨_, _, rfl, o1, by omega, ho⟩
theorem list03_l4 : ∀ (d i k : Nat) (s : List Int × Int × Int) (out : List Art), i + d = 6 → out.length ≤ i → d < k → SrcOk s → (∀ x ∈ out, ArtS x) →
    ∃ o s', spec_l03List.l4 NN k i s out nam6 = some (o, s') ∧ SrcOk s' ∧ o.length ≤ 20 ∧ ∀ x ∈ o, ArtS x := by
  intro d
  induction d with
  | zero =>
    intro i k s out hd hl hk hs ho
    obtain ⟨k, rfl⟩ : ∃ j, k = j + 1 := ⟨k - 1, by omega⟩
    obtain ⟨a, s1, e1, o1, a0, a1⟩ := next_ok hs 30 (by omega)
    have n1 : ¬ (i : Int) < (nam6.length : Int) := by rw [nam6_len]; omega
    obtain ⟨g, s2, e2, o2, g1⟩ := good03_ok o1 (⟨#[97, 115, 116, 101, 114]⟩ : ByteArray) (Nat.le_of_ble_eq_true rfl)
    simp only [spec_l03List.l4, spec_l03List.g4, e1, e2, Option.bind_some, n1, decide_false, Bool.false_eq_true, if_false]
    split
    · rw [if_pos (by rw [room80]; simp; omega)]
      exact ⟨_, _, rfl, o2, by simp; omega, artS_snoc ho (artM_S g1)⟩
    split
    · exact list03_l13 14 0 NN s1 out (by omega) (by omega) (NN_lt (by omega)) o1 ho
    · exact ⟨_, _, rfl, o1, by omega, ho⟩
  | succ d ih =>
    intro i k s out hd hl hk hs ho
    obtain ⟨k, rfl⟩ : ∃ j, k = j + 1 := ⟨k - 1, by omega⟩
    obtain ⟨a, s1, e1, o1, a0, a1⟩ := next_ok hs 3 (by omega)
    have n1 : (i : Int) < (nam6.length : Int) := by rw [nam6_len]; omega
    have n0 : (0 : Int) ≤ (i : Int) := by omega
    have w1 := w64 (n := (i : Int) + 1) (by omega) (by omega)
    have hm := getB_mem3 (xs := nam6) (i := i) (by rw [nam6_len]; omega)
    obtain ⟨g, s2, e2, o2, g1⟩ := draw03_ok o1 (nam6.getD i ByteArray.empty) (by have := nam6_sm _ hm; omega)
    simp only [spec_l03List.l4, spec_l03List.g4, e1, Option.bind_some, n1, n0, and_self, decide_true, if_true, w1, Int.toNat_natCast, e2]
    split
    · rw [if_pos (by rw [room80]; simp; omega)]
      have := ih (i + 1) k s2 (out ++ [g]) (by omega) (by simp; omega) (by omega) o2 (artS_snoc ho g1)
      rw [show ((i + 1 : Nat) : Int) = (i : Int) + 1 by omega] at this
      exact this
    · have := ih (i + 1) k s1 out (by omega) (by omega) (by omega) o1 ho
      rw [show ((i + 1 : Nat) : Int) = (i : Int) + 1 by omega] at this
      exact this
theorem list03_ok {s : List Int × Int × Int} (hs : SrcOk s) : ∃ o s', spec_l03List.f s = some (o, s') ∧ SrcOk s' ∧ o.length ≤ 20 ∧ ∀ x ∈ o, ArtS x := by
  unfold spec_l03List.f spec_l03List.fn spec_l03List.top
  rw [nam6_f]
  exact list03_l4 6 0 NN s [] (by omega) (by simp) (NN_lt (by omega)) hs (by simp)
theorem arts_lm {xs : List Art} (hl : xs.length ≤ 20) (h : ∀ x ∈ xs, ArtS x) : Lm OkArticle xs := ⟨by omega, fun a ha => artS_ok (h a ha)⟩
def CntS (cs : List Int) : Prop := ∀ c ∈ cs, -10 ≤ c ∧ c ≤ 100000
theorem cntS_snoc {cs : List Int} {c : Int} (h : CntS cs) (hc : -10 ≤ c ∧ c ≤ 100000) : CntS (cs ++ [c]) := fun x hx => by
  rcases List.mem_append.1 hx with h1 | h1
  · exact h x h1
  · rw [List.mem_singleton.1 h1]; exact hc
theorem mem_set {cs : List Int} {i : Nat} {v x : Int} (h : x ∈ cs.set i v) : x ∈ cs ∨ x = v := by
  rw [List.mem_iff_getElem?] at h
  obtain ⟨j, hj⟩ := h
  by_cases e : i = j
  · subst e
    rw [List.getElem?_set] at hj
    simp only [if_true] at hj
    split at hj
    · right; exact (Option.some.inj hj).symm
    · cases hj
  · rw [List.getElem?_set_ne e] at hj
    exact .inl (List.mem_iff_getElem?.2 ⟨j, hj⟩)
theorem cntS_set {cs : List Int} {i : Nat} {c : Int} (h : CntS cs) (hc : -10 ≤ c ∧ c ≤ 100000) : CntS (cs.set i c) := fun x hx => by
  rcases mem_set hx with h1 | h1
  · exact h x h1
  · rw [h1]; exact hc
theorem counts_l3 (N : Nat) (hN : N ≤ 1000) : ∀ (d i k : Nat) (s : List Int × Int × Int) (out : List Int), i + d = N → out.length = i → d < k → SrcOk s → CntS out →
    ∃ o s', spec_l03Counts.l3 NN k N i s out = some (o, s') ∧ SrcOk s' ∧ o.length ≤ 1001 ∧ CntS o := by
  intro d
  induction d with
  | zero =>
    intro i k s out hd hl hk hs ho
    obtain ⟨k, rfl⟩ : ∃ j, k = j + 1 := ⟨k - 1, by omega⟩
    obtain ⟨a, s1, e1, o1, a0, a1⟩ := next_ok hs 24 (by omega)
    have n1 : ¬ (i : Int) < (N : Int) := by omega
    obtain ⟨c, s2, e2, o2, c0⟩ := pick_ok o1 [1000, 1001, (-1)] (by simp) (by simp)
    have c1 : -10 ≤ c ∧ c ≤ 100000 := by simp at c0; omega
    simp only [spec_l03Counts.l3, spec_l03Counts.g3, e1, e2, Option.bind_some, n1, decide_false, Bool.false_eq_true, if_false]
    split
    · rw [if_pos (by rw [room8]; simp; omega)]
      exact ⟨_, _, rfl, o1, by simp; omega, cntS_snoc ho (by omega)⟩
    split
    · split
      · rename_i h0
        have h0' : (0 : Int) < N := by simpa using h0
        rw [if_pos ⟨Int.le_refl _, by omega⟩]
        exact ⟨_, _, rfl, o2, by simp; omega, cntS_set ho c1⟩
      · exact ⟨_, _, rfl, o1, by omega, ho⟩
    · exact ⟨_, _, rfl, o1, by omega, ho⟩
  | succ d ih =>
    intro i k s out hd hl hk hs ho
    obtain ⟨k, rfl⟩ : ∃ j, k = j + 1 := ⟨k - 1, by omega⟩
    obtain ⟨a, s1, e1, o1, a0, a1⟩ := next_ok hs 12 (by omega)
    obtain ⟨b, s2, e2, o2, b0, b1⟩ := next_ok o1 12 (by omega)
    obtain ⟨c, s3, e3, o3, c0⟩ := pick_ok o2 [0, a, b] (by simp) (by simp)
    have c1 : -10 ≤ c ∧ c ≤ 100000 := by simp at c0; omega
    have n1 : (i : Int) < (N : Int) := by omega
    have w1 := w64 (n := (i : Int) + 1) (by omega) (by omega)
    simp only [spec_l03Counts.l3, spec_l03Counts.g3, e1, e2, e3, Option.bind_some, n1, decide_true, if_true, w1]
    rw [if_pos (by rw [room8]; simp; omega)]
    have := ih (i + 1) k s3 (out ++ [c]) (by omega) (by simp; omega) (by omega) o3 (cntS_snoc ho c1)
    rw [show ((i + 1 : Nat) : Int) = (i : Int) + 1 by omega] at this
    exact this
theorem counts03_ok {s : List Int × Int × Int} (hs : SrcOk s) (N : Nat) (hN : N ≤ 1000) : ∃ o s', spec_l03Counts.f s N = some (o, s') ∧ SrcOk s' ∧ o.length ≤ 1001 ∧ CntS o := by
  unfold spec_l03Counts.f spec_l03Counts.fn spec_l03Counts.top
  exact counts_l3 N hN N 0 NN s [] (by omega) (by simp) (NN_lt (by omega)) hs (fun _ h => by cases h)
theorem cnts_lm {cs : List Int} (hl : cs.length ≤ 1001) (h : CntS cs) : Lm (Rg .i64) cs := ⟨by omega, fun c hc => wf64.2 (by have := h c hc; omega)⟩
end Go.Pl

namespace Go.Pl
open Go.Ev
set_option linter.unusedVariables false
noncomputable section
def spec_l03Insert.g2 (L2 : Int → Int → List Int → Option (List Int)) (n1 : Int) (at5 : Int) (list0 : List Int) : Option (List Int) :=
  if (decide ((at5 : Int) < (list0.length : Int))) = true then
    if (0 : Int) ≤ at5 ∧ (at5 : Int) < list0.length then
      if (decide (((list0.getD (at5 : Int).toNat 0) : Int) < n1)) = true then
        L2 n1 (IntKind.i64.wrap (at5 + 1)) list0
      else if (decide ((at5 : Int) < (list0.length : Int))) = true then
        if (0 : Int) ≤ at5 ∧ (at5 : Int) < list0.length then
          if (((list0.getD (at5 : Int).toNat 0) : Int) == n1) = true then
            some list0
          else if (0 : Int) ≤ at5 ∧ (at5 : Int) ≤ list0.length then
            if (0 : Int) ≤ at5 ∧ (at5 : Int) ≤ list0.length then
              if ([] : List Int).length + (list0.take (at5 : Int).toNat).length < room 8 then
                if (([] : List Int) ++ (list0.take (at5 : Int).toNat)).length + ([n1]).length < room 8 then
                  if ((([] : List Int) ++ (list0.take (at5 : Int).toNat)) ++ ([n1])).length + (list0.drop (at5 : Int).toNat).length < room 8 then
                    some (((([] : List Int) ++ (list0.take (at5 : Int).toNat)) ++ ([n1])) ++ (list0.drop (at5 : Int).toNat))
                  else
                    none
                else
                  none
              else
                none
            else
              none
          else
            none
        else
          none
      else if (0 : Int) ≤ at5 ∧ (at5 : Int) ≤ list0.length then
        if (0 : Int) ≤ at5 ∧ (at5 : Int) ≤ list0.length then
          if ([] : List Int).length + (list0.take (at5 : Int).toNat).length < room 8 then
            if (([] : List Int) ++ (list0.take (at5 : Int).toNat)).length + ([n1]).length < room 8 then
              if ((([] : List Int) ++ (list0.take (at5 : Int).toNat)) ++ ([n1])).length + (list0.drop (at5 : Int).toNat).length < room 8 then
                some (((([] : List Int) ++ (list0.take (at5 : Int).toNat)) ++ ([n1])) ++ (list0.drop (at5 : Int).toNat))
              else
                none
            else
              none
          else
            none
        else
          none
      else
        none
    else
      none
  else if (decide ((at5 : Int) < (list0.length : Int))) = true then
    if (0 : Int) ≤ at5 ∧ (at5 : Int) < list0.length then
      if (((list0.getD (at5 : Int).toNat 0) : Int) == n1) = true then
        some list0
      else if (0 : Int) ≤ at5 ∧ (at5 : Int) ≤ list0.length then
        if (0 : Int) ≤ at5 ∧ (at5 : Int) ≤ list0.length then
          if ([] : List Int).length + (list0.take (at5 : Int).toNat).length < room 8 then
            if (([] : List Int) ++ (list0.take (at5 : Int).toNat)).length + ([n1]).length < room 8 then
              if ((([] : List Int) ++ (list0.take (at5 : Int).toNat)) ++ ([n1])).length + (list0.drop (at5 : Int).toNat).length < room 8 then
                some (((([] : List Int) ++ (list0.take (at5 : Int).toNat)) ++ ([n1])) ++ (list0.drop (at5 : Int).toNat))
              else
                none
            else
              none
          else
            none
        else
          none
      else
        none
    else
      none
  else if (0 : Int) ≤ at5 ∧ (at5 : Int) ≤ list0.length then
    if (0 : Int) ≤ at5 ∧ (at5 : Int) ≤ list0.length then
      if ([] : List Int).length + (list0.take (at5 : Int).toNat).length < room 8 then
        if (([] : List Int) ++ (list0.take (at5 : Int).toNat)).length + ([n1]).length < room 8 then
          if ((([] : List Int) ++ (list0.take (at5 : Int).toNat)) ++ ([n1])).length + (list0.drop (at5 : Int).toNat).length < room 8 then
            some (((([] : List Int) ++ (list0.take (at5 : Int).toNat)) ++ ([n1])) ++ (list0.drop (at5 : Int).toNat))
          else
            none
        else
          none
      else
        none
    else
      none
  else
    none
def spec_l03Insert.l2 (n : Nat) : Nat → Int → Int → List Int → Option (List Int)
  | 0 => fun _ _ _ => none
  | k + 1 => spec_l03Insert.g2 (spec_l03Insert.l2 n k)
def spec_l03Insert.top (I2 : Int → Int → List Int → Option (List Int)) (list0 : List Int) (n1 : Int) : Option (List Int) :=
  I2 n1 0 list0
def spec_l03Insert.fn (n : Nat) (list0 : List Int) (n1 : Int) : Option (List Int) := spec_l03Insert.top (spec_l03Insert.l2 n n) list0 n1
def spec_l03Insert.f (list0 : List Int) (n1 : Int) : Option (List Int) := spec_l03Insert.fn NN list0 n1
end
end Go.Pl

namespace Go.Pl
open Go.Ev
set_option linter.unusedVariables false
noncomputable section
def impl_PermitFor.g18 (L18 : List Bool → Int → Int → Int → Int → Int → Int → Int → Int → Int → Int → Int → List Int → List Int → Option ((Int × Int × Int × Int × List Int × Int) × Int)) (v66 : List Bool) (v67 : Int) (v6a : Int) (v6ba : Int) (v6bba : Int) (v6bbba : Int) (v6bbbbb : Int) (p8a : Int) (p8ba : Int) (p8bba : Int) (p8bbba : Int) (p8bbbbb : Int) (w2 : List Int) (w3 : List Int) : Option ((Int × Int × Int × Int × List Int × Int) × Int) :=
  if (decide ((v67 : Int) < 4)) = true then
    if (0 : Int) ≤ v67 ∧ (v67 : Int) < 4 then
      if (v66.getD (v67 : Int).toNat false) = true then
        if w3.length + ([v67]).length < room 8 then
          L18 v66 (IntKind.i64.wrap (v67 + 1)) v6a v6ba v6bba v6bbba v6bbbbb p8a p8ba p8bba p8bbba p8bbbbb w2 (w3 ++ ([v67]))
        else
          none
      else
        L18 v66 (IntKind.i64.wrap (v67 + 1)) v6a v6ba v6bba v6bbba v6bbbbb p8a p8ba p8bba p8bbba p8bbbbb w2 w3
    else
      none
  else
    some ((p8a, (p8ba, (p8bba, (p8bbba, (w3, p8bbbbb))))), 0)
def impl_PermitFor.l18 (n : Nat) : Nat → List Bool → Int → Int → Int → Int → Int → Int → Int → Int → Int → Int → Int → List Int → List Int → Option ((Int × Int × Int × Int × List Int × Int) × Int)
  | 0 => fun _ _ _ _ _ _ _ _ _ _ _ _ _ _ => none
  | k + 1 => impl_PermitFor.g18 (impl_PermitFor.l18 n k)
def impl_PermitFor.g10 (I18 : List Bool → Int → Int → Int → Int → Int → Int → Int → Int → Int → Int → Int → List Int → List Int → Option ((Int × Int × Int × Int × List Int × Int) × Int)) (L10 : List Int → (List (ByteArray × Int × Int × Int × Int × Int × Int × Int × Int)) → Int → Int → Int → Int → Int → Int → Int → Int → Int → Int → Int → Int → List Bool → List Int → List Int → Option ((Int × Int × Int × Int × List Int × Int) × Int)) (counts1 : List Int) (v38 : List (ByteArray × Int × Int × Int × Int × Int × Int × Int × Int)) (v39 : Int) (v40 : Int) (v6a : Int) (v6ba : Int) (v6bba : Int) (v6bbba : Int) (v6bbbbb : Int) (p8a : Int) (p8ba : Int) (p8bba : Int) (p8bbba : Int) (p8bbbbb : Int) (kinds9 : List Bool) (w3 : List Int) (w4 : List Int) : Option ((Int × Int × Int × Int × List Int × Int) × Int) :=
  if (decide ((v40 : Int) < v39)) = true then
    if (0 : Int) ≤ v40 ∧ (v40 : Int) < v38.length then
      if (0 : Int) ≤ v40 ∧ (v40 : Int) < counts1.length then
        if (decide ((0 : Int) < (counts1.getD (v40 : Int).toNat 0))) = true then
          if (0 : Int) ≤ (((v38.getD (v40 : Int).toNat (ByteArray.empty, (0, (0, (0, (0, (0, (0, (0, 0))))))))).2).1) ∧ ((((v38.getD (v40 : Int).toNat (ByteArray.empty, (0, (0, (0, (0, (0, (0, (0, 0))))))))).2).1) : Int) < 4 then
            L10 counts1 v38 v39 (IntKind.i64.wrap (v40 + 1)) v6a v6ba v6bba v6bbba v6bbbbb p8a p8ba p8bba (if ((((v38.getD (v40 : Int).toNat (ByteArray.empty, (0, (0, (0, (0, (0, (0, (0, 0))))))))).2).2).1) > p8bbba then ((((v38.getD (v40 : Int).toNat (ByteArray.empty, (0, (0, (0, (0, (0, (0, (0, 0))))))))).2).2).1) else p8bbba) (if (((((((((v38.getD (v40 : Int).toNat (ByteArray.empty, (0, (0, (0, (0, (0, (0, (0, 0))))))))).2).2).2).2).2).2).2).2) > p8bbbbb then (((((((((v38.getD (v40 : Int).toNat (ByteArray.empty, (0, (0, (0, (0, (0, (0, (0, 0))))))))).2).2).2).2).2).2).2).2) else p8bbbbb) (kinds9.set ((((v38.getD (v40 : Int).toNat (ByteArray.empty, (0, (0, (0, (0, (0, (0, (0, 0))))))))).2).1) : Int).toNat true) w3 w4
          else
            none
        else
          L10 counts1 v38 v39 (IntKind.i64.wrap (v40 + 1)) v6a v6ba v6bba v6bbba v6bbbbb p8a p8ba p8bba p8bbba p8bbbbb kinds9 w3 w4
      else
        none
    else
      none
  else
    I18 kinds9 0 v6a v6ba v6bba v6bbba v6bbbbb p8a p8ba p8bba p8bbba p8bbbbb w3 w4
def impl_PermitFor.l10 (n : Nat) : Nat → List Int → (List (ByteArray × Int × Int × Int × Int × Int × Int × Int × Int)) → Int → Int → Int → Int → Int → Int → Int → Int → Int → Int → Int → Int → List Bool → List Int → List Int → Option ((Int × Int × Int × Int × List Int × Int) × Int)
  | 0 => fun _ _ _ _ _ _ _ _ _ _ _ _ _ _ _ _ _ => none
  | k + 1 => impl_PermitFor.g10 (impl_PermitFor.l18 n n) (impl_PermitFor.l10 n k)
def impl_PermitFor.top (I10 : List Int → (List (ByteArray × Int × Int × Int × Int × Int × Int × Int × Int)) → Int → Int → Int → Int → Int → Int → Int → Int → Int → Int → Int → Int → List Bool → List Int → List Int → Option ((Int × Int × Int × Int × List Int × Int) × Int)) (list0 : List (ByteArray × Int × Int × Int × Int × Int × Int × Int × Int)) (counts1 : List Int) (day2 : Int) : Option ((Int × Int × Int × Int × List Int × Int) × Int) :=
  (impl_AreArticles.f list0).bind fun r1 =>
  if (!r1) = true then
    some ((0, (0, (0, (0, ([], 0))))), 1)
  else
    (impl_areCounts.f list0 counts1).bind fun r2 =>
    if (!r2) = false then
      (impl_isDay.f day2).bind fun r3 =>
      if (!r3) = true then
        some ((0, (0, (0, (0, ([], 0))))), 2)
      else
        (impl_orderNet.f list0 counts1).bind fun r4 =>
        if (decide ((1000000000 : Int) < r4)) = true then
          some ((0, (0, (0, (0, ([], 0))))), 3)
        else
          I10 counts1 list0 (list0.length : Int) 0 0 0 0 0 0 day2 day2 r4 20 0 (List.replicate 4 false) [] []
    else
      some ((0, (0, (0, (0, ([], 0))))), 2)
def impl_PermitFor.fn (n : Nat) (list0 : List (ByteArray × Int × Int × Int × Int × Int × Int × Int × Int)) (counts1 : List Int) (day2 : Int) : Option ((Int × Int × Int × Int × List Int × Int) × Int) := impl_PermitFor.top (impl_PermitFor.l10 n n) list0 counts1 day2
def impl_PermitFor.f (list0 : List (ByteArray × Int × Int × Int × Int × Int × Int × Int × Int)) (counts1 : List Int) (day2 : Int) : Option ((Int × Int × Int × Int × List Int × Int) × Int) := impl_PermitFor.fn NN list0 counts1 day2
end
end Go.Pl

namespace Go.Pl
open Go.Ev
set_option linter.unusedVariables false
noncomputable section
def spec_PermitFor.g6 (L6 : (List (ByteArray × Int × Int × Int × Int × Int × Int × Int × Int)) → List Int → Int → Int → Int → Int → Int → Int → Int → Int → Int → Int → Int → List Int → List Int → Option ((Int × Int × Int × Int × List Int × Int) × Int)) (list0 : List (ByteArray × Int × Int × Int × Int × Int × Int × Int × Int)) (counts1 : List Int) (i10 : Int) (v6a : Int) (v6ba : Int) (v6bba : Int) (v6bbba : Int) (v6bbbbb : Int) (p9a : Int) (p9ba : Int) (p9bba : Int) (p9bbba : Int) (p9bbbbb : Int) (w2 : List Int) (w3 : List Int) : Option ((Int × Int × Int × Int × List Int × Int) × Int) :=
  if (decide ((i10 : Int) < (list0.length : Int))) = true then
    if (0 : Int) ≤ i10 ∧ (i10 : Int) < counts1.length then
      if (decide ((0 : Int) < (counts1.getD (i10 : Int).toNat 0))) = true then
        if (0 : Int) ≤ i10 ∧ (i10 : Int) < list0.length then
          if (0 : Int) ≤ i10 ∧ (i10 : Int) < counts1.length then
            if (0 : Int) ≤ i10 ∧ (i10 : Int) < list0.length then
              if (0 : Int) ≤ i10 ∧ (i10 : Int) < list0.length then
                (spec_l03Insert.f w3 (((list0.getD (i10 : Int).toNat (ByteArray.empty, (0, (0, (0, (0, (0, (0, (0, 0))))))))).2).1)).bind fun r2 =>
                if (0 : Int) ≤ i10 ∧ (i10 : Int) < list0.length then
                  L6 list0 counts1 (IntKind.i64.wrap (i10 + 1)) v6a v6ba v6bba v6bbba v6bbbbb p9a p9ba (IntKind.i64.wrap (p9bba + (IntKind.i64.wrap ((((((((((list0.getD (i10 : Int).toNat (ByteArray.empty, (0, (0, (0, (0, (0, (0, (0, 0))))))))).2).2).2).2).2).2).2).1) * (counts1.getD (i10 : Int).toNat 0))))) (if ((((list0.getD (i10 : Int).toNat (ByteArray.empty, (0, (0, (0, (0, (0, (0, (0, 0))))))))).2).2).1) > p9bbba then ((((list0.getD (i10 : Int).toNat (ByteArray.empty, (0, (0, (0, (0, (0, (0, (0, 0))))))))).2).2).1) else p9bbba) (if (((((((((list0.getD (i10 : Int).toNat (ByteArray.empty, (0, (0, (0, (0, (0, (0, (0, 0))))))))).2).2).2).2).2).2).2).2) > p9bbbbb then (((((((((list0.getD (i10 : Int).toNat (ByteArray.empty, (0, (0, (0, (0, (0, (0, (0, 0))))))))).2).2).2).2).2).2).2).2) else p9bbbbb) w2 r2
                else
                  none
              else
                none
            else
              none
          else
            none
        else
          none
      else
        L6 list0 counts1 (IntKind.i64.wrap (i10 + 1)) v6a v6ba v6bba v6bbba v6bbbbb p9a p9ba p9bba p9bbba p9bbbbb w2 w3
    else
      none
  else if (decide ((1000000000 : Int) < p9bba)) = true then
    some ((0, (0, (0, (0, ([], 0))))), 3)
  else
    some ((p9a, (p9ba, (p9bba, (p9bbba, (w3, p9bbbbb))))), 0)
def spec_PermitFor.l6 (n : Nat) : Nat → (List (ByteArray × Int × Int × Int × Int × Int × Int × Int × Int)) → List Int → Int → Int → Int → Int → Int → Int → Int → Int → Int → Int → Int → List Int → List Int → Option ((Int × Int × Int × Int × List Int × Int) × Int)
  | 0 => fun _ _ _ _ _ _ _ _ _ _ _ _ _ _ _ => none
  | k + 1 => spec_PermitFor.g6 (spec_PermitFor.l6 n k)
def spec_PermitFor.top (I6 : (List (ByteArray × Int × Int × Int × Int × Int × Int × Int × Int)) → List Int → Int → Int → Int → Int → Int → Int → Int → Int → Int → Int → Int → List Int → List Int → Option ((Int × Int × Int × Int × List Int × Int) × Int)) (list0 : List (ByteArray × Int × Int × Int × Int × Int × Int × Int × Int)) (counts1 : List Int) (day2 : Int) : Option ((Int × Int × Int × Int × List Int × Int) × Int) :=
  (spec_l30Code.f [] list0 counts1 day2).bind fun r1 =>
  if ((r1 : Int) != 0) = true then
    some ((0, (0, (0, (0, ([], 0))))), r1)
  else
    I6 list0 counts1 0 0 0 0 0 0 day2 day2 0 20 0 [] []
def spec_PermitFor.fn (n : Nat) (list0 : List (ByteArray × Int × Int × Int × Int × Int × Int × Int × Int)) (counts1 : List Int) (day2 : Int) : Option ((Int × Int × Int × Int × List Int × Int) × Int) := spec_PermitFor.top (spec_PermitFor.l6 n n) list0 counts1 day2
def spec_PermitFor.f (list0 : List (ByteArray × Int × Int × Int × Int × Int × Int × Int × Int)) (counts1 : List Int) (day2 : Int) : Option ((Int × Int × Int × Int × List Int × Int) × Int) := spec_PermitFor.fn NN list0 counts1 day2
end
end Go.Pl

namespace Go.Pl
open Go.Ev
set_option linter.unusedVariables false
set_option linter.unusedSimpArgs false
def insK (n : Int) : List Int → List Int
  | [] => [n]
  | a :: r => if a < n then a :: insK n r else if a = n then a :: r else n :: a :: r
def hitK (n : Int) (xs : List Int) (i : Nat) (a : Int) : List Int := if a = n then xs else xs.take i ++ n :: xs.drop i
theorem insK_first (n : Int) : ∀ (r p : List Int), p ++ insK n r = (firstOf (fun a => !decide (a < n)) p.length r).elim (p ++ r ++ [n]) (fun x => hitK n (p ++ r) x.1 x.2) := by
  intro r
  induction r with
  | nil => intro p; simp [insK, firstOf]
  | cons l r ih =>
    intro p
    have := ih (p ++ [l])
    simp only [insK, firstOf]
    by_cases h : l < n
    · simp only [h, if_true, decide_true, Bool.not_true, Bool.false_eq_true, if_false]
      simp only [List.length_append, List.length_singleton, List.append_assoc, List.singleton_append] at this ⊢
      exact this
    · simp only [h, if_false, decide_false, Bool.not_false, if_true, Option.elim, hitK]
      by_cases h2 : l = n <;> simp [h2]
theorem room8n {n : Nat} (h : n ≤ 2000000) : n < room 8 := by rw [room8]; omega
theorem spec_l03Insert_f (xs : List Int) (n : Int) (h : xs.length ≤ 1000000) : spec_l03Insert.f xs n = some (insK n xs) := by
  have := find_loop (E := fun _ => True) (fun a => !decide (a < n)) (fun i a => some (hitK n xs i a)) (fun p => some (p ++ [n])) (fun k p i => if p = xs then spec_l03Insert.l2 NN k n i p else (firstOf (fun a => !decide (a < n)) i.toNat (p.drop i.toNat)).elim (some (p ++ [n])) (fun x => some (hitK n xs x.1 x.2))) ?_ ?_ xs (fun _ _ => trivial) (by omega) NN (NN_lt (by omega))
  · rw [if_pos rfl] at this
    unfold spec_l03Insert.f spec_l03Insert.fn spec_l03Insert.top
    rw [this]
    have h2 := insK_first n xs []
    simp only [List.nil_append, List.length_nil] at h2
    rw [h2]
    cases firstOf (fun a => !decide (a < n)) 0 xs <;> rfl
  · intro k p
    by_cases hp : p = xs
    · subst hp
      rw [if_pos rfl]
      have q0 : (0 : Int) ≤ (p.length : Int) := by omega
      simp only [spec_l03Insert.l2, spec_l03Insert.g2, Int.lt_irrefl, and_self, and_true, true_and, decide_true, decide_false, if_true, if_false, mid_get, mid_set, mid_getn, mid_setn, bt_mid, Option.bind_some, Bool.not_true, Bool.not_false, Bool.false_eq_true, Bool.true_eq_false, beq_self_eq_true, bne_self_eq_false, Int.toNat_natCast, Int.le_refl, q0, List.take_length, List.drop_length, List.nil_append, List.append_nil]
      rw [if_pos (room8n (by simp; omega)), if_pos (room8n (by simp; omega)), if_pos (room8n (by simp; omega))]
    · rw [if_neg hp]; simp [firstOf]
  · intro k p l r _ c0 c1 c2 cw
    by_cases hp : p ++ l :: r = xs
    · rw [if_pos hp, if_pos hp, hp]
      have c1' : (p.length : Int) < (xs.length : Int) := by rw [← hp]; exact c1
      have g : ∀ z, xs.getD p.length z = l := fun z => by rw [← hp, mid_getn]
      have c3 : (p.length : Int) ≤ (xs.length : Int) := by omega
      simp only [spec_l03Insert.l2, spec_l03Insert.g2, c0, c1', c3, cw, and_self, and_true, true_and, decide_true, decide_false, if_true, if_false, mid_get, mid_set, mid_getn, mid_setn, bt_mid, Option.bind_some, Bool.not_true, Bool.not_false, Bool.false_eq_true, Bool.true_eq_false, beq_self_eq_true, bne_self_eq_false, Int.toNat_natCast, g]
      by_cases h1 : l < n
      · simp [h1]
      · simp only [h1, decide_false, Bool.false_eq_true, if_false, Bool.not_false, if_true, hitK]
        by_cases h2 : l = n
        · simp [h2]
        · have h2' : (l == n) = false := by simpa using h2
          simp only [h2, h2', Bool.false_eq_true, if_false, List.nil_append]
          rw [if_pos (room8n (by simp; omega)), if_pos (room8n (by simp; omega)), if_pos (room8n (by simp; omega))]
          simp
    · rw [if_neg hp, if_neg hp]
      have t1 : ((p.length : Int) + 1).toNat = p.length + 1 := by omega
      rw [t1, Int.toNat_natCast, List.drop_left, show p ++ l :: r = (p ++ [l]) ++ r by simp, show p.length + 1 = (p ++ [l]).length by simp, List.drop_left]
      simp only [firstOf]
      by_cases h1 : l < n
      · simp only [h1, decide_true, Bool.not_true, Bool.false_eq_true, if_false, List.length_append, List.length_singleton]
      · simp only [h1, decide_false, Bool.not_false, if_true, Option.elim]
/-- the kinds that are set -/
def flg (a b c d : Bool) : List Int := (if a = true then [0] else []) ++ ((if b = true then [1] else []) ++ ((if c = true then [2] else []) ++ (if d = true then [3] else [])))
theorem flg_len (a b c d : Bool) : (flg a b c d).length ≤ 4 := by cases a <;> cases b <;> cases c <;> cases d <;> decide
theorem flg_set (a b c d : Bool) (k : Int) (h0 : 0 ≤ k) (h3 : k ≤ 3) : ∃ a' b' c' d', [a, b, c, d].set k.toNat true = [a', b', c', d'] ∧ insK k (flg a b c d) = flg a' b' c' d' := by
  have hk : k = 0 ∨ k = 1 ∨ k = 2 ∨ k = 3 := by omega
  rcases hk with rfl | rfl | rfl | rfl
  · exact ⟨true, b, c, d, rfl, by cases a <;> cases b <;> cases c <;> cases d <;> rfl⟩
  · exact ⟨a, true, c, d, rfl, by cases a <;> cases b <;> cases c <;> cases d <;> rfl⟩
  · exact ⟨a, b, true, d, rfl, by cases a <;> cases b <;> cases c <;> cases d <;> rfl⟩
  · exact ⟨a, b, c, true, rfl, by cases a <;> cases b <;> cases c <;> cases d <;> rfl⟩
structure PF where
  cal : Int
  grp : Int
  a : Bool
  b : Bool
  c : Bool
  d : Bool
def PF.fl (s : PF) : List Bool := [s.a, s.b, s.c, s.d]
def PF.ks (s : PF) : List Int := flg s.a s.b s.c s.d
/-- flags with one more -/
def setF4 (l : List Bool) (s : PF) : PF := { s with a := l.getD 0 false, b := l.getD 1 false, c := l.getD 2 false, d := l.getD 3 false }
def pfF (cs : List Int) (i : Nat) (s : PF) (x : Art) : PF :=
  if 0 < cs.getD i 0 then setF4 (s.fl.set x.2.1.toNat true) { s with cal := maxD x.2.2.1 s.cal, grp := maxD x.2.2.2.2.2.2.2.2 s.grp } else s
theorem pf_fl {s : PF} {k : Int} (h0 : 0 ≤ k) (h3 : k ≤ 3) (c g : Int) : (setF4 (s.fl.set k.toNat true) { s with cal := c, grp := g }).fl = s.fl.set k.toNat true ∧ (setF4 (s.fl.set k.toNat true) { s with cal := c, grp := g }).ks = insK k s.ks ∧ (setF4 (s.fl.set k.toNat true) { s with cal := c, grp := g }).cal = c ∧ (setF4 (s.fl.set k.toNat true) { s with cal := c, grp := g }).grp = g := by
  obtain ⟨a', b', c', d', e1, e2⟩ := flg_set s.a s.b s.c s.d k h0 h3
  unfold PF.fl PF.ks
  rw [e1, e2]
  exact ⟨rfl, rfl, rfl, rfl⟩
def pf0 : PF := ⟨20, 0, false, false, false, false⟩
def pfL (xs : List Art) (cs : List Int) : PF := foldi (pfF cs) 0 pf0 xs
abbrev Z6 : Prm := (0, (0, (0, (0, ([], 0)))))
def pfV (day net : Int) (s : PF) : Prm := (day, (day, (net, (s.cal, (s.ks, s.grp)))))
theorem impl_pf_ks (s : PF) (v1 v2 v3 v4 v5 day net : Int) (w : List Int) : impl_PermitFor.l18 NN NN s.fl 0 v1 v2 v3 v4 v5 day day net s.cal s.grp w [] = some (pfV day net s, 0) := by
  have := (fold_fix (E := fun _ => True) (fun (p : List Bool) (out : List Int) => out.length ≤ p.length) (fun i (out : List Int) (b : Bool) => if b = true then out ++ [(i : Int)] else out) (fun out => some (((day, (day, (net, (s.cal, (out, s.grp))))) : Prm), (0 : Int))) (fun k i out => impl_PermitFor.l18 NN k s.fl i v1 v2 v3 v4 v5 day day net s.cal s.grp w out) s.fl ?_ ?_ [] (fun _ _ => trivial) (by simp) (by simp [PF.fl]) NN (NN_lt (by simp [PF.fl]))).2
  · refine this.trans ?_
    obtain ⟨c, g, a, b, cc, d⟩ := s
    unfold pfV PF.ks PF.fl
    simp only [foldi]
    cases a <;> cases b <;> cases cc <;> cases d <;> rfl
  · intro k out _
    have n1 : ¬ (s.fl.length : Int) < 4 := by simp [PF.fl]
    simp only [impl_PermitFor.l18, impl_PermitFor.g18, n1, and_self, and_true, true_and, decide_true, decide_false, if_true, if_false, mid_get, mid_set, mid_getn, mid_setn, bt_mid, Option.bind_some, Bool.not_true, Bool.not_false, Bool.false_eq_true, Bool.true_eq_false, beq_self_eq_true, bne_self_eq_false, Int.toNat_natCast]
  · intro k p b r out hx _ hI c0 c1 c2 cw g
    have hl4 : s.fl.length = 4 := rfl
    have c3 : (p.length : Int) < 4 := by rw [hl4] at c1; exact c1
    refine ⟨by split <;> simp <;> omega, ?_⟩
    have hr := room8n (n := out.length + [(p.length : Int)].length) (by simp; omega)
    simp only [impl_PermitFor.l18, impl_PermitFor.g18, c0, c3, cw, and_self, and_true, true_and, decide_true, decide_false, if_true, if_false, mid_get, mid_set, mid_getn, mid_setn, bt_mid, Option.bind_some, Bool.not_true, Bool.not_false, Bool.false_eq_true, Bool.true_eq_false, beq_self_eq_true, bne_self_eq_false, Int.toNat_natCast, g, hr]
    cases b <;> simp
def pfR (xs : List Art) (cs : List Int) (day : Int) : Prm × Int := if askO true xs cs day = 0 then (if 1000000000 < netO xs cs then (Z6, 3) else (pfV day (netO xs cs) (pfL xs cs), 0)) else (Z6, askO true xs cs day)
theorem ask_iffP (b : Bool) (xs : List Art) (cs : List Int) (day : Int) (v : Prm × Int) : (if askO b xs cs day = 0 then v else (Z6, askO b xs cs day)) = if b = true then (if artsB xs = true then (if cntsB xs cs = true then (if inB day 0 100000 = true then v else (Z6, 2)) else (Z6, 2)) else (Z6, 1)) else (Z6, 1) := by
  unfold askO
  cases b
  · rfl
  cases artsB xs
  · rfl
  cases cntsB xs cs
  · rfl
  cases inB day 0 100000 <;> rfl
theorem pf_step (cs : List Int) (i : Nat) (s : PF) (x : Art) (hx : artB x = true) : (0 < cs.getD i 0 → (pfF cs i s x).fl = s.fl.set x.2.1.toNat true ∧ (pfF cs i s x).ks = insK x.2.1 s.ks ∧ (pfF cs i s x).cal = maxD x.2.2.1 s.cal ∧ (pfF cs i s x).grp = maxD x.2.2.2.2.2.2.2.2 s.grp) ∧ (¬ 0 < cs.getD i 0 → pfF cs i s x = s) := by
  have hb := artB_iff hx
  refine ⟨fun h => ?_, fun h => by unfold pfF; rw [if_neg h]⟩
  unfold pfF
  rw [if_pos h]
  exact pf_fl hb.2.1.1 hb.2.1.2 _ _
theorem PermitFor_both (xs : List Art) (cs : List Int) (day : Int) (hx : Lm OkArticle xs) (hc : Lm (Rg .i64) cs) : spec_PermitFor.f xs cs day = some (pfR xs cs day) ∧ impl_PermitFor.f xs cs day = some (pfR xs cs day) := by
  have hb : xs.length ≤ 140737488355328 := Nat.le_trans hx.1 (by omega)
  refine ⟨?_, ?_⟩
  · unfold spec_PermitFor.f spec_PermitFor.fn spec_PermitFor.top pfR
    rw [spec_l30Code_f [] xs cs day (by simp) (by simp) hb (arts_z hx) hc.1]
    have e1 : permsL [] = true := rfl
    rw [e1]
    simp only [Option.bind_some]
    by_cases h0 : askO true xs cs day = 0
    · obtain ⟨_, a1, a2, _⟩ := askO_zero h0
      obtain ⟨h1, h2⟩ := artsB_ok a1
      obtain ⟨h3, h4⟩ := cntsB_iff a2
      rw [if_pos h0, if_neg (by rw [h0]; decide)]
      have := (fold_fix (E := fun a : Art => artB a = true) (fun q (st : Int × PF) => 0 ≤ st.1 ∧ st.1 ≤ 100000000 * q.length) (fun i (st : Int × PF) a => (netS cs i st.1 a, pfF cs i st.2 a)) (fun st => some (if 1000000000 < st.1 then ((Z6 : Prm), (3 : Int)) else (pfV day st.1 st.2, 0))) (fun k i st => spec_PermitFor.l6 NN k xs cs i 0 0 0 0 0 day day st.1 st.2.cal st.2.grp [] st.2.ks) xs ?_ ?_ (0, pf0) h2 (by simp) (by omega) NN (NN_lt (by omega))).2
      · have hf : ∀ (ys : List Art) (i : Nat) (st : Int × PF), foldi (fun i (st : Int × PF) a => (netS cs i st.1 a, pfF cs i st.2 a)) i st ys = (foldi (netS cs) i st.1 ys, foldi (pfF cs) i st.2 ys) := by
          intro ys
          induction ys with
          | nil => intro i st; rfl
          | cons a r ih => intro i st; simp only [foldi, ih]
        rw [hf] at this
        exact this
      · intro k st _
        simp only [spec_PermitFor.l6, spec_PermitFor.g6, Int.lt_irrefl, and_self, and_true, true_and, decide_true, decide_false, if_true, if_false, mid_get, mid_set, mid_getn, mid_setn, bt_mid, Option.bind_some, Bool.not_true, Bool.not_false, Bool.false_eq_true, Bool.true_eq_false, beq_self_eq_true, bne_self_eq_false, Int.toNat_natCast]
        by_cases h : 1000000000 < st.1 <;> simp [h, pfV]
      · intro k q a r st hxx ha hI c0 c1 c2 cw g
        have hpl : q.length ≤ 12 := by rw [hxx] at h1; simp at h1; omega
        have c3 : (q.length : Int) < (cs.length : Int) := by omega
        have hbd := mul_bd (artB_iff ha).2.2.2.1 (h4 q.length)
        have hc4 := h4 q.length
        have w1 := w64 (n := a.2.2.2.2.2.2.2.1 * cs.getD q.length 0) (by omega) (by omega)
        have w2 := w64 (n := st.1 + a.2.2.2.2.2.2.2.1 * cs.getD q.length 0) (by omega) (by omega)
        refine ⟨by unfold netS; rw [List.length_append, List.length_singleton]; simp only; omega, ?_⟩
        obtain ⟨s1, s2⟩ := pf_step cs q.length st.2 a ha
        simp only [spec_PermitFor.l6, spec_PermitFor.g6, c0, c1, c3, cw, and_self, and_true, true_and, decide_true, decide_false, if_true, if_false, mid_get, mid_set, mid_getn, mid_setn, bt_mid, Option.bind_some, Bool.not_true, Bool.not_false, Bool.false_eq_true, Bool.true_eq_false, beq_self_eq_true, bne_self_eq_false, Int.toNat_natCast, g, w1, w2, decide_eq_true_eq]
        by_cases hp : 0 < cs.getD q.length 0
        · obtain ⟨t1, t2, t3, t4⟩ := s1 hp
          have hkl : st.2.ks.length ≤ 4 := flg_len _ _ _ _
          rw [if_pos hp, spec_l03Insert_f _ _ (by omega), t2, t3, t4]
          rfl
        · have hz : cs.getD q.length 0 = 0 := by omega
          rw [if_neg hp, s2 hp]
          unfold netS
          rw [hz, Int.mul_zero, Int.add_zero]
    · rw [if_neg h0, if_pos (by simpa using h0)]
  · unfold impl_PermitFor.f impl_PermitFor.fn impl_PermitFor.top pfR
    rw [impl_AreArticles_f xs hb (arts_z hx), impl_areCounts_f xs cs hc.1, impl_isDay_f, ask_iffP]
    cases a1 : artsB xs
    · rfl
    cases a2 : cntsB xs cs
    · rfl
    cases inB day 0 100000
    · rfl
    obtain ⟨h1, h2⟩ := artsB_ok a1
    obtain ⟨h3, h4⟩ := cntsB_iff a2
    simp only [Option.bind_some, Bool.not_true, Bool.false_eq_true, if_false, if_true, (impl_orderNet_f xs cs a1 a2).2, decide_eq_true_eq]
    by_cases hn : 1000000000 < netO xs cs
    · rw [if_pos hn, if_pos hn]
    rw [if_neg hn, if_neg hn]
    have := (fold_fix (E := fun a : Art => artB a = true) (fun _ _ => True) (pfF cs) (fun s => some (pfV day (netO xs cs) s, (0 : Int))) (fun k i s => impl_PermitFor.l10 NN k cs xs xs.length i 0 0 0 0 0 day day (netO xs cs) s.cal s.grp s.fl [] []) xs ?_ ?_ pf0 h2 trivial (by omega) NN (NN_lt (by omega))).2
    · exact this
    · intro k s _
      simp only [impl_PermitFor.l10, impl_PermitFor.g10, Int.lt_irrefl, and_self, and_true, true_and, decide_true, decide_false, if_true, if_false, mid_get, mid_set, mid_getn, mid_setn, bt_mid, Option.bind_some, Bool.not_true, Bool.not_false, Bool.false_eq_true, Bool.true_eq_false, beq_self_eq_true, bne_self_eq_false, Int.toNat_natCast]
      exact impl_pf_ks s _ _ _ _ _ _ _ _
    · intro k q a r s hxx ha _ c0 c1 c2 cw g
      refine ⟨trivial, ?_⟩
      have c3 : (q.length : Int) < (cs.length : Int) := by omega
      have hab := artB_iff ha
      have k1 : (0 : Int) ≤ a.2.1 := hab.2.1.1
      have k2 : a.2.1 < 4 := by have := hab.2.1.2; omega
      obtain ⟨s1, s2⟩ := pf_step cs q.length s a ha
      simp only [impl_PermitFor.l10, impl_PermitFor.g10, c0, c1, c3, cw, and_self, and_true, true_and, decide_true, decide_false, if_true, if_false, mid_get, mid_set, mid_getn, mid_setn, bt_mid, Option.bind_some, Bool.not_true, Bool.not_false, Bool.false_eq_true, Bool.true_eq_false, beq_self_eq_true, bne_self_eq_false, Int.toNat_natCast, g, k1, k2, decide_eq_true_eq]
      by_cases hp : 0 < cs.getD q.length 0
      · obtain ⟨t1, t2, t3, t4⟩ := s1 hp
        rw [if_pos hp, t1, t3, t4]
        rfl
      · rw [if_neg hp, s2 hp]
theorem pfR_ok (xs : List Art) (cs : List Int) (day : Int) (hd : Rg .i64 day) : OkPermit (pfR xs cs day).1 := by
  have hz : OkPermit Z6 := ⟨wf64.2 (by simp), wf64.2 (by simp), wf64.2 (by simp), wf64.2 (by simp), ⟨by simp, by simp⟩, wf64.2 (by simp)⟩
  unfold pfR
  split
  · rename_i h0
    obtain ⟨_, a1, a2, a3⟩ := askO_zero h0
    have hdd := inB_iff.1 a3
    obtain ⟨h1, h2⟩ := artsB_ok a1
    split
    · exact hz
    · have hno := (impl_orderNet_f xs cs a1 a2).1
      have hb : ∀ (ys : List Art) (i : Nat) (s : PF), (∀ a ∈ ys, artB a = true) → (0 ≤ s.cal ∧ s.cal ≤ 1000 ∧ 0 ≤ s.grp ∧ s.grp ≤ 10) → (0 ≤ (foldi (pfF cs) i s ys).cal ∧ (foldi (pfF cs) i s ys).cal ≤ 1000 ∧ 0 ≤ (foldi (pfF cs) i s ys).grp ∧ (foldi (pfF cs) i s ys).grp ≤ 10) := by
        intro ys
        induction ys with
        | nil => intro i s _ h; exact h
        | cons a r ih =>
          intro i s ha h
          refine ih _ _ (fun y hy => ha y (by simp [hy])) ?_
          have hab := artB_iff (ha a (by simp))
          obtain ⟨s1, s2⟩ := pf_step cs i s a (ha a (by simp))
          by_cases hp : 0 < cs.getD i 0
          · obtain ⟨_, _, t3, t4⟩ := s1 hp
            rw [t3, t4]
            unfold maxD
            obtain ⟨_, _, b3, _, b5⟩ := hab
            split <;> split <;> omega
          · rw [s2 hp]; exact h
      have := hb xs 0 pf0 h2 (by simp [pf0])
      have hks : ∀ k ∈ (pfL xs cs).ks, Rg .i64 k := fun k hk => by
        unfold PF.ks flg at hk
        refine wf64.2 ?_
        simp only [List.mem_append] at hk
        rcases hk with h | h | h | h <;> (split at h <;> simp at h <;> omega)
      refine ⟨hd, hd, wf64.2 (by simp only [pfV]; omega), wf64.2 ?_, ⟨?_, hks⟩, wf64.2 ?_⟩
      · show -9223372036854775808 ≤ (pfL xs cs).cal ∧ (pfL xs cs).cal ≤ 9223372036854775807
        unfold pfL; omega
      · have : (pfL xs cs).ks.length ≤ 4 := flg_len _ _ _ _
        show (pfL xs cs).ks.length ≤ 1000000
        omega
      · show -9223372036854775808 ≤ (pfL xs cs).grp ∧ (pfL xs cs).grp ≤ 9223372036854775807
        unfold pfL; omega
  · exact hz
theorem PermitFor_core (xs : List Art) (cs : List Int) (day : Int) (hx : Lm OkArticle xs) (hc : Lm (Rg .i64) cs) (hd : Rg .i64 day) : ∃ w, spec_PermitFor.f xs cs day = some w ∧ impl_PermitFor.f xs cs day = some w ∧ OkPermit w.1 :=
  ⟨_, (PermitFor_both xs cs day hx hc).1, (PermitFor_both xs cs day hx hc).2, pfR_ok xs cs day hd⟩
end Go.Pl

namespace Go.Pl
open Go.Ev
set_option linter.unusedVariables false
noncomputable section
def spec_DrawRefusalsOf.top (code0 : List Int) : Option ((Int × Int × Int × Int × List Int × Int) × (List (ByteArray × Int × Int × Int × Int × Int × Int × Int × Int)) × List Int × Int) :=
  (spec_l01From.f code0).bind fun r1 =>
  (spec_l30Draw.f r1).bind fun r2 =>
  (spec_l03List.f r2.2).bind fun r3 =>
  (spec_l03Counts.f r3.2 (r3.1.length : Int)).bind fun r4 =>
  (spec_l01Next.f r4.2 50).bind fun r5 =>
  (spec_l01Pick.f r5.2 ([IntKind.i64.wrap (100 + r5.1), r2.1.1, r2.1.2.1, IntKind.i64.wrap (r2.1.2.1 + 1), 100000, 100001])).bind fun r6 =>
  some ((r2.1.1, (r2.1.2.1, (r2.1.2.2.1, (r2.1.2.2.2.1, (r2.1.2.2.2.2.1, r2.1.2.2.2.2.2))))), r3.1, r4.1, r6.1)
def spec_DrawRefusalsOf.fn (n : Nat) (code0 : List Int) : Option ((Int × Int × Int × Int × List Int × Int) × (List (ByteArray × Int × Int × Int × Int × Int × Int × Int × Int)) × List Int × Int) := spec_DrawRefusalsOf.top code0
def spec_DrawRefusalsOf.f (code0 : List Int) : Option ((Int × Int × Int × Int × List Int × Int) × (List (ByteArray × Int × Int × Int × Int × Int × Int × Int × Int)) × List Int × Int) := spec_DrawRefusalsOf.fn NN code0
end
end Go.Pl

namespace Go.Pl
open Go.Ev
set_option linter.unusedVariables false
noncomputable section
def spec_DrawFirstPermit.g6 (L6 : Int → Int → (List (Int × Int × Int × Int × List Int × Int)) → (List (ByteArray × Int × Int × Int × Int × Int × Int × Int × Int)) → List Int → Option ((List (Int × Int × Int × Int × List Int × Int)) × (List (ByteArray × Int × Int × Int × Int × Int × Int × Int × Int)) × List Int × Int)) (day11 : Int) (i12 : Int) (permits7 : List (Int × Int × Int × Int × List Int × Int)) (list9 : List (ByteArray × Int × Int × Int × Int × Int × Int × Int × Int)) (counts10 : List Int) : Option ((List (Int × Int × Int × Int × List Int × Int)) × (List (ByteArray × Int × Int × Int × Int × Int × Int × Int × Int)) × List Int × Int) :=
  if (decide ((i12 : Int) < (counts10.length : Int))) = true then
    if (0 : Int) ≤ i12 ∧ (i12 : Int) < counts10.length then
      if (0 : Int) ≤ i12 ∧ (i12 : Int) < counts10.length then
        L6 day11 (IntKind.i64.wrap (i12 + 1)) permits7 list9 (counts10.set (i12 : Int).toNat (if 1 < (counts10.getD (i12 : Int).toNat 0) then 1 else (counts10.getD (i12 : Int).toNat 0)))
      else
        none
    else
      none
  else
    some (permits7, list9, counts10, day11)
def spec_DrawFirstPermit.l6 (n : Nat) : Nat → Int → Int → (List (Int × Int × Int × Int × List Int × Int)) → (List (ByteArray × Int × Int × Int × Int × Int × Int × Int × Int)) → List Int → Option ((List (Int × Int × Int × Int × List Int × Int)) × (List (ByteArray × Int × Int × Int × Int × Int × Int × Int × Int)) × List Int × Int)
  | 0 => fun _ _ _ _ _ => none
  | k + 1 => spec_DrawFirstPermit.g6 (spec_DrawFirstPermit.l6 n k)
def spec_DrawFirstPermit.top (I6 : Int → Int → (List (Int × Int × Int × Int × List Int × Int)) → (List (ByteArray × Int × Int × Int × Int × Int × Int × Int × Int)) → List Int → Option ((List (Int × Int × Int × Int × List Int × Int)) × (List (ByteArray × Int × Int × Int × Int × Int × Int × Int × Int)) × List Int × Int)) (code0 : List Int) : Option ((List (Int × Int × Int × Int × List Int × Int)) × (List (ByteArray × Int × Int × Int × Int × Int × Int × Int × Int)) × List Int × Int) :=
  (spec_l01From.f code0).bind fun r1 =>
  (spec_l30List.f r1).bind fun r2 =>
  (spec_DrawRefusalsOf.f code0).bind fun r3 =>
  (spec_l01Next.f r2.2 2).bind fun r4 =>
  if ((r4.1 : Int) == 0) = true then
    I6 r3.2.2.2 0 r2.1 r3.2.1 r3.2.2.1
  else
    some (r2.1, r3.2.1, r3.2.2.1, r3.2.2.2)
def spec_DrawFirstPermit.fn (n : Nat) (code0 : List Int) : Option ((List (Int × Int × Int × Int × List Int × Int)) × (List (ByteArray × Int × Int × Int × Int × Int × Int × Int × Int)) × List Int × Int) := spec_DrawFirstPermit.top (spec_DrawFirstPermit.l6 n n) code0
def spec_DrawFirstPermit.f (code0 : List Int) : Option ((List (Int × Int × Int × Int × List Int × Int)) × (List (ByteArray × Int × Int × Int × Int × Int × Int × Int × Int)) × List Int × Int) := spec_DrawFirstPermit.fn NN code0
end
end Go.Pl

namespace Go.Pl
open Go.Ev
set_option linter.unusedVariables false
noncomputable section
def spec_DrawNextDay.top (code0 : List Int) : Option ((List (Int × Int × Int × Int × List Int × Int)) × (List (ByteArray × Int × Int × Int × Int × Int × Int × Int × Int)) × List Int × Int) :=
  (spec_DrawFirstPermit.f code0).bind fun r1 =>
  some (r1.1, r1.2.1, r1.2.2.1, r1.2.2.2)
def spec_DrawNextDay.fn (n : Nat) (code0 : List Int) : Option ((List (Int × Int × Int × Int × List Int × Int)) × (List (ByteArray × Int × Int × Int × Int × Int × Int × Int × Int)) × List Int × Int) := spec_DrawNextDay.top code0
def spec_DrawNextDay.f (code0 : List Int) : Option ((List (Int × Int × Int × Int × List Int × Int)) × (List (ByteArray × Int × Int × Int × Int × Int × Int × Int × Int)) × List Int × Int) := spec_DrawNextDay.fn NN code0
end
end Go.Pl

namespace Go.Pl
open Go.Ev
set_option linter.unusedVariables false
noncomputable section
def spec_DrawPermitFor.g9 (L9 : Int → Int → (List (ByteArray × Int × Int × Int × Int × Int × Int × Int × Int)) → List Int → Option ((List (ByteArray × Int × Int × Int × Int × Int × Int × Int × Int)) × List Int × Int)) (day9 : Int) (i11 : Int) (list7 : List (ByteArray × Int × Int × Int × Int × Int × Int × Int × Int)) (counts8 : List Int) : Option ((List (ByteArray × Int × Int × Int × Int × Int × Int × Int × Int)) × List Int × Int) :=
  if (decide ((i11 : Int) < (counts8.length : Int))) = true then
    if (0 : Int) ≤ i11 ∧ (i11 : Int) < counts8.length then
      L9 day9 (IntKind.i64.wrap (i11 + 1)) list7 (counts8.set (i11 : Int).toNat 1000)
    else
      none
  else
    some (list7, counts8, day9)
def spec_DrawPermitFor.l9 (n : Nat) : Nat → Int → Int → (List (ByteArray × Int × Int × Int × Int × Int × Int × Int × Int)) → List Int → Option ((List (ByteArray × Int × Int × Int × Int × Int × Int × Int × Int)) × List Int × Int)
  | 0 => fun _ _ _ _ => none
  | k + 1 => spec_DrawPermitFor.g9 (spec_DrawPermitFor.l9 n k)
def spec_DrawPermitFor.g5 (I9 : Int → Int → (List (ByteArray × Int × Int × Int × Int × Int × Int × Int × Int)) → List Int → Option ((List (ByteArray × Int × Int × Int × Int × Int × Int × Int × Int)) × List Int × Int)) (L5 : Int → Int → (List (ByteArray × Int × Int × Int × Int × Int × Int × Int × Int)) → List Int → Option ((List (ByteArray × Int × Int × Int × Int × Int × Int × Int × Int)) × List Int × Int)) (day9 : Int) (i10 : Int) (list7 : List (ByteArray × Int × Int × Int × Int × Int × Int × Int × Int)) (counts8 : List Int) : Option ((List (ByteArray × Int × Int × Int × Int × Int × Int × Int × Int)) × List Int × Int) :=
  if (decide ((i10 : Int) < (list7.length : Int))) = true then
    if (0 : Int) ≤ i10 ∧ (i10 : Int) < list7.length then
      (some (list7.set (i10 : Int).toNat ((list7.getD (i10 : Int).toNat (ByteArray.empty, (0, (0, (0, (0, (0, (0, (0, 0))))))))).1, (((list7.getD (i10 : Int).toNat (ByteArray.empty, (0, (0, (0, (0, (0, (0, (0, 0))))))))).2).1, ((((list7.getD (i10 : Int).toNat (ByteArray.empty, (0, (0, (0, (0, (0, (0, (0, 0))))))))).2).2).1, (((((list7.getD (i10 : Int).toNat (ByteArray.empty, (0, (0, (0, (0, (0, (0, (0, 0))))))))).2).2).2).1, ((((((list7.getD (i10 : Int).toNat (ByteArray.empty, (0, (0, (0, (0, (0, (0, (0, 0))))))))).2).2).2).2).1, (((((((list7.getD (i10 : Int).toNat (ByteArray.empty, (0, (0, (0, (0, (0, (0, (0, 0))))))))).2).2).2).2).2).1, ((((((((list7.getD (i10 : Int).toNat (ByteArray.empty, (0, (0, (0, (0, (0, (0, (0, 0))))))))).2).2).2).2).2).2).1, (100000, ((((((((list7.getD (i10 : Int).toNat (ByteArray.empty, (0, (0, (0, (0, (0, (0, (0, 0))))))))).2).2).2).2).2).2).2).2)))))))))).bind fun r4 =>
      L5 day9 (IntKind.i64.wrap (i10 + 1)) r4 counts8
    else
      none
  else
    I9 day9 0 list7 counts8
def spec_DrawPermitFor.l5 (n : Nat) : Nat → Int → Int → (List (ByteArray × Int × Int × Int × Int × Int × Int × Int × Int)) → List Int → Option ((List (ByteArray × Int × Int × Int × Int × Int × Int × Int × Int)) × List Int × Int)
  | 0 => fun _ _ _ _ => none
  | k + 1 => spec_DrawPermitFor.g5 (spec_DrawPermitFor.l9 n n) (spec_DrawPermitFor.l5 n k)
def spec_DrawPermitFor.top (I5 : Int → Int → (List (ByteArray × Int × Int × Int × Int × Int × Int × Int × Int)) → List Int → Option ((List (ByteArray × Int × Int × Int × Int × Int × Int × Int × Int)) × List Int × Int)) (code0 : List Int) : Option ((List (ByteArray × Int × Int × Int × Int × Int × Int × Int × Int)) × List Int × Int) :=
  (spec_l01From.f code0).bind fun r1 =>
  (spec_DrawRefusalsOf.f code0).bind fun r2 =>
  (spec_l01Next.f r1 24).bind fun r3 =>
  if ((r3.1 : Int) == 0) = true then
    I5 r2.2.2.2 0 r2.2.1 r2.2.2.1
  else
    some (r2.2.1, r2.2.2.1, r2.2.2.2)
def spec_DrawPermitFor.fn (n : Nat) (code0 : List Int) : Option ((List (ByteArray × Int × Int × Int × Int × Int × Int × Int × Int)) × List Int × Int) := spec_DrawPermitFor.top (spec_DrawPermitFor.l5 n n) code0
def spec_DrawPermitFor.f (code0 : List Int) : Option ((List (ByteArray × Int × Int × Int × Int × Int × Int × Int × Int)) × List Int × Int) := spec_DrawPermitFor.fn NN code0
end
end Go.Pl

namespace Go.Pl
open Go.Ev
set_option linter.unusedVariables false
set_option linter.unusedSimpArgs false
theorem room64 : room 64 = 2199023255552 := by decide
/-- a permit as drawn -/
def PrmM (M : Int) (p : Prm) : Prop := (-10 ≤ p.1 ∧ p.1 ≤ M) ∧ (-100 ≤ p.2.1 ∧ p.2.1 ≤ M) ∧ (-10 ≤ p.2.2.1 ∧ p.2.2.1 ≤ 1000000001) ∧ (-10 ≤ p.2.2.2.1 ∧ p.2.2.2.1 ≤ M) ∧ (p.2.2.2.2.1.length ≤ 5 ∧ ∀ k ∈ p.2.2.2.2.1, -10 ≤ k ∧ k ≤ 10) ∧ (-10 ≤ p.2.2.2.2.2 ∧ p.2.2.2.2.2 ≤ M)
theorem prmM_ok {p : Prm} (h : PrmM 1000000 p) : OkPermit p := by
  obtain ⟨h1, h2, h3, h4, h5, h6⟩ := h
  exact ⟨wf64.2 (by omega), wf64.2 (by omega), wf64.2 (by omega), wf64.2 (by omega), ⟨by omega, fun k hk => wf64.2 (by have := h5.2 k hk; omega)⟩, wf64.2 (by omega)⟩
theorem kin_snoc {o : List Int} {c : Int} (h : ∀ x ∈ o, -10 ≤ x ∧ x ≤ 10) (hc : -10 ≤ c ∧ c ≤ 10) : ∀ x ∈ o ++ [c], -10 ≤ x ∧ x ≤ 10 := fun x hx => by
  rcases List.mem_append.1 hx with h1 | h1
  · exact h x h1
  · rw [List.mem_singleton.1 h1]; exact hc
theorem good30_l4 (v1 v2 v3 v4 v5 p1 p2 p3 p4 p5 : Int) (w : List Int) : ∀ (d i k : Nat) (s : List Int × Int × Int) (out : List Int), i + d = 4 → out.length ≤ i → d < k → SrcOk s → (∀ x ∈ out, -10 ≤ x ∧ x ≤ 10) →
    ∃ o s', spec_l30Good.l4 NN k i s v1 v2 v3 v4 v5 p1 p2 p3 p4 p5 w out = some ((p1, (p2, (p3, (p4, (o, p5))))), s') ∧ SrcOk s' ∧ o.length ≤ 4 ∧ ∀ x ∈ o, -10 ≤ x ∧ x ≤ 10 := by
  intro d
  induction d with
  | zero =>
    intro i k s out hd hl hk hs ho
    obtain ⟨k, rfl⟩ : ∃ j, k = j + 1 := ⟨k - 1, by omega⟩
    have n1 : ¬ (i : Int) < 4 := by omega
    simp only [spec_l30Good.l4, spec_l30Good.g4, n1, decide_false, Bool.false_eq_true, if_false]
    exact ⟨_, _, rfl, hs, by omega, ho⟩
  | succ d ih =>
    intro i k s out hd hl hk hs ho
    obtain ⟨k, rfl⟩ : ∃ j, k = j + 1 := ⟨k - 1, by omega⟩
    obtain ⟨a, s1, e1, o1, a0, a1⟩ := next_ok hs 5 (by omega)
    have n1 : (i : Int) < 4 := by omega
    have w1 := w64 (n := (i : Int) + 1) (by omega) (by omega)
    simp only [spec_l30Good.l4, spec_l30Good.g4, e1, Option.bind_some, n1, decide_true, if_true, w1]
    split
    · rw [if_pos (by rw [room8]; simp; omega)]
      have := ih (i + 1) k s1 (out ++ [(i : Int)]) (by omega) (by simp; omega) (by omega) o1 (kin_snoc ho (by omega))
      rw [show ((i + 1 : Nat) : Int) = (i : Int) + 1 by omega] at this
      exact this
    · have := ih (i + 1) k s1 out (by omega) (by omega) (by omega) o1 ho
      rw [show ((i + 1 : Nat) : Int) = (i : Int) + 1 by omega] at this
      exact this
theorem good30_ok {s : List Int × Int × Int} (hs : SrcOk s) : ∃ p s', spec_l30Good.f s = some (p, s') ∧ SrcOk s' ∧ PrmM 100000 p ∧ p.2.2.2.2.1.length ≤ 4 := by
  unfold spec_l30Good.f spec_l30Good.fn spec_l30Good.top
  obtain ⟨a, s1, e1, o1, a0, a1⟩ := next_ok hs 30 (by omega)
  obtain ⟨b, s2, e2, o2, b0, b1⟩ := next_ok o1 40000 (by omega)
  obtain ⟨c, s3, e3, o3, c0⟩ := pick_ok o2 [75, 150, 300] (by simp) (by simp)
  have c1 : -10 ≤ c ∧ c ≤ 100000 := by simp at c0; omega
  obtain ⟨d, s4, e4, o4, d0, d1⟩ := next_ok o3 4 (by omega)
  obtain ⟨e, s5, e5, o5, f0⟩ := pick_ok o4 [3, 3, d] (by simp) (by simp)
  have f1 : -10 ≤ e ∧ e ≤ 100000 := by simp at f0; omega
  obtain ⟨f, s6, e6, o6, g0, g1⟩ := next_ok o5 20 (by omega)
  have w1 := w64 (n := 100 + a) (by omega) (by omega)
  have w2 := w64 (n := 100 + a + f) (by omega) (by omega)
  have w3 := w64 (n := 5000 + b) (by omega) (by omega)
  simp only [e1, e2, e3, e4, e5, e6, w1, w2, w3, Option.bind_some]
  obtain ⟨o, s7, e7, o7, l1, l2⟩ := good30_l4 0 0 0 0 0 (100 + a) (100 + a + f) (5000 + b) c e [] 4 0 NN s6 [] (by omega) (by simp) (NN_lt (by omega)) o6 (by simp)
  exact ⟨_, _, e7, o7, ⟨by simp only; omega, by simp only; omega, by simp only; omega, c1, ⟨by simp only; omega, l2⟩, f1⟩, l1⟩
theorem prmM_S {p : Prm} (h : PrmM 100000 p) : PrmM 1000000 p := by
  obtain ⟨h1, h2, h3, h4, h5, h6⟩ := h
  exact ⟨by omega, by omega, h3, by omega, h5, by omega⟩
theorem draw30_ok {s : List Int × Int × Int} (hs : SrcOk s) : ∃ p s', spec_l30Draw.f s = some (p, s') ∧ SrcOk s' ∧ PrmM 1000000 p := by
  unfold spec_l30Draw.f spec_l30Draw.fn spec_l30Draw.top
  obtain ⟨g, s1, e1, o1, gm, gl⟩ := good30_ok hs
  obtain ⟨p0, p1, p2, p3, p4, p5⟩ := prmM_S gm
  obtain ⟨b, s2, e2, o2, b0, b1⟩ := next_ok o1 40 (by omega)
  have w1 := w64 (n := g.1 - 1) (by omega) (by omega)
  have pm := gm.1
  obtain ⟨c3, t3, e3, o3, m3⟩ := pick_ok o2 [g.1 - 1, 100000, 100001] (by simp) (by simp)
  obtain ⟨c4, t4, e4, o4, q4, r4⟩ := next_ok o2 6 (by omega)
  obtain ⟨c5, t5, e5, o5, m5⟩ := pick_ok o2 [(-1), 0, 1000000000, 1000000001] (by simp) (by simp)
  have n3 : -11 ≤ c3 ∧ c3 ≤ 1000000 := by simp at m3; omega
  have n5 : -10 ≤ c5 ∧ c5 ≤ 1000000001 := by simp at m5; omega
  simp only [e1, e2, e3, w1, e4, e5, Option.bind_some]
  split
  · exact ⟨_, _, rfl, o3, p0, ⟨by simp only; omega, n3.2⟩, p2, p3, p4, p5⟩
  split
  · rw [if_pos (by rw [room8]; simp; omega)]
    exact ⟨_, _, rfl, o4, p0, p1, p2, p3, ⟨by simp; omega, kin_snoc p4.2 (by omega)⟩, p5⟩
  split
  · exact ⟨_, _, rfl, o5, p0, p1, n5, p3, p4, p5⟩
  · exact ⟨_, _, rfl, o2, p0, p1, p2, p3, p4, p5⟩
theorem prm_snoc {out : List Prm} {a : Prm} (h : ∀ x ∈ out, PrmM 1000000 x) (ha : PrmM 1000000 a) : ∀ x ∈ out ++ [a], PrmM 1000000 x := fun x hx => by
  rcases List.mem_append.1 hx with h1 | h1
  · exact h x h1
  · rw [List.mem_singleton.1 h1]; exact ha
theorem list30_l8 (p : Prm) (hp : PrmM 1000000 p) : ∀ (d k : Nat) (s : List Int × Int × Int) (out : List Prm), out.length + d = 10 → d < k → SrcOk s → (∀ x ∈ out, PrmM 1000000 x) →
    ∃ o s', spec_l30List.l8 NN k s out p.1 p.2.1 p.2.2.1 p.2.2.2.1 p.2.2.2.2.1 p.2.2.2.2.2 = some (o, s') ∧ SrcOk s' ∧ o.length ≤ 10 ∧ ∀ x ∈ o, PrmM 1000000 x := by
  intro d
  induction d with
  | zero =>
    intro k s out hd hk hs hl
    obtain ⟨k, rfl⟩ : ∃ j, k = j + 1 := ⟨k - 1, by omega⟩
    obtain ⟨a, s1, e1, o1, a0, a1⟩ := next_ok hs 2 (by omega)
    have w := w64 (n := 8 + a) (by omega) (by omega)
    have n1 : ¬ (out.length : Int) < 8 + a := by omega
    simp only [spec_l30List.l8, spec_l30List.g8, e1, Option.bind_some, w, n1, decide_false, Bool.false_eq_true, if_false]
    exact ⟨_, _, rfl, o1, by omega, hl⟩
  | succ d ih =>
    intro k s out hd hk hs hl
    obtain ⟨k, rfl⟩ : ∃ j, k = j + 1 := ⟨k - 1, by omega⟩
    obtain ⟨a, s1, e1, o1, a0, a1⟩ := next_ok hs 2 (by omega)
    have w := w64 (n := 8 + a) (by omega) (by omega)
    by_cases n1 : (out.length : Int) < 8 + a
    · simp only [spec_l30List.l8, spec_l30List.g8, e1, Option.bind_some, w, n1, decide_true, if_true]
      rw [if_pos (by rw [room64]; simp; omega)]
      exact ih k s1 _ (by simp; omega) (by omega) o1 (prm_snoc hl hp)
    · simp only [spec_l30List.l8, spec_l30List.g8, e1, Option.bind_some, w, n1, decide_false, Bool.false_eq_true, if_false]
      exact ⟨_, _, rfl, o1, by omega, hl⟩
theorem list30_l3 : ∀ (d k : Nat) (s : List Int × Int × Int) (out : List Prm), out.length + d ≤ 10 → d < k → SrcOk s → (∀ x ∈ out, PrmM 1000000 x) →
    ∃ o s', spec_l30List.l3 NN k d s out = some (o, s') ∧ SrcOk s' ∧ o.length ≤ 10 ∧ ∀ x ∈ o, PrmM 1000000 x := by
  intro d
  induction d with
  | zero =>
    intro k s out hd hk hs hl
    obtain ⟨k, rfl⟩ : ∃ j, k = j + 1 := ⟨k - 1, by omega⟩
    obtain ⟨a, s1, e1, o1, a0, a1⟩ := next_ok hs 30 (by omega)
    obtain ⟨g, s2, e2, o2, gm, gl⟩ := good30_ok o1
    have n1 : ¬ (0 : Int) < ((0 : Nat) : Int) := by omega
    simp only [spec_l30List.l3, spec_l30List.g3, e1, e2, Option.bind_some, n1, decide_false, Bool.false_eq_true, if_false]
    by_cases h0 : a = 0
    · rw [if_pos (by rw [h0]; rfl)]
      exact list30_l8 g (prmM_S gm) (10 - out.length) NN s2 out (by omega) (NN_lt (by omega)) o2 hl
    · rw [if_neg (by simpa using h0)]
      exact ⟨_, _, rfl, o1, by omega, hl⟩
  | succ d ih =>
    intro k s out hd hk hs hl
    obtain ⟨k, rfl⟩ : ∃ j, k = j + 1 := ⟨k - 1, by omega⟩
    obtain ⟨e, s1, e1, o1, d1⟩ := draw30_ok hs
    have n1 : (0 : Int) < ((d + 1 : Nat) : Int) := by omega
    have w : IntKind.i64.wrap (((d + 1 : Nat) : Int) - 1) = (d : Int) := by rw [w64 (by omega) (by omega)]; omega
    simp only [spec_l30List.l3, spec_l30List.g3, e1, Option.bind_some, n1, decide_true, if_true, w]
    rw [if_pos (by rw [room64]; simp; omega)]
    exact ih k s1 _ (by simp; omega) (by omega) o1 (prm_snoc hl d1)
theorem list30_ok {s : List Int × Int × Int} (hs : SrcOk s) : ∃ o s', spec_l30List.f s = some (o, s') ∧ SrcOk s' ∧ o.length ≤ 10 ∧ ∀ x ∈ o, PrmM 1000000 x := by
  unfold spec_l30List.f spec_l30List.fn spec_l30List.top
  obtain ⟨n, s1, e1, o1, n0, n1⟩ := next_ok hs 6 (by omega)
  obtain ⟨N, hN⟩ := Int.eq_ofNat_of_zero_le n0
  subst hN
  simp only [e1, Option.bind_some]
  exact list30_l3 N NN s1 [] (by simp; omega) (NN_lt (by omega)) o1 (by simp)
/-- what an order's draw is -/
def OrdS (xs : List Art) (cs : List Int) (day : Int) : Prop := (xs.length ≤ 20 ∧ ∀ x ∈ xs, ArtS x) ∧ (cs.length ≤ 1001 ∧ CntS cs) ∧ Rg .i64 day
theorem drawRef_ok {code : List Int} (h : CodeOk code) : ∃ p xs cs day, spec_DrawRefusalsOf.f code = some (p, xs, cs, day) ∧ PrmM 1000000 p ∧ OrdS xs cs day := by
  unfold spec_DrawRefusalsOf.f spec_DrawRefusalsOf.fn spec_DrawRefusalsOf.top
  obtain ⟨s, e, o⟩ := from_ok h
  obtain ⟨p, s1, e1, o1, p1⟩ := draw30_ok o
  obtain ⟨xs, s2, e2, o2, x1, x2⟩ := list03_ok o1
  obtain ⟨cs, s3, e3, o3, c1, c2⟩ := counts03_ok o2 xs.length (by omega)
  obtain ⟨a, s4, e4, o4, a0, a1⟩ := next_ok o3 50 (by omega)
  have q1 := p1.1
  have q2 := p1.2.1
  have w1 := w64 (n := 100 + a) (by omega) (by omega)
  have w2 := w64 (n := p.2.1 + 1) (by omega) (by omega)
  obtain ⟨b, s5, e5, o5, m⟩ := pick_ok o4 [100 + a, p.1, p.2.1, p.2.1 + 1, 100000, 100001] (by simp) (by simp)
  have n : -100 ≤ b ∧ b ≤ 1000001 := by simp at m; omega
  simp only [e, e1, e2, e3, e4, w1, w2, e5, Option.bind_some]
  exact ⟨p, xs, cs, b, rfl, p1, ⟨x1, x2⟩, ⟨c1, c2⟩, wf64.2 (by omega)⟩
theorem firstP_l6 (day : Int) (ps : List Prm) (xs : List Art) : ∀ (d i k : Nat) (cs : List Int), i + d = cs.length → cs.length ≤ 1001 → d < k → CntS cs →
    ∃ cs', spec_DrawFirstPermit.l6 NN k day i ps xs cs = some (ps, xs, cs', day) ∧ cs'.length ≤ 1001 ∧ CntS cs' := by
  intro d
  induction d with
  | zero =>
    intro i k cs hd hl hk hc
    obtain ⟨k, rfl⟩ : ∃ j, k = j + 1 := ⟨k - 1, by omega⟩
    have n1 : ¬ (i : Int) < (cs.length : Int) := by omega
    simp only [spec_DrawFirstPermit.l6, spec_DrawFirstPermit.g6, n1, decide_false, Bool.false_eq_true, if_false]
    exact ⟨cs, rfl, hl, hc⟩
  | succ d ih =>
    intro i k cs hd hl hk hc
    obtain ⟨k, rfl⟩ : ∃ j, k = j + 1 := ⟨k - 1, by omega⟩
    have n1 : (i : Int) < (cs.length : Int) := by omega
    have n0 : (0 : Int) ≤ (i : Int) := by omega
    have w1 := w64 (n := (i : Int) + 1) (by omega) (by omega)
    have hm : cs.getD i 0 ∈ cs := by
      rw [List.getD_eq_getElem?_getD, List.getElem?_eq_getElem (by omega)]; exact List.getElem_mem _
    have hb := hc _ hm
    simp only [spec_DrawFirstPermit.l6, spec_DrawFirstPermit.g6, n1, n0, and_self, decide_true, if_true, w1, Int.toNat_natCast]
    have := ih (i + 1) k (cs.set i (if 1 < cs.getD i 0 then 1 else cs.getD i 0)) (by simp; omega) (by simp; omega) (by omega) (cntS_set hc (by split <;> omega))
    rw [show ((i + 1 : Nat) : Int) = (i : Int) + 1 by omega] at this
    exact this
theorem drawFirst_ok {code : List Int} (h : CodeOk code) : ∃ ps xs cs day, spec_DrawFirstPermit.f code = some (ps, xs, cs, day) ∧ (ps.length ≤ 10 ∧ ∀ p ∈ ps, PrmM 1000000 p) ∧ OrdS xs cs day := by
  unfold spec_DrawFirstPermit.f spec_DrawFirstPermit.fn spec_DrawFirstPermit.top
  obtain ⟨s, e, o⟩ := from_ok h
  obtain ⟨ps, s1, e1, o1, p1, p2⟩ := list30_ok o
  obtain ⟨p, xs, cs, day, e2, _, ⟨x1, x2⟩, ⟨c1, c2⟩, hd⟩ := drawRef_ok h
  obtain ⟨a, s4, e4, o4, a0, a1⟩ := next_ok o1 2 (by omega)
  obtain ⟨cs', e5, c3, c4⟩ := firstP_l6 day ps xs cs.length 0 NN cs (by omega) c1 (NN_lt (by omega)) c2
  simp only [e, e1, e2, e4, Option.bind_some]
  split
  · exact ⟨_, _, _, _, e5, ⟨p1, p2⟩, ⟨x1, x2⟩, ⟨c3, c4⟩, hd⟩
  · exact ⟨_, _, _, _, rfl, ⟨p1, p2⟩, ⟨x1, x2⟩, ⟨c1, c2⟩, hd⟩
theorem drawNext_ok {code : List Int} (h : CodeOk code) : ∃ ps xs cs day, spec_DrawNextDay.f code = some (ps, xs, cs, day) ∧ (ps.length ≤ 10 ∧ ∀ p ∈ ps, PrmM 1000000 p) ∧ OrdS xs cs day := by
  unfold spec_DrawNextDay.f spec_DrawNextDay.fn spec_DrawNextDay.top
  obtain ⟨ps, xs, cs, day, e, h1, h2⟩ := drawFirst_ok h
  simp only [e, Option.bind_some]
  exact ⟨ps, xs, cs, day, rfl, h1, h2⟩
theorem art_set {xs : List Art} {i : Nat} {v : Art} (h : ∀ x ∈ xs, ArtS x) (hv : ArtS v) : ∀ x ∈ xs.set i v, ArtS x := fun x hx => by
  rw [List.mem_iff_getElem?] at hx
  obtain ⟨j, hj⟩ := hx
  by_cases e : i = j
  · subst e
    rw [List.getElem?_set] at hj
    simp only [if_true] at hj
    split at hj
    · rw [← Option.some.inj hj]; exact hv
    · cases hj
  · rw [List.getElem?_set_ne e] at hj
    exact h x (List.mem_iff_getElem?.2 ⟨j, hj⟩)
theorem permF_l9 (day : Int) (xs : List Art) : ∀ (d i k : Nat) (cs : List Int), i + d = cs.length → cs.length ≤ 1001 → d < k → CntS cs →
    ∃ cs', spec_DrawPermitFor.l9 NN k day i xs cs = some (xs, cs', day) ∧ cs'.length ≤ 1001 ∧ CntS cs' := by
  intro d
  induction d with
  | zero =>
    intro i k cs hd hl hk hc
    obtain ⟨k, rfl⟩ : ∃ j, k = j + 1 := ⟨k - 1, by omega⟩
    have n1 : ¬ (i : Int) < (cs.length : Int) := by omega
    simp only [spec_DrawPermitFor.l9, spec_DrawPermitFor.g9, n1, decide_false, Bool.false_eq_true, if_false]
    exact ⟨cs, rfl, hl, hc⟩
  | succ d ih =>
    intro i k cs hd hl hk hc
    obtain ⟨k, rfl⟩ : ∃ j, k = j + 1 := ⟨k - 1, by omega⟩
    have n1 : (i : Int) < (cs.length : Int) := by omega
    have n0 : (0 : Int) ≤ (i : Int) := by omega
    have w1 := w64 (n := (i : Int) + 1) (by omega) (by omega)
    simp only [spec_DrawPermitFor.l9, spec_DrawPermitFor.g9, n1, n0, and_self, decide_true, if_true, w1, Int.toNat_natCast]
    have := ih (i + 1) k (cs.set i 1000) (by simp; omega) (by simp; omega) (by omega) (cntS_set hc (by omega))
    rw [show ((i + 1 : Nat) : Int) = (i : Int) + 1 by omega] at this
    exact this
theorem permF_l5 (day : Int) (cs : List Int) (hl : cs.length ≤ 1001) (hc : CntS cs) : ∀ (d i k : Nat) (xs : List Art), i + d = xs.length → xs.length ≤ 20 → d < k → (∀ x ∈ xs, ArtS x) →
    ∃ xs' cs', spec_DrawPermitFor.l5 NN k day i xs cs = some (xs', cs', day) ∧ (xs'.length ≤ 20 ∧ ∀ x ∈ xs', ArtS x) ∧ (cs'.length ≤ 1001 ∧ CntS cs') := by
  intro d
  induction d with
  | zero =>
    intro i k xs hd hx hk ha
    obtain ⟨k, rfl⟩ : ∃ j, k = j + 1 := ⟨k - 1, by omega⟩
    have n1 : ¬ (i : Int) < (xs.length : Int) := by omega
    obtain ⟨cs', e, c1, c2⟩ := permF_l9 day xs cs.length 0 NN cs (by omega) hl (NN_lt (by omega)) hc
    simp only [spec_DrawPermitFor.l5, spec_DrawPermitFor.g5, n1, decide_false, Bool.false_eq_true, if_false]
    exact ⟨xs, cs', e, ⟨hx, ha⟩, c1, c2⟩
  | succ d ih =>
    intro i k xs hd hx hk ha
    obtain ⟨k, rfl⟩ : ∃ j, k = j + 1 := ⟨k - 1, by omega⟩
    have n1 : (i : Int) < (xs.length : Int) := by omega
    have n0 : (0 : Int) ≤ (i : Int) := by omega
    have w1 := w64 (n := (i : Int) + 1) (by omega) (by omega)
    have hm : xs.getD i (ByteArray.empty, (0, (0, (0, (0, (0, (0, (0, 0)))))))) ∈ xs := by
      rw [List.getD_eq_getElem?_getD, List.getElem?_eq_getElem (by omega)]; exact List.getElem_mem _
    obtain ⟨p0, p1, p2, p3, p4, p5, p6, p7, p8⟩ := ha _ hm
    simp only [spec_DrawPermitFor.l5, spec_DrawPermitFor.g5, n1, n0, and_self, decide_true, if_true, w1, Int.toNat_natCast, Option.bind_some]
    have := ih (i + 1) k _ (by rw [List.length_set]; omega) (by rw [List.length_set]; omega) (by omega) (art_set (i := i) (v := ((xs.getD i (ByteArray.empty, (0, (0, (0, (0, (0, (0, (0, 0))))))))).1, ((xs.getD i (ByteArray.empty, (0, (0, (0, (0, (0, (0, (0, 0))))))))).2.1, ((xs.getD i (ByteArray.empty, (0, (0, (0, (0, (0, (0, (0, 0))))))))).2.2.1, ((xs.getD i (ByteArray.empty, (0, (0, (0, (0, (0, (0, (0, 0))))))))).2.2.2.1, ((xs.getD i (ByteArray.empty, (0, (0, (0, (0, (0, (0, (0, 0))))))))).2.2.2.2.1, ((xs.getD i (ByteArray.empty, (0, (0, (0, (0, (0, (0, (0, 0))))))))).2.2.2.2.2.1, ((xs.getD i (ByteArray.empty, (0, (0, (0, (0, (0, (0, (0, 0))))))))).2.2.2.2.2.2.1, (100000, (xs.getD i (ByteArray.empty, (0, (0, (0, (0, (0, (0, (0, 0))))))))).2.2.2.2.2.2.2.2))))))))) ha ⟨p0, p1, p2, p3, p4, p5, p6, by simp only; omega, p8⟩)
    rw [show ((i + 1 : Nat) : Int) = (i : Int) + 1 by omega] at this
    exact this
theorem drawPermF_ok {code : List Int} (h : CodeOk code) : ∃ xs cs day, spec_DrawPermitFor.f code = some (xs, cs, day) ∧ OrdS xs cs day := by
  unfold spec_DrawPermitFor.f spec_DrawPermitFor.fn spec_DrawPermitFor.top
  obtain ⟨s, e, o⟩ := from_ok h
  obtain ⟨p, xs, cs, day, e2, _, ⟨x1, x2⟩, ⟨c1, c2⟩, hd⟩ := drawRef_ok h
  obtain ⟨a, s4, e4, o4, a0, a1⟩ := next_ok o 24 (by omega)
  obtain ⟨xs', cs', e5, x3, c3⟩ := permF_l5 day cs c1 c2 xs.length 0 NN xs (by omega) x1 (NN_lt (by omega)) x2
  simp only [e, e2, e4, Option.bind_some]
  split
  · exact ⟨_, _, _, e5, x3, c3, hd⟩
  · exact ⟨_, _, _, rfl, ⟨x1, x2⟩, ⟨c1, c2⟩, hd⟩
end Go.Pl

namespace Go.Pl
open Go.Ev
set_option linter.unusedVariables false
set_option linter.unusedSimpArgs false
def joinF (sep : ByteArray) (i : Nat) (out s : ByteArray) : ByteArray := if 0 < i then (out ++ sep) ++ s else out ++ s
def joinB (sep : ByteArray) (xs : List ByteArray) : ByteArray := foldi (joinF sep) 0 ⟨#[]⟩ xs
theorem impl_joinWith_f (xs : List ByteArray) (sep : ByteArray) (hx : ∀ s ∈ xs, s.size ≤ 1000000) (hl : xs.length ≤ 1000000) (hs : sep.size ≤ 1000000) : impl_joinWith.f xs sep = some (joinB sep xs) ∧ (joinB sep xs).size ≤ 2000000 * xs.length := by
  have := fold_fix (E := fun s : ByteArray => s.size ≤ 1000000) (fun p st => st.size ≤ 2000000 * p.length) (joinF sep) some (fun k i st => impl_joinWith.l3 NN k sep st xs xs.length i) xs ?_ ?_ (⟨#[]⟩ : ByteArray) hx (by simp; rfl) (by omega) NN (NN_lt (by omega))
  · exact ⟨this.2, this.1⟩
  · intro k st _
    simp [impl_joinWith.l3, impl_joinWith.g3]
  · intro k p b r st hxs hb hI c0 c1 c2 cw g
    have z1 : (st ++ sep).size = st.size + sep.size := ByteArray.size_append
    have z2 : (st ++ sep ++ b).size = st.size + sep.size + b.size := by rw [ByteArray.size_append, z1]
    have z3 : (st ++ b).size = st.size + b.size := ByteArray.size_append
    have hp : p.length ≤ 1000000 := by omega
    refine ⟨?_, ?_⟩
    · unfold joinF; rw [List.length_append, List.length_singleton]; split <;> omega
    · have d1 : st.size + sep.size ≤ 9223372036854775807 := by omega
      have d2 : (st ++ sep).size + b.size ≤ 9223372036854775807 := by omega
      have d3 : st.size + b.size ≤ 9223372036854775807 := by omega
      simp only [impl_joinWith.l3, impl_joinWith.g3, c0, c1, cw, and_self, and_true, true_and, decide_true, decide_false, if_true, if_false, mid_get, mid_set, mid_getn, mid_setn, bt_mid, Option.bind_some, Bool.not_true, Bool.not_false, Bool.false_eq_true, Bool.true_eq_false, beq_self_eq_true, bne_self_eq_false, Int.toNat_natCast, g, d1, d2, d3, decide_eq_true_eq]
      unfold joinF
      by_cases h : 0 < p.length
      · have : (0 : Int) < (p.length : Int) := by omega
        simp [h, this]
      · have : ¬ (0 : Int) < (p.length : Int) := by omega
        simp [h, this]
theorem spec_l01Words_f (xs : List ByteArray) (sep : ByteArray) (hx : ∀ s ∈ xs, s.size ≤ 1000000) (hl : xs.length ≤ 1000000) (hs : sep.size ≤ 1000000) : spec_l01Words.f xs sep = some (joinB sep xs) ∧ (joinB sep xs).size ≤ 2000000 * xs.length := by
  have := fold_fix (E := fun s : ByteArray => s.size ≤ 1000000) (fun p st => st.size ≤ 2000000 * p.length) (joinF sep) some (fun k i st => spec_l01Words.l3 NN k xs sep st i) xs ?_ ?_ (⟨#[]⟩ : ByteArray) hx (by simp; rfl) (by omega) NN (NN_lt (by omega))
  · exact ⟨this.2, this.1⟩
  · intro k st _
    simp [spec_l01Words.l3, spec_l01Words.g3]
  · intro k p b r st hxs hb hI c0 c1 c2 cw g
    have z1 : (st ++ sep).size = st.size + sep.size := ByteArray.size_append
    have z2 : (st ++ sep ++ b).size = st.size + sep.size + b.size := by rw [ByteArray.size_append, z1]
    have z3 : (st ++ b).size = st.size + b.size := ByteArray.size_append
    have hp : p.length ≤ 1000000 := by omega
    refine ⟨?_, ?_⟩
    · unfold joinF; rw [List.length_append, List.length_singleton]; split <;> omega
    · have d1 : st.size + sep.size ≤ 9223372036854775807 := by omega
      have d2 : (st ++ sep).size + b.size ≤ 9223372036854775807 := by omega
      have d3 : st.size + b.size ≤ 9223372036854775807 := by omega
      simp only [spec_l01Words.l3, spec_l01Words.g3, c0, c1, cw, and_self, and_true, true_and, decide_true, decide_false, if_true, if_false, mid_get, mid_set, mid_getn, mid_setn, bt_mid, Option.bind_some, Bool.not_true, Bool.not_false, Bool.false_eq_true, Bool.true_eq_false, beq_self_eq_true, bne_self_eq_false, Int.toNat_natCast, g, d1, d2, d3, decide_eq_true_eq]
      unfold joinF
      by_cases h : 0 < p.length
      · have : (0 : Int) < (p.length : Int) := by omega
        simp [h, this]
      · have : ¬ (0 : Int) < (p.length : Int) := by omega
        simp [h, this]
end Go.Pl

namespace Go.Pl
open Go.Ev
set_option linter.unusedVariables false
set_option linter.unusedSimpArgs false
def w5L : List ByteArray := [(⟨#[100, 97, 121]⟩ : ByteArray), (⟨#[110, 101, 116]⟩ : ByteArray), (⟨#[99, 97, 108, 105, 98, 114, 101]⟩ : ByteArray), (⟨#[107, 105, 110, 100]⟩ : ByteArray), (⟨#[103, 114, 111, 117, 112]⟩ : ByteArray)]
theorem w5_len : w5L.length = 5 := rfl
theorem w5_sm : ∀ c ∈ w5L, c.size ≤ 1000000 := by
  intro c hc
  unfold w5L at hc
  simp only [List.mem_cons, List.not_mem_nil, or_false] at hc
  rcases hc with h | h | h | h | h <;> (rw [h]; exact Nat.le_of_ble_eq_true rfl)
def bitI (m i : Nat) : Bool := decide ((m / 2 ^ i) % 2 = 1)
def bitT (m i : Nat) : Bool := (((IntKind.i64.wrap (BitVec.ofInt IntKind.i64.bits (m : Int) &&& BitVec.ofInt IntKind.i64.bits (IntKind.i64.wrap (1 * 2 ^ (min i IntKind.i64.bits)))).toNat) : Int) != 0)
theorem bit_tab : (List.range 32).all (fun m => (List.range 5).all fun i => bitT m i == bitI m i) = true := by kernel_rfl
theorem bit_eq {m i : Nat} (hm : m < 32) (hi : i < 5) : bitT m i = bitI m i := by
  have h := bit_tab
  rw [List.all_eq_true] at h
  have h2 := h m (List.mem_range.2 hm)
  rw [List.all_eq_true] at h2
  simpa using h2 i (List.mem_range.2 hi)
def wdF (m : Nat) (i : Nat) (out : List ByteArray) (w : ByteArray) : List ByteArray := if bitI m i = true then out ++ [w] else out
def sp1 : ByteArray := ⟨#[32]⟩
def rtxV (out : List ByteArray) : ByteArray × Int := if out.length = 0 then ((⟨#[45]⟩ : ByteArray), 0) else (joinB sp1 out, 0)
def rtxR (r : Int) : ByteArray × Int := if inB r 0 31 = true then rtxV (foldi (wdF r.toNat) 0 [] w5L) else ((⟨#[]⟩ : ByteArray), 2)
theorem sp1_size : sp1.size ≤ 1000000 := Nat.le_of_ble_eq_true rfl
theorem wd_snoc {out : List ByteArray} {w : ByteArray} (h : ∀ s ∈ out, s.size ≤ 1000000) (hw : w.size ≤ 1000000) : ∀ s ∈ out ++ [w], s.size ≤ 1000000 := fun x hx => by
  rcases List.mem_append.1 hx with h1 | h1
  · exact h x h1
  · rw [List.mem_singleton.1 h1]; exact hw
theorem impl_rtx (m : Nat) (hm : m < 32) : impl_RefusalsText.l5 NN NN m 5 0 [] w5L = some (rtxV (foldi (wdF m) 0 [] w5L)) := by
  refine (fold_fix (E := fun c : ByteArray => c.size ≤ 1000000) (fun p (out : List ByteArray) => out.length ≤ p.length ∧ ∀ s ∈ out, s.size ≤ 1000000) (wdF m) (fun out => some (rtxV out)) (fun k i out => impl_RefusalsText.l5 NN k m 5 i out w5L) w5L ?_ ?_ [] w5_sm ⟨by simp, by simp⟩ (by rw [w5_len]; omega) NN (NN_lt (by rw [w5_len]; omega))).2
  · intro k out hI
    rw [w5_len] at hI ⊢
    have n1 : ¬ ((5 : Nat) : Int) < 5 := by omega
    simp only [impl_RefusalsText.l5, impl_RefusalsText.g5, n1, and_self, and_true, true_and, decide_true, decide_false, if_true, if_false, mid_get, mid_set, mid_getn, mid_setn, bt_mid, Option.bind_some, Bool.not_true, Bool.not_false, Bool.false_eq_true, Bool.true_eq_false, beq_self_eq_true, bne_self_eq_false, Int.toNat_natCast]
    rw [show (⟨#[32]⟩ : ByteArray) = sp1 from rfl, (impl_joinWith_f out sp1 hI.2 (by omega) sp1_size).1]
    unfold rtxV
    by_cases h : out.length = 0 <;> simp [h]
  · intro k p w r out hx hw hI c0 c1 c2 cw g
    rw [w5_len] at c1
    have c3 : (p.length : Int) < 5 := by omega
    have c4 : (p.length : Int) < (w5L.length : Int) := by rw [w5_len]; omega
    have c5 : ¬ (p.length : Int) < 0 := by omega
    refine ⟨?_, ?_⟩
    · unfold wdF
      split
      · exact ⟨by simp; omega, wd_snoc hI.2 hw⟩
      · exact ⟨by simp; omega, hI.2⟩
    have hb := bit_eq hm (show p.length < 5 by omega)
    unfold bitT at hb
    simp only [impl_RefusalsText.l5, impl_RefusalsText.g5, c0, c3, c4, c5, cw, and_self, and_true, true_and, decide_true, decide_false, if_true, if_false, mid_get, mid_set, mid_getn, mid_setn, bt_mid, Option.bind_some, Bool.not_true, Bool.not_false, Bool.false_eq_true, Bool.true_eq_false, beq_self_eq_true, bne_self_eq_false, Int.toNat_natCast, g, hb]
    unfold wdF
    rw [if_pos (show out.length + [w].length < room 16 by rw [room16]; simp; omega)]
    cases bitI m p.length <;> rfl
def wdG (i : Nat) (st : Int × List ByteArray) (w : ByteArray) : Int × List ByteArray := (Int.tdiv st.1 2, if Int.tmod st.1 2 = 1 then st.2 ++ [w] else st.2)
theorem wdG_fold (m : Nat) : ∀ (ys : List ByteArray) (i : Nat) (out : List ByteArray), (foldi wdG i (((m / 2 ^ i : Nat) : Int), out) ys).2 = foldi (wdF m) i out ys := by
  intro ys
  induction ys with
  | nil => intro i out; rfl
  | cons w r ih =>
    intro i out
    simp only [foldi]
    rw [← ih (i + 1)]
    have e1 : m / 2 ^ (i + 1) = m / 2 ^ i / 2 := by rw [Nat.pow_succ, Nat.div_div_eq_div_mul]
    have e2 : wdG i (((m / 2 ^ i : Nat) : Int), out) w = (((m / 2 ^ (i + 1) : Nat) : Int), wdF m i out w) := by
      unfold wdG wdF bitI
      rw [e1]
      generalize m / 2 ^ i = q
      have h1 : Int.tdiv (q : Int) 2 = ((q / 2 : Nat) : Int) := (Int.ofNat_tdiv q 2).symm
      have h2 : Int.tmod (q : Int) 2 = ((q % 2 : Nat) : Int) := (Int.ofNat_tmod q 2).symm
      simp only [h1, h2, decide_eq_true_eq]
      refine Prod.ext rfl ?_
      by_cases h : q % 2 = 1
      · simp [h]
      · have h' : ¬ ((q % 2 : Nat) : Int) = 1 := by omega
        simp only [h, h', if_false]
    rw [e2]
theorem spec_rtx (m : Nat) (hm : m < 32) : spec_RefusalsText.l6 NN NN m 0 w5L [] = some (rtxV (foldi (wdF m) 0 [] w5L)) := by
  have := (fold_fix (E := fun c : ByteArray => c.size ≤ 1000000) (fun p (st : Int × List ByteArray) => (0 ≤ st.1 ∧ st.1 ≤ 31) ∧ st.2.length ≤ p.length ∧ ∀ s ∈ st.2, s.size ≤ 1000000) wdG (fun st => some (rtxV st.2)) (fun k i st => spec_RefusalsText.l6 NN k st.1 i w5L st.2) w5L ?_ ?_ ((m : Int), []) w5_sm ⟨by simp only; omega, by simp, by simp⟩ (by rw [w5_len]; omega) NN (NN_lt (by rw [w5_len]; omega))).2
  · refine this.trans ?_
    have e := wdG_fold m w5L 0 []
    rw [Nat.pow_zero, Nat.div_one] at e
    rw [e]
  · intro k st hI
    simp only [spec_RefusalsText.l6, spec_RefusalsText.g6, Int.lt_irrefl, and_self, and_true, true_and, decide_true, decide_false, if_true, if_false, mid_get, mid_set, mid_getn, mid_setn, bt_mid, Option.bind_some, Bool.not_true, Bool.not_false, Bool.false_eq_true, Bool.true_eq_false, beq_self_eq_true, bne_self_eq_false, Int.toNat_natCast]
    have hl := hI.2.1
    rw [w5_len] at hl
    rw [show (⟨#[32]⟩ : ByteArray) = sp1 from rfl, (spec_l01Words_f st.2 sp1 hI.2.2 (by omega) sp1_size).1]
    unfold rtxV
    by_cases h : st.2.length = 0 <;> simp [h]
  · intro k p w r st hx hw hI c0 c1 c2 cw g
    have c1' := c1
    rw [w5_len] at c1'
    have h1 : Int.tdiv st.1 2 = st.1 / 2 := Int.tdiv_eq_ediv_of_nonneg hI.1.1
    have w1 := w64 (n := Int.tdiv st.1 2) (by omega) (by omega)
    refine ⟨⟨by unfold wdG; simp only; omega, ?_⟩, ?_⟩
    · unfold wdG
      simp only
      split
      · exact ⟨by simp; omega, wd_snoc hI.2.2 hw⟩
      · exact ⟨by simp; omega, hI.2.2⟩
    · have hl := hI.2.1
      simp only [spec_RefusalsText.l6, spec_RefusalsText.g6, c0, c1, cw, and_self, and_true, true_and, decide_true, decide_false, if_true, if_false, mid_get, mid_set, mid_getn, mid_setn, bt_mid, Option.bind_some, Bool.not_true, Bool.not_false, Bool.false_eq_true, Bool.true_eq_false, beq_self_eq_true, bne_self_eq_false, Int.toNat_natCast, g, w1]
      rw [if_pos (show st.2.length + [w].length < room 16 by rw [room16]; simp; omega)]
      unfold wdG
      by_cases h : Int.tmod st.1 2 = 1
      · simp [h]
      · have h' : (Int.tmod st.1 2 == 1) = false := by rw [beq_eq_false_iff_ne]; exact h
        simp only [h, h', Bool.false_eq_true, if_false]
theorem RefusalsText_both (r : Int) : spec_RefusalsText.f r = some (rtxR r) ∧ impl_RefusalsText.f r = some (rtxR r) := by
  unfold spec_RefusalsText.f spec_RefusalsText.fn spec_RefusalsText.top impl_RefusalsText.f impl_RefusalsText.fn impl_RefusalsText.top rtxR
  rw [spec_l01In_f, impl_within_f]
  cases h : inB r 0 31
  · exact ⟨rfl, rfl⟩
  have hb := inB_iff.1 h
  have e1 := spec_rtx r.toNat (by omega)
  have e2 := impl_rtx r.toNat (by omega)
  rw [show ((r.toNat : Nat) : Int) = r by omega] at e1 e2
  exact ⟨e1, e2⟩
theorem drawDays_ok {code : List Int} (h : CodeOk code) : ∃ ps frm to, spec_DrawDaysCovered.f code = some (ps, frm, to) ∧ (ps.length ≤ 10 ∧ ∀ p ∈ ps, PrmM 1000000 p) := by
  unfold spec_DrawDaysCovered.f spec_DrawDaysCovered.fn spec_DrawDaysCovered.top
  obtain ⟨s, e, o⟩ := from_ok h
  obtain ⟨ps, s1, e1, o1, p1, p2⟩ := list30_ok o
  obtain ⟨a, s2, e2, o2, a0, a1⟩ := next_ok o1 40 (by omega)
  obtain ⟨b, s3, e3, o3, b0, b1⟩ := next_ok o2 20 (by omega)
  obtain ⟨c, s4, e4, o4, c0, c1⟩ := next_ok o3 20 (by omega)
  obtain ⟨d, s5, e5, o5, d0, d1⟩ := next_ok o4 200 (by omega)
  obtain ⟨x, s6, e6, o6, m⟩ := pick_ok o5 [b, c, 0, (-1), d] (by simp) (by simp)
  simp only [e, e1, e2, e3, e4, e5, e6, Option.bind_some]
  exact ⟨_, _, _, rfl, p1, p2⟩
theorem drawFew_ok {code : List Int} (h : CodeOk code) : ∃ ps frm to, spec_DrawFewestPermits.f code = some (ps, frm, to) ∧ (ps.length ≤ 10 ∧ ∀ p ∈ ps, PrmM 1000000 p) := by
  unfold spec_DrawFewestPermits.f spec_DrawFewestPermits.fn spec_DrawFewestPermits.top
  obtain ⟨s, e, o⟩ := from_ok h
  obtain ⟨ps, frm, to, e1, p1, p2⟩ := drawDays_ok h
  simp only [e, e1, Option.bind_some]
  split
  · rename_i h0
    have h0 := of_decide_eq_true h0
    obtain ⟨a, s2, e2, o2, a0, a1⟩ := next_ok o 3 (by omega)
    obtain ⟨b, s3, e3, o3, b0, b1⟩ := next_ok o2 (ps.length : Int) (by omega)
    obtain ⟨c, s4, e4, o4, c0, c1⟩ := next_ok o3 12 (by omega)
    simp only [e2, e3, e4, Option.bind_some]
    split
    · rw [if_pos ⟨b0, by omega⟩]
      exact ⟨_, _, _, rfl, p1, p2⟩
    · exact ⟨_, _, _, rfl, p1, p2⟩
  · exact ⟨_, _, _, rfl, p1, p2⟩
theorem drawText_ok {code : List Int} (h : CodeOk code) : ∃ r, spec_DrawRefusalsText.f code = some r := by
  unfold spec_DrawRefusalsText.f spec_DrawRefusalsText.fn spec_DrawRefusalsText.top
  obtain ⟨s, e, o⟩ := from_ok h
  obtain ⟨a, s2, e2, o2, a0, a1⟩ := next_ok o 35 (by omega)
  simp only [e, e2, Option.bind_some]
  exact ⟨_, rfl⟩
end Go.Pl

namespace Go.Pl
open Go.Ev
set_option linter.unusedVariables false
set_option linter.unusedSimpArgs false
theorem fstOf_spec {α : Type} (P : α → Bool) : ∀ (xs : List α) (i j : Nat) (x : α), firstOf P i xs = some (j, x) → i ≤ j ∧ j < i + xs.length ∧ xs[j - i]? = some x ∧ P x = true := by
  intro xs
  induction xs with
  | nil => intro i j x h; cases h
  | cons a r ih =>
    intro i j x h
    simp only [firstOf] at h
    by_cases ha : P a = true
    · rw [if_pos ha] at h
      obtain ⟨rfl, rfl⟩ := Prod.mk.inj (Option.some.inj h)
      exact ⟨by omega, by simp, by simp, ha⟩
    · rw [if_neg ha] at h
      obtain ⟨h1, h2, h3, h4⟩ := ih (i + 1) j x h
      refine ⟨by omega, by simp only [List.length_cons]; omega, ?_, h4⟩
      rw [show j - i = (j - (i + 1)) + 1 by omega]
      exact h3
theorem room64c : room 64 = 2199023255552 := by decide
theorem fewL_cases (ps : List Prm) (frm to : Int) : ∀ (d k : Nat), (∃ m l, k ≤ m ∧ m < k + d ∧ fewL ps frm to d k = (l, 0) ∧ l ∈ lst ps.length m 0 ∧ cvB (chs ps l) frm to = true ∧ ∀ m', k ≤ m' → m' < m → ∀ l' ∈ lst ps.length m' 0, cvB (chs ps l') frm to = false) ∨ (fewL ps frm to d k = ([], 4) ∧ ∀ m', k ≤ m' → m' < k + d → ∀ l' ∈ lst ps.length m' 0, cvB (chs ps l') frm to = false) := by
  intro d
  induction d with
  | zero => intro k; right; exact ⟨rfl, fun m h1 h2 => by omega⟩
  | succ d ih =>
    intro k
    simp only [fewL]
    cases hf : firstOf (fun l => cvB (chs ps l) frm to) 0 (lst ps.length k 0) with
    | some x =>
      obtain ⟨i, l⟩ := x
      obtain ⟨_, _, h3, h4⟩ := fstOf_spec _ _ 0 i l hf
      left
      exact ⟨k, l, by omega, by omega, rfl, List.mem_of_getElem? h3, h4, fun m' h1 h2 => by omega⟩
    | none =>
      have hn := firstOf_none _ _ 0 hf
      rcases ih (k + 1) with ⟨m, l, h1, h2, h3, h4, h5, h6⟩ | ⟨h1, h2⟩
      · left
        refine ⟨m, l, by omega, by omega, h3, h4, h5, fun m' q1 q2 => ?_⟩
        by_cases e : m' = k
        · subst e; exact hn
        · exact h6 m' (by omega) q2
      · right
        refine ⟨h1, fun m' q1 q2 => ?_⟩
        by_cases e : m' = k
        · subst e; exact hn
        · exact h2 m' (by omega) (by omega)
theorem cov_mono {ps : List Prm} {l : List Int} (hi : ∀ i ∈ l, 0 ≤ i ∧ i < (ps.length : Int)) {e : Int} (h : covB (chs ps l) e = true) : covB ps e = true := by
  unfold covB at h ⊢
  rw [List.any_eq_true] at h ⊢
  obtain ⟨p, h1, h2⟩ := h
  exact ⟨p, chs_ok (P := fun p => p ∈ ps) hi (fun _ h => h) p h1, h2⟩
theorem cvB_mono {ps : List Prm} {l : List Int} {frm to : Int} (hi : ∀ i ∈ l, 0 ≤ i ∧ i < (ps.length : Int)) (h : cvB (chs ps l) frm to = true) : cvB ps frm to = true :=
  (cvB_iff ps frm to).2 fun e h1 h2 => cov_mono hi ((cvB_iff _ frm to).1 h e h1 h2)
theorem every_in (n : Nat) : everyL n ∈ lst n n 0 := by
  rw [mem_lst]
  refine ⟨every_len n, ?_, fun x hx => ?_⟩
  · unfold everyL
    rw [List.pairwise_map]
    exact List.Pairwise.imp (fun h => by omega) List.pairwise_lt_range
  · unfold everyL at hx
    obtain ⟨j, hj, rfl⟩ := List.mem_map.1 hx
    have := List.mem_range.1 hj
    omega
theorem cov_every (ps : List Prm) (e : Int) : covB (chs ps (everyL ps.length)) e = covB ps e := by
  have := every_any (fun p : Prm => inB e p.1 p.2.1) ps (0, (0, (0, (0, ([], 0)))))
  unfold covB chs
  rw [List.any_map]
  exact this
/-- the fewest: found just where all are covered -/
theorem few_found {ps : List Prm} {frm to : Int} (h1 : permsL ps = true) (h2 : daysB frm to = true) : ((fewR ps frm to).2 = 0 ↔ cvB ps frm to = true) ∧ ((fewR ps frm to).2 = 0 → ∃ m, (1 ≤ m ∧ m ≤ ps.length) ∧ (fewR ps frm to).1 ∈ lst ps.length m 0 ∧ cvB (chs ps (fewR ps frm to).1) frm to = true ∧ ∀ m', 1 ≤ m' → m' < m → ∀ l' ∈ lst ps.length m' 0, cvB (chs ps l') frm to = false) := by
  have hd := daysB_iff h2
  unfold fewR
  rw [h1, h2]
  simp only [if_true]
  rcases fewL_cases ps frm to ps.length 1 with ⟨m, l, q1, q2, q3, q4, q5, q6⟩ | ⟨q1, q2⟩
  · rw [q3]
    exact ⟨⟨fun _ => cvB_mono (few_lists q4) q5, fun _ => rfl⟩, fun _ => ⟨m, ⟨q1, by omega⟩, q4, q5, q6⟩⟩
  · rw [q1]
    refine ⟨⟨fun h => absurd h (by decide), fun h => ?_⟩, fun h => absurd h (by decide)⟩
    exfalso
    have hc := (cvB_iff ps frm to).1 h
    have hn : 1 ≤ ps.length := by
      cases ps with
      | nil => have := hc frm (by omega) (by omega); simp [covB] at this
      | cons p r => simp
    have := q2 ps.length hn (by omega) _ (every_in ps.length)
    have h3 : cvB (chs ps (everyL ps.length)) frm to = true := (cvB_iff _ frm to).2 fun e e1 e2 => by rw [cov_every]; exact hc e e1 e2
    rw [h3] at this
    cases this
theorem chs_len (ps : List Prm) (l : List Int) : (chs ps l).length = l.length := by unfold chs; simp
theorem chs_perms {ps : List Prm} {l : List Int} (h1 : permsL ps = true) (hi : ∀ i ∈ l, 0 ≤ i ∧ i < (ps.length : Int)) (hl : l.length ≤ 8) : permsL (chs ps l) = true := by
  have h := permsL_ok h1
  have h2 := chs_ok hi h.2
  unfold permsL
  simp only [Bool.and_eq_true, decide_eq_true_eq, List.all_eq_true]
  exact ⟨by rw [chs_len]; exact hl, h2⟩
theorem drop_one {n m i : Nat} {l : List Int} (h : l ∈ lst n m 0) (hi : i < l.length) : (l.take i ++ l.drop (i + 1)) ∈ lst n (m - 1) 0 := by
  obtain ⟨h1, h2, h3⟩ := (mem_lst n m 0 l).1 h
  have hs : (l.take i ++ l.drop (i + 1)).Sublist l := by
    rw [← List.eraseIdx_eq_take_drop_succ]
    exact List.eraseIdx_sublist l i
  refine (mem_lst n (m - 1) 0 _).2 ⟨?_, h2.sublist hs, fun x hx => h3 x (hs.subset hx)⟩
  simp only [List.length_append, List.length_take, List.length_drop]
  omega
theorem cov_nil (frm to : Int) (h : frm ≤ to) : cvB [] frm to = false := by
  cases q : cvB [] frm to
  · rfl
  · have := (cvB_iff [] frm to).1 q frm (by omega) h
    simp [covB] at this
theorem covered_l26 (ps : List Prm) (l : List Int) (frm to : Int) (hv : permsL ps = true) (hd : daysB frm to = true) (hp : Lm OkPermit ps) (hi : ∀ i ∈ l, 0 ≤ i ∧ i < (ps.length : Int)) (hl : l.length ≤ 8)
    (hm : ∀ i, i < l.length → cvB (chs ps (l.take i ++ l.drop (i + 1))) frm to = false) :
    laws_FnCovered.l26 NN NN frm to ((to + 1 - frm).toNat : Int) (chs ps l) 0 = some true := by
  have := (fold_fix (E := fun _ : Prm => True) (fun _ (_ : Unit) => True) (fun _ _ _ => ()) (fun _ => some true) (fun k i _ => laws_FnCovered.l26 NN k frm to ((to + 1 - frm).toNat : Int) (chs ps l) i) (chs ps l) ?_ ?_ () (fun _ _ => trivial) trivial (by rw [chs_len]; omega) NN (NN_lt (by rw [chs_len]; omega))).2
  · exact this
  · intro k _ _
    simp only [laws_FnCovered.l26, laws_FnCovered.g26, Int.lt_irrefl, and_self, and_true, true_and, decide_true, decide_false, if_true, if_false, mid_get, mid_set, mid_getn, mid_setn, bt_mid, Option.bind_some, Bool.not_true, Bool.not_false, Bool.false_eq_true, Bool.true_eq_false, beq_self_eq_true, bne_self_eq_false, Int.toNat_natCast]
  · intro k p a r _ hx _ _ c0 c1 c2 cw g
    refine ⟨trivial, ?_⟩
    have hpl : p.length < l.length := by have := congrArg List.length hx; rw [chs_len] at this; simp at this; omega
    have c3 : (p.length : Int) ≤ ((chs ps l).length : Int) := by rw [chs_len]; omega
    have c4 : (0 : Int) ≤ (p.length : Int) + 1 := by omega
    have c5 : (p.length : Int) + 1 ≤ ((chs ps l).length : Int) := by rw [chs_len]; omega
    have t1 : ((p.length : Int) + 1).toNat = p.length + 1 := by omega
    have e : (chs ps l).take p.length ++ (chs ps l).drop (p.length + 1) = chs ps (l.take p.length ++ l.drop (p.length + 1)) := by
      unfold chs; rw [List.map_append, List.map_take, List.map_drop]
    have hi2 : ∀ i ∈ l.take p.length ++ l.drop (p.length + 1), 0 ≤ i ∧ i < (ps.length : Int) := fun i h => hi i (by
      rcases List.mem_append.1 h with h | h
      · exact List.mem_of_mem_take h
      · exact List.mem_of_mem_drop h)
    have hl2 : (l.take p.length ++ l.drop (p.length + 1)).length ≤ 8 := by simp; omega
    have hok : Lm OkPermit (chs ps (l.take p.length ++ l.drop (p.length + 1))) := ⟨by rw [chs_len]; omega, chs_ok hi2 hp.2⟩
    have hdc := (DaysCovered_both (chs ps (l.take p.length ++ l.drop (p.length + 1))) frm to hok).2
    unfold dcvR at hdc
    rw [chs_perms hv hi2 hl2, hd] at hdc
    simp only [if_true] at hdc
    have hf := hm p.length hpl
    unfold cvB at hf
    have hne : ((cntD (chs ps (l.take p.length ++ l.drop (p.length + 1))) (to + 1 - frm).toNat frm : Int) == ((to + 1 - frm).toNat : Int)) = false := by
      rw [beq_eq_false_iff_ne]; exact of_decide_eq_false hf
    simp only [laws_FnCovered.l26, laws_FnCovered.g26, c0, c1, c3, c4, c5, cw, t1, and_self, and_true, true_and, decide_true, decide_false, if_true, if_false, mid_get, mid_set, mid_getn, mid_setn, bt_mid, Option.bind_some, Bool.not_true, Bool.not_false, Bool.false_eq_true, Bool.true_eq_false, beq_self_eq_true, bne_self_eq_false, Int.toNat_natCast, List.nil_append]
    rw [if_pos (by rw [room64c]; simp [chs_len]; omega), if_pos (by rw [room64c]; simp [chs_len]; omega), e, hdc]
    simp only [Option.bind_some, bne_self_eq_false, if_true, hne, Bool.false_eq_true, if_false]
theorem covered_l19 (ps : List Prm) (l : List Int) (frm to : Int) (hv : permsL ps = true) (hd : daysB frm to = true) (hp : Lm OkPermit ps) (hi : ∀ i ∈ l, 0 ≤ i ∧ i < (ps.length : Int)) (hl : l.length ≤ 8)
    (hc : cvB (chs ps l) frm to = true) (hm : ∀ i, i < l.length → cvB (chs ps (l.take i ++ l.drop (i + 1))) frm to = false) :
    laws_FnCovered.l19 NN NN ps frm to l ((to + 1 - frm).toNat : Int) 0 [] = some true := by
  refine (fold_fix (E := fun i : Int => 0 ≤ i ∧ i < (ps.length : Int)) (fun p (o : List Prm) => o = chs ps p) (fun _ o i => o ++ [ps.getD i.toNat (0, (0, (0, (0, ([], 0)))))]) (fun _ => some true) (fun k j o => laws_FnCovered.l19 NN k ps frm to l ((to + 1 - frm).toNat : Int) j o) l ?_ ?_ [] hi rfl (by omega) NN (NN_lt (by omega))).2
  · intro k o hI
    have hok : Lm OkPermit (chs ps l) := ⟨by rw [chs_len]; omega, chs_ok hi hp.2⟩
    have hdc := (DaysCovered_both (chs ps l) frm to hok).2
    unfold dcvR at hdc
    rw [chs_perms hv hi hl, hd] at hdc
    simp only [if_true] at hdc
    have hf := of_decide_eq_true hc
    rw [hf] at hdc
    simp only [laws_FnCovered.l19, laws_FnCovered.g19, Int.lt_irrefl, and_self, and_true, true_and, decide_true, decide_false, if_true, if_false, mid_get, mid_set, mid_getn, mid_setn, bt_mid, Option.bind_some, Bool.not_true, Bool.not_false, Bool.false_eq_true, Bool.true_eq_false, beq_self_eq_true, bne_self_eq_false, Int.toNat_natCast, hI]
    rw [hdc]
    simp only [Option.bind_some, bne_self_eq_false, if_true, Bool.false_eq_true, if_false]
    exact covered_l26 ps l frm to hv hd hp hi hl hm
  · intro k p a r o hx ha hI c0 c1 c2 cw g
    have hlr : p.length < l.length := by rw [hx]; simp
    refine ⟨by rw [hI]; simp [chs], ?_⟩
    simp only [laws_FnCovered.l19, laws_FnCovered.g19, c0, c1, cw, and_self, and_true, true_and, decide_true, decide_false, if_true, if_false, mid_get, mid_set, mid_getn, mid_setn, bt_mid, Option.bind_some, Bool.not_true, Bool.not_false, Bool.false_eq_true, Bool.true_eq_false, beq_self_eq_true, bne_self_eq_false, Int.toNat_natCast, g, ha.1, ha.2]
    rw [if_pos (by rw [hI, room64c]; simp [chs]; omega)]
theorem FnCovered_true (code : List Int) (hyp : Ls (Rg .u8) code) : laws_FnCovered.f code = some true := by
  unfold laws_FnCovered.f laws_FnCovered.fn laws_FnCovered.top
  rw [big_f]
  by_cases hb : (4096 : Int) < (code.length : Int)
  · simp [hb]
  have hco := code_of hyp hb
  obtain ⟨ps, frm, to, e1, p1, p2⟩ := drawFew_ok hco
  obtain ⟨r, e2⟩ := drawText_ok hco
  have lps : Lm OkPermit ps := ⟨by omega, fun x hx => prmM_ok (p2 x hx)⟩
  obtain ⟨f1, f2⟩ := FewestPermits_both ps frm to lps
  obtain ⟨d1, d2⟩ := DaysCovered_both ps frm to lps
  obtain ⟨t1, t2⟩ := RefusalsText_both r
  simp only [hb, decide_false, Bool.false_eq_true, if_false, Option.bind_some, e1, e2, f1, f2, d1, d2, t1, t2, bne_self_eq_false]
  by_cases h1 : permsL ps = true
  rotate_left
  · have h1' : permsL ps = false := by simpa using h1
    unfold fewR dcvR
    rw [h1']
    simp only [Bool.false_eq_true, if_false]
    rw [likeInts_self [] (by simp)]
    simp
  by_cases h2 : daysB frm to = true
  rotate_left
  · have h2' : daysB frm to = false := by simpa using h2
    unfold fewR dcvR
    rw [h1, h2']
    simp only [Bool.false_eq_true, if_false, if_true]
    rw [likeInts_self [] (by simp)]
    simp
  obtain ⟨v1, v2⟩ := permsL_ok h1
  have hd := daysB_iff h2
  obtain ⟨k1, k2⟩ := few_found h1 h2
  have hdr : dcvR ps frm to = (cntD ps (to + 1 - frm).toNat frm, 0) := by unfold dcvR; rw [h1, h2]; rfl
  have w1 := w64 (n := to - frm) (by omega) (by omega)
  have w2 := w64 (n := to - frm + 1) (by omega) (by omega)
  rw [hdr]
  simp only [beq_self_eq_true, if_true, w1, w2]
  by_cases hz : (fewR ps frm to).2 = 0
  · obtain ⟨m, ⟨m1, m2⟩, hin, hcv, hmin⟩ := k2 hz
    have hall := k1.1 hz
    have hcn := of_decide_eq_true hall
    have hln := len_mem hin
    have hlk := likeInts_self (fewR ps frm to).1 (by omega)
    rw [hlk, hcn]
    have e3 : (((to + 1 - frm).toNat : Int) == to - frm + 1) = true := by rw [beq_iff_eq]; omega
    simp only [Option.bind_some, Bool.not_true, Bool.false_eq_true, if_false, hz, beq_self_eq_true, e3, bne_self_eq_false, if_true]
    refine covered_l19 ps (fewR ps frm to).1 frm to h1 h2 lps (few_lists hin) (by omega) hcv fun i hi => ?_
    have hdo := drop_one hin hi
    by_cases e : m = 1
    · have hl0 := len_mem hdo
      have h0 : (fewR ps frm to).1.take i ++ (fewR ps frm to).1.drop (i + 1) = [] := List.length_eq_zero_iff.1 (by omega)
      rw [h0]
      exact cov_nil frm to hd.2.1
    · exact hmin (m - 1) (by omega) (by omega) _ hdo
  · have hnc : ¬ cvB ps frm to = true := fun h => hz (k1.2 h)
    have e0 : ((fewR ps frm to).2 == 0) = false := by rw [beq_eq_false_iff_ne]; exact hz
    have e3 : ((cntD ps (to + 1 - frm).toNat frm : Int) == to - frm + 1) = false := by
      rw [beq_eq_false_iff_ne]
      intro h
      apply hnc
      unfold cvB
      rw [decide_eq_true_eq]; omega
    have hf1 : (fewR ps frm to).1.length ≤ 140737488355328 := by
      unfold fewR
      rw [h1, h2]
      simp only [if_true]
      rcases fewL_cases ps frm to ps.length 1 with ⟨m, l, q1, q2, q3, q4, q5, q6⟩ | ⟨q1, q2⟩
      · rw [q3]
        have := len_mem q4
        simp only; omega
      · rw [q1]; simp
    rw [likeInts_self _ hf1]
    have e4 : ((fewR ps frm to).2 != 0) = true := by rw [bne_iff_ne]; exact hz
    simp only [Option.bind_some, Bool.not_true, Bool.false_eq_true, if_false, e0, e3, beq_self_eq_true, e4, if_true]
end Go.Pl
