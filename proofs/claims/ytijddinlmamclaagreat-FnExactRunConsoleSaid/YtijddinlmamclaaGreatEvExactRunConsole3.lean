/- Part 3 of what the law FnExactRunConsole stands on: an evaluator of the model's code, proved sound; the functions as plain texts; their contracts. -/
import Derived.Test.YtijddinlmamclaaGreatChecked
import Derived.Test.YtijddinlmamclaaGreatProg
import Derived.Test.YtijddinlmamclaaGreatRows
import Derived.Below
import Derived.Calls
import Derived.Carry
import Derived.ChangeArms
import Derived.ChangeKeysEq
import Derived.ChangeOld
import Derived.Deep.Quiet
import Derived.KernelRfl
import Derived.Laws.Append
import Derived.Laws.BytesString
import Derived.Laws.MakeOwn
import Derived.Laws.Strings
import Derived.Laws.StructEq
import Derived.OpenShut
import Derived.OrdersHeld
import Derived.ProofKit
import Derived.ShutString
import Derived.SizedLaws
import Derived.Tactics
import Derived.WalkKit
import Derived.WideShapes
import Derived.Test.YtijddinlmamclaaGreatEvExactRunConsole2
namespace Go.Pl
open Go.Ev
set_option linter.unusedVariables false
def Sm (s : ByteArray) : Prop := s.size ≤ 1000000
def Lm {α : Type} (Q : α → Prop) (xs : List α) : Prop := xs.length ≤ 1000000 ∧ ∀ x ∈ xs, Q x
theorem eqS_loop {α : Type} {E : α → Prop} (l : Nat → List α → List α → Int → Option Bool) (a : List α) (hE : ∀ x ∈ a, E x)
    (hs : ∀ k p x r, E x → a = p ++ x :: r → l (k + 1) a a p.length = l k a a ((p.length : Int) + 1)) (he : ∀ k, l (k + 1) a a a.length = some true) :
    ∀ k, a.length < k → l k a a 0 = some true := by
  have key : ∀ (r p : List α) (k : Nat), a = p ++ r → r.length < k → l k a a p.length = some true := by
    intro r
    induction r with
    | nil =>
      intro p k h hk
      obtain ⟨k, rfl⟩ : ∃ j, k = j + 1 := ⟨k - 1, by omega⟩
      rw [List.append_nil] at h
      rw [← h]; exact he k
    | cons x r ih =>
      intro p k h hk
      simp only [List.length_cons] at hk
      obtain ⟨k, rfl⟩ : ∃ j, k = j + 1 := ⟨k - 1, by omega⟩
      rw [hs k p x r (hE x (by rw [h]; simp)) h]
      have := ih (p ++ [x]) k (by rw [h]; simp) (by omega)
      rw [snoc_len] at this
      exact this
  intro k hk
  have := key a [] k (by simp) hk
  simpa using this
theorem mark_held {α : Type} {Q : α → Prop} (l : Nat → List α → Int → Int → Option (Int × List α)) (lh : Nat → List α → Int → Int → Option Int) (C : Nat) (K : Int)
    (he : ∀ k p n, l (k + 1) p n p.length = some (n, p)) (heh : ∀ k p n, lh (k + 1) p n p.length = some n)
    (hs : ∀ x, Q x → ∀ n, 0 ≤ n → n ≤ K → ∃ x' n', n ≤ n' ∧ n' ≤ n + C ∧ (∀ k p r, p.length + r.length + 1 ≤ 1000000 → l (k + 1) (p ++ x :: r) n p.length = l k (p ++ x' :: r) n' ((p.length : Int) + 1))
      ∧ (∀ k p r, p.length + r.length + 1 ≤ 1000000 → lh (k + 1) (p ++ x' :: r) n p.length = lh k (p ++ x' :: r) n' ((p.length : Int) + 1)))
    (a : List α) (ha : Lm Q a) (n : Int) (h0 : 0 ≤ n) (h1 : n + (1000000 * C : Nat) ≤ K) (k kh : Nat) (hk : 1000000 < k) (hkh : 1000000 < kh) :
    ∃ n' a', l k a n 0 = some (n', a') ∧ lh kh a' n 0 = some n' ∧ n ≤ n' ∧ n' ≤ n + (1000000 * C : Nat) := by
  have key : ∀ (r p : List α) (k : Nat) (n : Int), p.length + r.length ≤ 1000000 → (∀ x ∈ r, Q x) → 0 ≤ n → n + ((r.length * C : Nat) : Int) ≤ K → r.length < k →
      ∃ n' r', l k (p ++ r) n p.length = some (n', p ++ r') ∧ r'.length = r.length ∧ n ≤ n' ∧ n' ≤ n + ((r.length * C : Nat) : Int) ∧ (∀ (q : List α) kh, q.length = p.length → r.length < kh → lh kh (q ++ r') n q.length = some n') := by
    intro r
    induction r with
    | nil =>
      intro p k n _ _ h0 _ hk
      obtain ⟨k, rfl⟩ : ∃ j, k = j + 1 := ⟨k - 1, by omega⟩
      refine ⟨n, [], by rw [List.append_nil]; exact he k p n, rfl, by omega, by simp, fun q kh _ hkh => ?_⟩
      obtain ⟨kh, rfl⟩ : ∃ j, kh = j + 1 := ⟨kh - 1, by simp at hkh; omega⟩
      rw [List.append_nil]; exact heh kh q n
    | cons x r ih =>
      intro p k n hb hq h0 hK hk
      simp only [List.length_cons] at hk hb hK
      obtain ⟨k, rfl⟩ : ∃ j, k = j + 1 := ⟨k - 1, by omega⟩
      have hm : (r.length + 1) * C = r.length * C + C := by rw [Nat.add_mul, Nat.one_mul]
      rw [hm] at hK
      obtain ⟨x', n1, a1, a2, a3, a4⟩ := hs x (hq x (by simp)) n h0 (by omega)
      rw [a3 k p r (by omega)]
      obtain ⟨n', r', b1, b2, b3, b4, b5⟩ := ih (p ++ [x']) k n1 (by simp; omega) (fun y hy => hq y (by simp [hy])) (by omega) (by omega) (by omega)
      rw [mid_snoc, snoc_len] at b1
      refine ⟨n', x' :: r', by rw [b1]; simp, by simp [b2], by omega, by simp only [List.length_cons]; rw [hm]; omega, fun q kh hq' hkh => ?_⟩
      simp only [List.length_cons] at hkh
      obtain ⟨kh, rfl⟩ : ∃ j, kh = j + 1 := ⟨kh - 1, by omega⟩
      rw [a4 kh q r' (by omega)]
      have := b5 (q ++ [x']) kh (by simp [hq']) (by omega)
      rw [mid_snoc, snoc_len] at this
      exact this
  have hle : ((a.length * C : Nat) : Int) ≤ ((1000000 * C : Nat) : Int) := Int.ofNat_le.2 (Nat.mul_le_mul_right _ ha.1)
  obtain ⟨n', r', b1, b2, b3, b4, b5⟩ := key a [] k n (by simpa using ha.1) ha.2 h0 (by omega) (by have := ha.1; omega)
  have := b5 [] kh rfl (by have := ha.1; omega)
  exact ⟨n', r', by simpa using b1, by simpa using this, b3, by omega⟩
end Go.Pl

namespace Go.Pl
open Go.Ev
set_option linter.unusedVariables false
theorem all_loop {α : Type} {E : α → Prop} (P : α → Bool) (fin : List α → Option Bool) (l : Nat → List α → Int → Option Bool)
    (hn : ∀ k p, l (k + 1) p p.length = fin p)
    (hc : ∀ k p a r, E a → (0 : Int) ≤ (p.length : Int) → (p.length : Int) < ((p ++ a :: r).length : Int) → IntKind.i64.wrap ((p.length : Int) + 1) = (p.length : Int) + 1 → l (k + 1) (p ++ a :: r) p.length = if P a = true then l k (p ++ a :: r) ((p.length : Int) + 1) else some false)
    (xs : List α) (hE : ∀ x ∈ xs, E x) (hB : xs.length ≤ 140737488355328) (k : Nat) (hk : xs.length < k) : l k xs 0 = if xs.all P = true then fin xs else some false := by
  have key : ∀ (r p : List α) (k : Nat), p.length + r.length ≤ 140737488355328 → (∀ x ∈ r, E x) → r.length < k → l k (p ++ r) p.length = if r.all P = true then fin (p ++ r) else some false := by
    intro r
    induction r with
    | nil =>
      intro p k _ _ hk
      obtain ⟨k, rfl⟩ : ∃ j, k = j + 1 := ⟨k - 1, by omega⟩
      rw [List.append_nil, hn]; simp
    | cons a r ih =>
      intro p k hb he hk
      simp only [List.length_cons] at hk hb
      obtain ⟨k, rfl⟩ : ∃ j, k = j + 1 := ⟨k - 1, by omega⟩
      have hm := mid_len p r a
      rw [hc k p a r (he a (by simp)) (by omega) (by omega) (w64 (by omega) (by omega))]
      have := ih (p ++ [a]) k (by simp; omega) (fun y hy => he y (by simp [hy])) (by omega)
      rw [mid_snoc, snoc_len] at this
      rw [this]
      cases h : P a <;> simp [h]
  have := key xs [] k (by simpa using hB) hE hk
  simpa using this
theorem all_loop_str (P : UInt8 → Bool) (fin : ByteArray → Option Bool) (l : Nat → ByteArray → Int → Option Bool)
    (hn : ∀ k p, l (k + 1) (ob p) p.length = fin (ob p))
    (hc : ∀ k p a r, (0 : Int) ≤ (p.length : Int) → (p.length : Int) < ((ob (p ++ a :: r)).size : Int) → IntKind.i64.wrap ((p.length : Int) + 1) = (p.length : Int) + 1 → l (k + 1) (ob (p ++ a :: r)) p.length = if P a = true then l k (ob (p ++ a :: r)) ((p.length : Int) + 1) else some false)
    (s : ByteArray) (hB : s.size ≤ 140737488355328) (k : Nat) (hk : s.size < k) : l k s 0 = if (bl s).all P = true then fin s else some false := by
  have := all_loop (E := fun _ => True) P (fun x => fin (ob x)) (fun k x i => l k (ob x) i) hn (fun k p a r _ h1 h2 h3 => hc k p a r h1 (by rw [ob_size]; exact h2) h3) (bl s) (fun _ _ => trivial) (by rw [bl_length]; exact hB) k (by rw [bl_length]; exact hk)
  rw [ob_bl] at this
  exact this
def foldi {α σ : Type} (f : Nat → σ → α → σ) : Nat → σ → List α → σ
  | _, st, [] => st
  | i, st, a :: r => foldi f (i + 1) (f i st a) r
theorem foldi_foldl {α σ : Type} (f : σ → α → σ) : ∀ (xs : List α) (i : Nat) (st : σ), foldi (fun _ => f) i st xs = xs.foldl f st := by
  intro xs
  induction xs with
  | nil => intro i st; rfl
  | cons a r ih => intro i st; exact ih _ _
theorem fold_fix {α σ ρ : Type} {E : α → Prop} (I : List α → σ → Prop) (f : Nat → σ → α → σ) (fin : σ → Option ρ) (l : Nat → Int → σ → Option ρ) (xs : List α)
    (hn : ∀ k st, I xs st → l (k + 1) xs.length st = fin st)
    (hc : ∀ k p a r st, xs = p ++ a :: r → E a → I p st → (0 : Int) ≤ (p.length : Int) → (p.length : Int) < (xs.length : Int) → p.length < 140737488355328 → IntKind.i64.wrap ((p.length : Int) + 1) = (p.length : Int) + 1 → (∀ z, xs.getD p.length z = a) →
      I (p ++ [a]) (f p.length st a) ∧ l (k + 1) p.length st = l k ((p.length : Int) + 1) (f p.length st a))
    (st : σ) (hE : ∀ x ∈ xs, E x) (hI : I [] st) (hB : xs.length ≤ 140737488355328) (k : Nat) (hk : xs.length < k) :
    I xs (foldi f 0 st xs) ∧ l k 0 st = fin (foldi f 0 st xs) := by
  have key : ∀ (r p : List α) (k : Nat) (st : σ), xs = p ++ r → (∀ x ∈ r, E x) → I p st → r.length < k → I xs (foldi f p.length st r) ∧ l k p.length st = fin (foldi f p.length st r) := by
    intro r
    induction r with
    | nil =>
      intro p k st hx _ hI hk
      obtain ⟨k, rfl⟩ : ∃ j, k = j + 1 := ⟨k - 1, by omega⟩
      rw [List.append_nil] at hx
      subst hx; exact ⟨hI, hn k st hI⟩
    | cons a r ih =>
      intro p k st hx he hI hk
      simp only [List.length_cons] at hk
      obtain ⟨k, rfl⟩ : ∃ j, k = j + 1 := ⟨k - 1, by omega⟩
      have hm := mid_len p r a
      have hxl : (xs.length : Int) = ((p ++ a :: r).length : Int) := by rw [hx]
      obtain ⟨h1, h2⟩ := hc k p a r st hx (he a (by simp)) hI (by omega) (by omega) (by omega) (w64 (by omega) (by omega)) (fun z => by rw [hx, mid_getn])
      have := ih (p ++ [a]) k (f p.length st a) (by rw [hx]; simp) (fun y hy => he y (by simp [hy])) h1 (by omega)
      rw [snoc_len] at this
      rw [h2]
      simpa [foldi] using this
  have := key xs [] k st (by simp) hE hI hk
  simpa using this
def firstOf {α : Type} (P : α → Bool) : Nat → List α → Option (Nat × α)
  | _, [] => none
  | i, a :: r => if P a = true then some (i, a) else firstOf P (i + 1) r
theorem find_loop {α ρ : Type} {E : α → Prop} (P : α → Bool) (hit : Nat → α → Option ρ) (fin : List α → Option ρ) (l : Nat → List α → Int → Option ρ)
    (hn : ∀ k p, l (k + 1) p p.length = fin p)
    (hc : ∀ k p a r, E a → (0 : Int) ≤ (p.length : Int) → (p.length : Int) < ((p ++ a :: r).length : Int) → p.length < 140737488355328 → IntKind.i64.wrap ((p.length : Int) + 1) = (p.length : Int) + 1 → l (k + 1) (p ++ a :: r) p.length = if P a = true then hit p.length a else l k (p ++ a :: r) ((p.length : Int) + 1))
    (xs : List α) (hE : ∀ x ∈ xs, E x) (hB : xs.length ≤ 140737488355328) (k : Nat) (hk : xs.length < k) : l k xs 0 = (firstOf P 0 xs).elim (fin xs) (fun x => hit x.1 x.2) := by
  have key : ∀ (r p : List α) (k : Nat), p.length + r.length ≤ 140737488355328 → (∀ x ∈ r, E x) → r.length < k → l k (p ++ r) p.length = (firstOf P p.length r).elim (fin (p ++ r)) (fun x => hit x.1 x.2) := by
    intro r
    induction r with
    | nil =>
      intro p k _ _ hk
      obtain ⟨k, rfl⟩ : ∃ j, k = j + 1 := ⟨k - 1, by omega⟩
      rw [List.append_nil, hn]; rfl
    | cons a r ih =>
      intro p k hb he hk
      simp only [List.length_cons] at hk hb
      obtain ⟨k, rfl⟩ : ∃ j, k = j + 1 := ⟨k - 1, by omega⟩
      have hm := mid_len p r a
      rw [hc k p a r (he a (by simp)) (by omega) (by omega) (by omega) (w64 (by omega) (by omega))]
      have := ih (p ++ [a]) k (by simp; omega) (fun y hy => he y (by simp [hy])) (by omega)
      rw [mid_snoc, snoc_len] at this
      rw [this]
      cases h : P a <;> simp [h, firstOf]
  have := key xs [] k (by simpa using hB) hE hk
  simpa using this
end Go.Pl

namespace Go.Ev
set_option linter.unusedVariables false
set_option linter.unusedSimpArgs false
variable {ρ : Type} {P : Program}
def V.lt (n : Nat) : V → Bool
  | .ref i => decide (i < n)
  | .ptr i _ => decide (i < n)
  | .vw i _ => decide (i < n)
  | .pr a b => a.lt n && b.lt n
  | .tp a b => a.lt n && b.lt n
  | _ => true
section
variable {φ φ' : Nat → Value} {hk hk' : Nat → Option Kd} {w w' : World} {S S' : Nat → Prop} {n : Nat}
theorem VC_lt (hφ : ∀ i k, i < n → hk i = some k → φ' i = φ i) (hkk : ∀ i k, i < n → hk i = some k → hk' i = some k ∨ hk' i = some .dead) (h : ∀ b, S b → S' b ∧ w'.heap[b]? = w.heap[b]?) :
    ∀ (t : Ty) (v : V) (cs : List Value), v.lt n = true → VC φ hk w S t v cs → VC φ' hk' w' S' t v cs := by
  intro t v
  induction v generalizing t with
  | dat u x => intro cs _ k; exact VC_dat.2 ⟨(VC_dat.1 k).1, Rs_move h _ _ _ (VC_dat.1 k).2⟩
  | ref id =>
    intro cs hl k
    have hl := of_decide_eq_true hl
    cases t with
    | sl e t =>
      rcases k with ⟨h1, h2⟩ | ⟨h1, rfl, A, n, c, h3⟩
      · exact .inl ⟨(hkk _ _ hl h1).elim (fun h => h) (fun h => h), h2⟩
      · rcases hkk _ _ hl h1 with h4 | h4
        · exact .inr ⟨h4, by rw [hφ _ _ hl h1], A, n, c, by rw [hφ _ _ hl h1, h3]⟩
        · exact .inl ⟨h4, A, n, c, by rw [h3]⟩
    | _ => exact k.elim
  | pr a b iha ihb =>
    intro cs hl k
    simp only [V.lt, Bool.and_eq_true] at hl
    cases t with
    | pair t u => obtain ⟨c0, c1, rfl, h0, h1⟩ := k; exact ⟨c0, c1, rfl, iha _ _ hl.1 h0, ihb _ _ hl.2 h1⟩
    | _ => exact k.elim
  | _ => intro cs _ k; cases t <;> exact k.elim
theorem VR_lt (hφ : ∀ i k, i < n → hk i = some k → φ' i = φ i) (hkk : ∀ i k, i < n → hk i = some k → hk' i = some k ∨ hk' i = some .dead) (h : ∀ b, S b → S' b ∧ w'.heap[b]? = w.heap[b]?) :
    ∀ (v : V), v.lt n = true → (∀ u, VR φ hk w S v u → VR φ' hk' w' S' v u) ∧ (∀ l, VRt φ hk w S v l → VRt φ' hk' w' S' v l) := by
  intro v
  induction v with
  | dat t x => intro _; exact ⟨fun u ⟨cs, h1, h2⟩ => ⟨cs, Rs_move h _ _ _ h1, h2⟩, fun l hl => hl⟩
  | nil => intro _; exact ⟨fun u k => k, fun l hl => hl⟩
  | ref id =>
    intro hl
    have hl := of_decide_eq_true hl
    refine ⟨fun u k => ?_, fun l hl => hl⟩
    rcases k with k | ⟨⟨e, t, k⟩, rfl⟩
    · exact .inl ((hkk _ _ hl k).elim (fun h => h) (fun h => h))
    · rcases hkk _ _ hl k with h4 | h4
      · exact .inr ⟨⟨e, t, h4⟩, (hφ _ _ hl k).symm⟩
      · exact .inl h4
  | ptr id p =>
    intro hl
    have hl := of_decide_eq_true hl
    refine ⟨fun u k => ?_, fun l hl => hl⟩
    rcases k with k | ⟨e, t, g, n, c, i, q, k, h1, h2, h0, h3⟩ | ⟨e, t, g, k, h1, h0, h2⟩
    · exact .inl ((hkk _ _ hl k).elim (fun h => h) (fun h => h))
    · rcases hkk _ _ hl k with h4 | h4
      · exact .inr (.inl ⟨e, t, g, n, c, i, q, h4, (hφ _ _ hl k).trans h1, h2, h0, h3⟩)
      · exact .inl h4
    · rcases hkk _ _ hl k with h4 | h4
      · exact .inr (.inr ⟨e, t, g, h4, (hφ _ _ hl k).trans h1, h0, h2⟩)
      · exact .inl h4
  | dptr t x =>
    intro _
    exact ⟨fun u ⟨p, cs, h1, h2, h3, h4, h5⟩ => ⟨p, cs, h1, h2, (h _ h3).1, Rs_move h _ _ _ h4, fun j u hu => (cell_move (a := ⟨p.block, p.off + j, none⟩) (h _ h3).2).trans (h5 j u hu)⟩, fun l hl => hl⟩
  | pr a b iha ihb => intro hl; exact ⟨fun u ⟨t, cs, h1, h2⟩ => ⟨t, cs, VC_lt hφ hkk h t (.pr a b) cs hl h1, h2⟩, fun l hl => hl⟩
  | tp a b iha ihb =>
    intro hl
    simp only [V.lt, Bool.and_eq_true] at hl
    refine ⟨?_, ?_⟩
    · rintro v ⟨u, r, rfl, h1, h2⟩
      exact ⟨u, r, rfl, (iha hl.1).1 u h1, (ihb hl.2).2 r h2⟩
    · rintro l ⟨u, r, rfl, h1, h2⟩
      exact ⟨u, r, rfl, (iha hl.1).1 u h1, (ihb hl.2).2 r h2⟩
  | vw id l =>
    intro hl
    have hl := of_decide_eq_true hl
    refine ⟨fun u k => ?_, fun l hl => hl⟩
    rcases k with k | ⟨e, t, A, n, c, k, h1, h2, h3⟩
    · exact .inl ((hkk _ _ hl k).elim (fun h => h) (fun h => h))
    · rcases hkk _ _ hl k with h4 | h4
      · exact .inr ⟨e, t, A, n, c, h4, (hφ _ _ hl k).trans h1, h2, h3⟩
      · exact .inl h4
  | und => intro _; exact ⟨fun _ hl => hl, fun l hl => hl⟩
  | gone => intro _; exact ⟨fun _ _ => trivial, fun l hl => hl⟩
end
section
variable {base io : Nat} {W0 : World} {IO Old : Nat → Prop} {φ0 : Nat → Value × Kd} {s s3 : St} {a a3 : Act} {w w3 : World} {ow ow3 : Nat → Option Nat} {φ φ3 : Nat → Value}
def atCall (φ : Nat → Value) (hp : List Blk) : Nat → Value × Kd := fun i => (φ i, (kds hp i).getD .dead)
def OldIn (ow : Nat → Option Nat) (w : World) (Old : Nat → Prop) (base b : Nat) : Prop := Fz ow w Old base b ∨ ∃ id, ow b = some id
theorem Fz_in {b : Nat} (h : Fz ow w Old base b) : Fz ow w (OldIn ow w Old base) w.heap.size b := ⟨h.1, h.2.1, .inl (.inl h)⟩
theorem enter_rel {m : Nat} (hm : m ≤ s.hp.length) (hr : Rel base W0 IO Old io φ0 s a w ow φ) {vs : List V} {us : List Value} (h : All2 (VR φ (kds s.hp) w (Fz ow w Old base)) vs us) (n : Nat) :
    Rel w.heap.size w (fun b => ∃ id, ow b = some id) (OldIn ow w Old base) m (atCall φ s.hp) ⟨vs ++ List.replicate n .und, s.hp⟩ { tmps := (us ++ List.replicate n undef).toArray, defers := [] } w ow φ := by
  have mv : ∀ (v : V) (u : Value), VR φ (kds s.hp) w (Fz ow w Old base) v u → VR φ (kds s.hp) w (Fz ow w (OldIn ow w Old base) w.heap.size) v u := fun v u k => ((VR_move (fun _ _ _ => rfl) (fun i k hk => .inl hk) (fun b hb => ⟨Fz_in hb, rfl⟩)) v).1 u k
  have hl := h.length
  refine ⟨rfl, ?_, ?_, ?_, ?_, ?_, Nat.le_refl _, ⟨rfl, rfl, rfl⟩, hm, fun i _ => rfl, fun i k _ hk => .inr ?_⟩
  · simp [hl]
  · intro i v hv
    by_cases hi : i < vs.length
    · rw [List.getElem?_append_left hi] at hv
      obtain ⟨u, h1, h2⟩ := h.get.2 i v hv
      refine ⟨u, ?_, mv v u h2⟩
      have hi2 : i < us.length := by omega
      simp only [List.getElem?_toArray]
      rw [List.getElem?_append_left hi2]; exact h1
    · rw [List.getElem?_append_right (by omega)] at hv
      obtain ⟨h1, h2⟩ := List.getElem?_eq_some_iff.1 hv
      rw [List.getElem_replicate] at h2
      subst h2
      refine ⟨undef, ?_, rfl⟩
      simp only [List.getElem?_toArray]
      rw [List.getElem?_append_right (by omega), List.getElem?_replicate, if_pos (by simpa [hl] using h1)]
  · intro id b hb
    exact BR_move rfl (fun _ _ _ => rfl) (fun i k hk => .inl hk) (fun b hb => ⟨Fz_in hb, rfl⟩) (fun g hg => ⟨hg, rfl⟩) (hr.hp id b hb)
  · intro b id hb
    have := hr.own b id hb
    exact ⟨this.1, .inr ⟨⟨id, hb⟩, .inr (.inr ⟨id, hb⟩)⟩, this.2.2⟩
  · intro b _ _; rfl
  · show k = (kds s.hp i).getD .dead
    rw [hk]; rfl
theorem leave_rel {m : Nat} (hlt : ∀ v ∈ s.sl, v.lt m = true) (hr : Rel base W0 IO Old 0 φ0 s a w ow φ) (h3 : Rel w.heap.size w (fun b => ∃ id, ow b = some id) (OldIn ow w Old base) m (atCall φ s.hp) s3 a3 w3 ow3 φ3) :
    Rel base W0 IO Old 0 φ0 ⟨s.sl, s3.hp⟩ a w3 ow3 φ3 := by
  have hφ : ∀ i k, i < m → kds s.hp i = some k → φ3 i = φ i := fun i k hi hk => h3.f0 i hi
  have hkk : ∀ i k, i < m → kds s.hp i = some k → kds s3.hp i = some k ∨ kds s3.hp i = some .dead := fun i k hi hk => by
    have hi3 : i < s3.hp.length := Nat.lt_of_lt_of_le hi h3.iol
    obtain ⟨k', hk'⟩ : ∃ k', kds s3.hp i = some k' := ⟨_, kds_some.2 ⟨s3.hp[i], List.getElem?_eq_getElem hi3, rfl⟩⟩
    have := h3.k0 i k' hi hk'
    have e : (atCall φ s.hp i).2 = k := by show (kds s.hp i).getD .dead = k; rw [hk]; rfl
    rw [e] at this
    rcases this with rfl | rfl
    · exact .inr hk'
    · exact .inl hk'
  have hS : ∀ b, Fz ow w Old base b → Fz ow3 w3 Old base b ∧ w3.heap[b]? = w.heap[b]? := fun b hb => by
    have hn : ¬ ∃ id, ow b = some id := fun ⟨id, h⟩ => by rw [hb.1] at h; cases h
    refine ⟨⟨?_, Nat.lt_of_lt_of_le hb.2.1 h3.sz, hb.2.2⟩, h3.fr b hb.2.1 hn⟩
    cases e : ow3 b with
    | none => rfl
    | some id =>
      rcases (h3.own b id e).2.1 with h | h
      · exact absurd hb.2.1 (Nat.not_lt.2 h)
      · exact absurd h.1 hn
  refine ⟨hr.dl, hr.len, ?_, ?_, ?_, ?_, Nat.le_trans hr.sz h3.sz, ⟨h3.mt.1.trans hr.mt.1, h3.mt.2.1.trans hr.mt.2.1, h3.mt.2.2.trans hr.mt.2.2⟩, Nat.zero_le _, fun i hi => absurd hi (Nat.not_lt_zero _), fun i k hi => absurd hi (Nat.not_lt_zero _)⟩
  · intro i v hv
    obtain ⟨u, h1, h2⟩ := hr.sl i v hv
    exact ⟨u, h1, (VR_lt hφ hkk hS v (hlt v (List.mem_of_getElem? hv))).1 u h2⟩
  · intro id b hb
    refine BR_move (F' := Fz ow3 w3 Old base) rfl (fun _ _ _ => rfl) (fun i k hk => .inl hk) (fun b hb => ⟨⟨hb.1, hb.2.1, ?_⟩, rfl⟩) (fun g hg => ⟨hg, rfl⟩) (h3.hp id b hb)
    rcases hb.2.2 with (h | ⟨id0, h⟩) | h
    · exact h.2.2
    · rcases (hr.own b id0 h).2.1 with k | ⟨k1, k2 | k2⟩
      · exact .inr k
      · exact absurd k2 (Nat.not_lt_zero _)
      · exact .inl k2
    · exact .inr (Nat.le_trans hr.sz h)
  · intro b id hb
    have := h3.own b id hb
    refine ⟨this.1, ?_, this.2.2⟩
    rcases this.2.1 with h | ⟨⟨id0, h⟩, _⟩
    · exact .inl (Nat.le_trans hr.sz h)
    · rcases (hr.own b id0 h).2.1 with k | ⟨k1, k2 | k2⟩
      · exact .inl k
      · exact absurd k2 (Nat.not_lt_zero _)
      · exact .inr ⟨k1, .inr k2⟩
  · intro b hb hi
    have hlt : b < w.heap.size := Nat.lt_of_lt_of_le hb hr.sz
    rw [h3.fr b hlt ?_]
    · exact hr.fr b hb hi
    · rintro ⟨id, h⟩
      rcases (hr.own b id h).2.1 with k | ⟨k, _⟩
      · exact absurd hb (Nat.not_lt.2 k)
      · exact hi k
end
def lastCall (I : FuncId → Option Func) (ops : Array Oper) : Option (List Oper × Oper × FuncId × Func × List Operand) := match ops.toList.reverse with
  | o :: r => match o.guard, o.op with
    | none, .call c => match c.callee with
      | .value (.func f) => match I f with
        | some fn => if fn.results.toList.isEmpty then some (r.reverse, o, f, fn, c.args.toList) else none
        | none => none
      | _ => none
    | _, _ => none
  | [] => none
def evAll (s : St) : List Operand → Option (List V)
  | [] => some []
  | x :: r => match s.ev x, evAll s r with
    | some v, some l => some (v :: l)
    | _, _ => none
def kIn (k : St → Option ρ) (sl : List V) (dst : Option Tmp) : Ex → St → Option ρ := fun e s3 => match e with
  | .exit _ => none
  | _ => k (({ sl := sl, hp := s3.hp } : St).put dst .gone)
def keepIn (keep : Nat → List Nat) (id : Nat) : Nat → List Nat := fun i => keep (10000000 * (id + 1) + i)
def envIn (E : Env) (io : Nat) : Env := { E with io := io, fr := true }
def V.top : V → Nat
  | .ref i => i + 1
  | .ptr i _ => i + 1
  | .vw i _ => i + 1
  | .pr a b => max a.top b.top
  | .tp a b => max a.top b.top
  | _ => 0
def topS (s : St) : Nat := s.sl.foldl (fun m v => max m v.top) 0
noncomputable def inPlace (E : Env) (keep : Nat → List Nat) (n id : Nat) (fn : Func) (args : List Operand) (dst : Option Tmp) (s : St) (k : St → Option ρ) : Option ρ := match evAll s args with
  | some vs => if E.io = 0 ∧ topS s ≤ s.hp.length ∧ (s.sl.all fun v => v.lt (topS s)) = true then exec (envIn E (topS s)) (keepIn keep id) n (codeOf fn) (kIn k s.sl dst) ⟨vs ++ List.replicate (fn.ntmps - vs.length) .und, s.hp⟩ else none
  | none => none
noncomputable def execI (E : Env) (I : FuncId → Option Func) (keep : Nat → List Nat) (n : Nat) : Code → (Ex → St → Option ρ) → St → Option ρ
  | .skip, K, s => K .normal s
  | .seq a b, K, s => execI E I keep n a (kSeq (cutAt E.io (keep (1000000 + firstId b)) n (execI E I keep n b K)) K) s
  | .cond c a b, K, s => match s.ev c with
    | some (.dat .bool c) => if c = true then execI E I keep n a K s else execI E I keep n b K s
    | _ => none
  | .block id c, K, s => execI E I keep n c (kBlock id K) s
  | .loop c, K, s => match s.norm E.io (keep (firstId c)) with
    | some s => loopN (execI E I keep n c) (St.norm E.io (keep (firstId c))) K n s
    | none => none
  | .region id ops false, K, s => match lastCall I ops with
    | some (pre, o, _, fn, args) => evOps E ops pre s fun s => inPlace E keep n id fn args o.dst s (K .normal)
    | none => evOps E ops ops.toList s (K .normal)
  | .region _ ops true, K, s => if Region.noSelect ops = true then evDrawSM E ops ops.size 0 s (K .normal) else none
  | .exit id, K, s => K (.exit id) s
  | .ret, K, s => K .ret s
  | _, _, _ => none
noncomputable def ctxI (E : Env) (I : FuncId → Option Func) (keep : Nat → List Nat) (n : Nat) : List (Way ρ) → Code → (Ex → St → Option ρ) → Code × (Ex → St → Option ρ)
  | .fst :: p, .seq a b, K => ctxI E I keep n p a (kSeq (cutAt E.io (keep (1000000 + firstId b)) n (execI E I keep n b K)) K)
  | .snd :: p, .seq _ b, K => ctxI E I keep n p b K
  | .yes :: p, .cond _ a _, K => ctxI E I keep n p a K
  | .no :: p, .cond _ _ b, K => ctxI E I keep n p b K
  | .blk :: p, .block id c, K => ctxI E I keep n p c (kBlock id K)
  | .rd L :: p, .loop c, K => ctxI E I keep n p c (kLoop (St.norm E.io (keep (firstId c))) L K)
  | _, c, K => (c, K)
section
variable {E : Env} {base : Nat} {W0 : World} {IO Old : Nat → Prop} {φ0 : Nat → Value × Kd} {s : St} {a : Act} {w w' : World} {o : Oper} {r : ρ} {ow : Nat → Option Nat} {φ : Nat → Value}
theorem lastCall_some {I : FuncId → Option Func} {ops : Array Oper} {pre : List Oper} {o : Oper} {f : FuncId} {fn : Func} {args : List Operand} (h : lastCall I ops = some (pre, o, f, fn, args)) :
    ops.toList = pre ++ [o] ∧ o.guard = none ∧ I f = some fn ∧ fn.results.toList = [] ∧ ∃ c, o.op = .call c ∧ c.callee = .value (.func f) ∧ c.args.toList = args := by
  unfold lastCall at h
  split at h
  · rename_i o' r he
    split at h
    · rename_i c hg ho
      split at h
      · rename_i f' hc
        split at h
        · rename_i fn' hI
          split at h
          · rename_i hr
            simp only [Option.some.injEq, Prod.mk.injEq] at h
            obtain ⟨rfl, rfl, rfl, rfl, rfl⟩ := h
            have := congrArg List.reverse he
            simp only [List.reverse_reverse, List.reverse_cons] at this
            exact ⟨this, hg, hI, List.isEmpty_iff.1 hr, c, ho, hc, rfl⟩
          · cases h
        · cases h
      · cases h
    · cases h
  · cases h
theorem evAll_sound (hr : Rel base W0 IO Old E.io φ0 s a w ow φ) : ∀ (l : List Operand) (vs : List V), evAll s l = some vs → All2 (VR φ (kds s.hp) w (Fz ow w Old base)) vs (l.map a.eval) := by
  intro l
  induction l with
  | nil => intro vs h; cases h; exact .nil
  | cons x l ih =>
    intro vs h
    simp only [evAll] at h
    split at h
    · rename_i v l' h1 h2
      cases h
      exact .cons (ev_sound hr h1) (ih _ h2)
    · cases h
theorem ops_then (hE : EnvOk P E IO Old) {ops : Array Oper} {Q : Exit → Act → World → Prop} {rest : List Oper} : ∀ (l : List Oper) (s : St) (k : St → Option ρ) (a : Act) (w : World), evOps E ops l s k = some r → RelE base W0 IO Old E.io φ0 s a w →
    (∀ s' a' w', k s' = some r → RelE base W0 IO Old E.io φ0 s' a' w' → wpList P ops Q rest a' w') → wpList P ops Q (l ++ rest) a w := by
  intro l
  induction l with
  | nil => intro s k a w h hr hq; exact hq s a w h hr
  | cons o l ih =>
    intro s k a w h hr hq
    simp only [evOps] at h
    show wpList P ops Q (o :: (l ++ rest)) a w
    unfold wpList
    rcases ev1_sound (Q := Q) (next := wpList P ops Q (l ++ rest)) hE h hr (fun s' a' w' hk hr' => ih s' k a' w' hk hr' hq) with ⟨h1, h2⟩ | ⟨h1, h2⟩
    · rw [if_pos h1]; exact .inl h2.wp
    · rw [if_neg (by simp [h1])]; exact h2
theorem inPlace_sound (hE : EnvOk P E IO Old) {I : FuncId → Option Func} (hI : ∀ f fn, I f = some fn → P.funcs[f]? = some fn ∧ fn.body.isSome = true ∧ fn.name ≠ "runtime.NumGoroutine") {o : Oper} {f : FuncId} {fn : Func} {args : List Operand} {cl : Call}
    (ho : o.op = .call cl) (hc : cl.callee = .value (.func f)) (ha : cl.args.toList = args) (hf : I f = some fn) (hres : fn.results.toList = []) {keep : Nat → List Nat} {n id : Nat} {k : St → Option ρ} (h : inPlace E keep n id fn args o.dst s k = some r) (hr : RelE base W0 IO Old E.io φ0 s a w)
    {next : Act → World → Prop} {Q : Exit → Act → World → Prop} (hn : ∀ s' a' w', k s' = some r → RelE base W0 IO Old E.io φ0 s' a' w' → next a' w') : o.wp P a w next Q := by
  obtain ⟨ow, φ, hr⟩ := hr
  unfold inPlace at h
  split at h
  rotate_left
  · cases h
  rename_i vs hvs
  split at h
  rotate_left
  · cases h
  rename_i hio
  have hall := evAll_sound hr args vs hvs
  obtain ⟨hP, hb, hname⟩ := hI f fn hf
  obtain ⟨code, hcode⟩ := Option.isSome_iff_exists.1 hb
  have hent := enter_rel hio.2.1 hr hall (fn.ntmps - vs.length)
  have hE' : EnvOk P (envIn E (topS s)) (fun b => ∃ id, ow b = some id) (OldIn ow w Old base) := ⟨hE.mo, hE.ty, hE.eq', hE.by', hE.con, fun _ b hb => .inr hb⟩
  have hlen := hall.length
  have hcall : Calls P f (args.map a.eval).toArray w fun e w' => e = .returned (retOf []) ∧ next (a.put o.dst (retOf [])) w' := by
    refine calls_of_wp hP hcode ?_
    have htm : (args.map a.eval).toArray ++ Array.replicate (fn.ntmps - (args.map a.eval).toArray.size) undef = (args.map a.eval ++ List.replicate (fn.ntmps - vs.length) undef).toArray := by
      apply Array.ext'
      simp only [List.length_map] at hlen
      simp [hlen]
    rw [htm]
    have hcd : codeOf fn = code := by unfold codeOf; rw [hcode]
    rw [hcd] at h
    refine exec_sound hE' _ n code _ _ _ _ _ h ⟨ow, φ, hent⟩ fun e s3 a3 w3 hk hr3 => ?_
    obtain ⟨ow3, φ3, hr3⟩ := hr3
    have key : k (({ sl := s.sl, hp := s3.hp } : St).put o.dst .gone) = some r → a3.defers = [] ∧ ∃ v, (results fn a3.tmps).run P w3 = .ok v w3 ∧ ((Ending.returned v = .returned (retOf [])) ∧ next (a.put o.dst (retOf [])) w3) := fun hk => by
      have hr0 := hr
      rw [hio.1] at hr0
      have hl := leave_rel (List.all_eq_true.1 hio.2.2) hr0 hr3
      have hp := Rel.put hl (v := .gone) (u := retOf []) trivial o.dst
      obtain ⟨us, hu, hrun⟩ := results_run hE' hr3 (vs := []) (by rw [hres]; rfl)
      have hu0 : us = [] := List.length_eq_zero_iff.1 (by have := hu.length; simpa using this.symm)
      rw [hu0] at hrun
      exact ⟨hr3.dl, retOf [], hrun, rfl, hn _ _ _ hk ⟨_, _, by rw [hio.1]; exact hp⟩⟩
    cases e with
    | normal => exact key hk
    | exit i => cases hk
    | ret => exact key hk
  have hrun : (execOp a.eval o).run P w = .ok (.enter f (args.map a.eval).toArray) w := by
    have hbn : fn.body.isNone = false := by cases hb : fn.body <;> simp_all
    have e1 : (args.map a.eval).toArray = cl.args.map a.eval := by rw [← ha, ← Array.toList_map]
    rw [e1]
    simp [execOp, ho, resolve, hc, Act.eval, Deferred.ofValue, invoke, callFunc, hP, hname, hbn]
    intro hb
    rw [hb] at hcode
    cases hcode
  unfold Oper.wp
  rw [hrun, Oper.upon_enter]
  refine hcall.mono fun e w' hpost => ?_
  obtain ⟨rfl, h2⟩ := hpost
  exact h2
theorem execI_sound (hE : EnvOk P E IO Old) {I : FuncId → Option Func} (hI : ∀ f fn, I f = some fn → P.funcs[f]? = some fn ∧ fn.body.isSome = true ∧ fn.name ≠ "runtime.NumGoroutine") (keep : Nat → List Nat) (n : Nat) : ∀ (c : Code) (K : Ex → St → Option ρ) (Q : Exit → Act → World → Prop) (s : St) (a : Act) (w : World), execI E I keep n c K s = some r → RelE base W0 IO Old E.io φ0 s a w →
    (∀ e s' a' w', K e s' = some r → RelE base W0 IO Old E.io φ0 s' a' w' → Q e.to a' w') → c.wp P Q a w := by
  intro c
  induction c with
  | skip => intro K Q s a w h hr hq; exact wp_skip (hq .normal s a w h hr)
  | seq x y ihx ihy =>
    intro K Q s a w h hr hq
    refine wp_seq (ihx _ _ s a w h hr fun e s' a' w' hk hr' => ?_)
    cases e with
    | normal =>
      rcases cutAt_some hk with hk | ⟨s2, hs2, hk⟩
      · exact ihy K Q s' a' w' hk hr' hq
      · exact ihy K Q s2 a' w' hk (norm_sound hr' hs2) hq
    | exit i => exact hq _ s' a' w' hk hr'
    | ret => exact hq _ s' a' w' hk hr'
  | cond c x y ihx ihy =>
    intro K Q s a w h hr hq
    simp only [execI] at h
    split at h
    · rename_i b hb
      obtain ⟨ow, φ, hr0⟩ := hr
      have hv := VR_bool (ev_sound hr0 hb)
      split at h
      · rename_i hbt
        subst hbt
        exact wp_cond_true hv (ihx K Q s a w h ⟨ow, φ, hr0⟩ hq)
      · rename_i hbf
        simp only [Bool.not_eq_true] at hbf
        subst hbf
        exact wp_cond_false hv (ihy K Q s a w h ⟨ow, φ, hr0⟩ hq)
    · cases h
  | block id c ih =>
    intro K Q s a w h hr hq
    refine wp_block (ih _ _ s a w h hr fun e s' a' w' hk hr' => ?_)
    cases e with
    | normal => exact hq .normal s' a' w' hk hr'
    | exit i =>
      simp only [kBlock] at hk
      show (if i = id then Q .normal a' w' else Q (.exit i) a' w')
      split at hk
      · rename_i hi; rw [if_pos hi]; exact hq .normal s' a' w' hk hr'
      · rename_i hi; rw [if_neg hi]; exact hq (.exit i) s' a' w' hk hr'
    | ret => exact hq .ret s' a' w' hk hr'
  | loop c ih =>
    intro K Q s a w h hr hq
    simp only [execI] at h
    split at h
    rotate_left
    · cases h
    rename_i s0 hs0
    have hr0 := norm_sound hr hs0
    have key : ∀ m s a w, loopN (execI E I keep n c) (St.norm E.io (keep (firstId c))) K m s = some r → RelE base W0 IO Old E.io φ0 s a w → ∀ b k cs,
        ∃ e a' w', Q e a' w' ∧ Arrives P (lone (b.at a (.code c :: .inLoop c :: k)) cs w) b k cs e a' w' := by
      intro m
      induction m with
      | zero => intro s a w h; cases h
      | succ m ihm =>
        intro s a w h hr b k cs
        simp only [loopN] at h
        obtain ⟨e, a₁, w₁, hq1, harr⟩ := ih _ (fun e a' w' => match e with
          | .normal => ∃ s', RelE base W0 IO Old E.io φ0 s' a' w' ∧ loopN (execI E I keep n c) (St.norm E.io (keep (firstId c))) K m s' = some r
          | e => Q e a' w') s a w h hr (fun e s' a' w' hk hr' => by
            cases e with
            | normal =>
              simp only [kLoop] at hk
              split at hk
              · rename_i s2 hs2; exact ⟨s2, norm_sound hr' hs2, hk⟩
              · cases hk
            | exit i => exact hq _ s' a' w' hk hr'
            | ret => exact hq _ s' a' w' hk hr') b (.inLoop c :: k) cs
        cases e with
        | normal =>
          obtain ⟨s', hr', hl⟩ := hq1
          obtain ⟨e₂, a₂, w₂, hq₂, harr₂⟩ := ihm s' a₁ w₁ hl hr' b k cs
          exact ⟨e₂, a₂, w₂, hq₂, .of_steps (Steps.trans harr (.one step_inLoop)) harr₂⟩
        | exit id => exact ⟨_, a₁, w₁, hq1, .pass (x := .inLoop c) rfl (fun _ _ => .inl (by simp)) harr⟩
        | goto l => exact ⟨_, a₁, w₁, hq1, .pass (x := .inLoop c) rfl (fun _ _ => .inl (by simp)) harr⟩
        | ret => exact ⟨_, a₁, w₁, hq1, .pass (x := .inLoop c) rfl (fun _ _ => .inl (by simp)) harr⟩
        | panic ch => exact ⟨_, a₁, w₁, hq1, .pass (x := .inLoop c) rfl (fun _ _ => .inl (by simp)) harr⟩
        | outgrown => exact ⟨_, a₁, w₁, hq1, .pass (x := .inLoop c) rfl (fun _ _ => .inl (by simp)) harr⟩
    intro b k cs
    obtain ⟨e, a', w', hq', harr⟩ := key n s0 a w h hr0 b k cs
    exact ⟨e, a', w', hq', .of_steps (.one step_loop) harr⟩
  | region id ops draw =>
    intro K Q s a w h hr hq
    cases draw with
    | false =>
      simp only [execI] at h
      split at h
      · rename_i pre o f fn args hl
        obtain ⟨h1, h2, h3, h4, c, h5, h6, h7⟩ := lastCall_some hl
        refine wp_region_list ?_
        rw [h1]
        refine ops_then hE pre s _ a w h hr (fun s' a' w' hk hr' => ?_)
        unfold wpList
        rw [if_pos (by simp [Region.wanted, h2])]
        refine .inl (inPlace_sound hE hI h5 h6 h7 h3 h4 hk hr' fun s2 a2 w2 hk2 hr2 => ?_)
        unfold wpList
        exact hq .normal s2 a2 w2 hk2 hr2
      · exact wp_region_list (ops_sound hE ops.toList s (K .normal) a w h hr (fun s' a' w' hk hr' => hq .normal s' a' w' hk hr'))
    | true =>
      simp only [execI] at h
      split at h
      · rename_i hs
        exact region_sound hE hs h hr (fun s' a' w' hk hr' => hq .normal s' a' w' hk hr')
      · cases h
  | exit id => intro K Q s a w h hr hq; exact wp_exit (hq (.exit id) s a w h hr)
  | ret => intro K Q s a w h hr hq; exact wp_ret (hq .ret s a w h hr)
  | _ => intro K Q s a w h; simp [execI] at h
end
section
variable {E : Env}
theorem sound_of_execI (hE : ∀ IO Old : Nat → Prop, EnvOk P E IO Old) {I : FuncId → Option Func} (hI : ∀ f fn, I f = some fn → P.funcs[f]? = some fn ∧ fn.body.isSome = true ∧ fn.name ≠ "runtime.NumGoroutine") {f : FuncId} {fn : Func} {code : Code} {c : Con} (hf : P.funcs[f]? = some fn) (hb : fn.body = some code) (keep : Nat → List Nat)
    (hio : ∀ x : Tup (c.ps.map (·.2)), ioN c.gv (ksB (kds' c.ps (dats _ x))).length = E.io)
    (h : ∀ x r, c.F x = some r → ∃ n, execI E I keep n code (fun e s => match e with | .exit _ => none | _ => finish E c (kds' c.ps (dats _ x)) fn.results.toList s) (initSt (kds' c.ps (dats _ x)) (fn.ntmps - c.ps.length)) = some r) : Sound P f c := by
  intro x r hF w vs gs Old hO hn hlt hks
  obtain ⟨n, hex⟩ := h x r hF
  have hdx := dats_types _ x
  obtain ⟨φ0, ow, fs, hfs, hφfs, hkfs, hvr0, hgs0, hrel⟩ := entry hks hO hn hlt (fn.ntmps - c.ps.length) c.gv
  rw [hio x] at hrel
  have hvl : vs.length = c.ps.length := by
    have h1 := (KsOk_len _ _ _ hks).1
    have h2 := congrArg List.length hdx
    simp only [List.length_map] at h2
    rw [kds_len _ _ (by omega)] at h1
    exact h1
  refine calls_of_wp hf hb ?_
  have htm : vs.toArray ++ Array.replicate (fn.ntmps - vs.toArray.size) undef = (vs ++ List.replicate (fn.ntmps - c.ps.length) undef).toArray := by
    apply Array.ext'
    simp [hvl]
  rw [htm]
  refine execI_sound (hE _ _) hI keep n code _ _ _ _ _ hex ⟨_, _, hrel⟩ fun e s a w' hk hr => ?_
  have key : finish E c (kds' c.ps (dats _ x)) fn.results.toList s = some r → a.defers = [] ∧ ∃ v, (results fn a.tmps).run P w' = .ok v w' ∧ ∃ us hs, Ending.returned v = .returned (retOf us) ∧ us.length = c.rs.length ∧ (hs.flatten ++ kpG c.gv gs).Nodup ∧ (∀ h ∈ hs.flatten, (w.heap.size ≤ h ∨ h ∈ gvG c.gv gs) ∧ h < w'.heap.size) ∧
      KsOk w' (Aft (fun b => Old b ∨ b ∈ gvG c.gv gs) w w' (hs.flatten ++ kpG c.gv gs)) (kds' c.rs (dats _ r)) us hs ∧
      KsOk w' (Aft (fun b => Old b ∨ b ∈ gvG c.gv gs) w w' (hs.flatten ++ kpG c.gv gs)) (kds' (iosG c.gv c.ps) ((dats _ r).drop c.rs.length)) (ioVsG c.gv c.ps vs) (ioGsG c.gv c.ps gs) ∧
      (∀ b, b < w.heap.size → b ∉ gs.flatten → w'.heap[b]? = w.heap[b]?) ∧ w.heap.size ≤ w'.heap.size ∧ w'.os = w.os ∧ w'.tape = w.tape ∧ w'.output = w.output := by
    intro hfin
    obtain ⟨ow0, φ', hr⟩ := hr
    unfold finish at hfin
    obtain ⟨ow', hr⟩ := freezes_sound (retFrz E c fn.results.toList s) s ow0 φ' (fun i hi => by
      unfold retFrz at hi
      split at hi
      · simpa using (List.mem_filter.1 hi).2
      · cases hi) hr
    generalize s.freezes (retFrz E c fn.results.toList s) = s at hr hfin
    unfold finish0 at hfin
    split at hfin
    rotate_left
    · cases hfin
    rename_i rv hrv
    split at hfin
    rotate_left
    · cases hfin
    rename_i hc
    simp only [Bool.and_eq_true, decide_eq_true_eq] at hc
    obtain ⟨hnd, hrl⟩ := hc
    have hnd := nodupB_sound _ hnd
    obtain ⟨us, hus, hrun⟩ := results_run (hE _ _) hr hrv
    have hul := hus.length
    -- the parameters that were written
    have hlk : (kds (ksB (kds' c.ps (dats _ x)))) = kds (ksB (kds' c.ps (dats _ x))) := rfl
    have hlen : c.gv = false → (ksB (kds' c.ps (dats _ x))).length = E.io := fun hg => by rw [← hio x, hg]; rfl
    have hne : c.gv = false → ∀ id, kds (ksB (kds' c.ps (dats _ x))) id ≠ none → id < E.io := fun hg id hh => by
      cases hk : kds (ksB (kds' c.ps (dats _ x))) id with
      | none => exact absurd hk hh
      | some k => rw [← hlen hg]; exact kds_lt hk
    have hpl : c.ps.length = (ksV (kds' c.ps (dats _ x)) 0).length := by rw [hvr0.length, hvl]
    have hioe : All2 (VR φ' (kds s.hp) w' (Fz ow' w' (fun b => Old b ∨ b ∈ gvG c.gv gs) w.heap.size)) (ioVG c.gv c.ps (ksV (kds' c.ps (dats _ x)) 0)) (ioVsG c.gv c.ps vs) := by
      cases hg : c.gv
      rotate_left
      · exact .nil
      show All2 _ (ioV c.ps (ksV (kds' c.ps (dats _ x)) 0)) (ioVs c.ps vs)
      refine io_exit (φ0 := φ0) ?_ (fun id k hh hk => hr.k0 id k (hne hg id hh) hk) (fun id hh => hr.f0 id (hne hg id hh)) c.ps _ _ hpl hvr0 (fun q hq => ?_)
      · intro id k hk
        refine ⟨hkfs id k hk, ?_⟩
        rintro rfl
        obtain ⟨b, hb1, hb2⟩ := kds_some.1 hk
        obtain ⟨v, _, hv2⟩ := (BlksV_blk _ _ _ hfs).2 id b hb1
        cases b <;> simp [Blk.kd] at hb2
        exact hv2
      · refine finT_each _ _ _ hfin q ?_
        rw [List.zip_append hrl.symm]
        refine List.mem_append_right _ ?_
        rw [hg]; exact hq
    have hall := hus.append hioe
    obtain ⟨_, hown⟩ := finT_sound (S' := fun _ => True) hr.hp (fun _ _ => trivial) _ _ _ _ hall hfin
    have hids : idsL (c.rs ++ iosG c.gv c.ps) (rv ++ ioVG c.gv c.ps (ksV (kds' c.ps (dats _ x)) 0)) = idsL c.rs rv ++ idsL (iosG c.gv c.ps) (ioVG c.gv c.ps (ksV (kds' c.ps (dats _ x)) 0)) := idsL_append _ _ _ _ hrl.symm
    rw [hids] at hown
    have hioids : (idsL (iosG c.gv c.ps) (ioVG c.gv c.ps (ksV (kds' c.ps (dats _ x)) 0))).flatten = List.range E.io := by
      cases hg : c.gv
      · show (idsL (ios c.ps) (ioV c.ps _)).flatten = _
        rw [io_ids _ _ _ hdx, hlen hg, List.range_eq_range']
      · rw [← hio x, hg]; rfl
    have hiog : (idsL (iosG c.gv c.ps) (ioVG c.gv c.ps (ksV (kds' c.ps (dats _ x)) 0))).map (blksOf φ') = ioGsG c.gv c.ps gs := by
      cases hg : c.gv
      rotate_left
      · rfl
      show (idsL (ios c.ps) (ioV c.ps _)).map (blksOf φ') = ioGs c.ps gs
      rw [io_ksI _ _ _ hdx, ioGs_map, hgs0 φ' (fun j v hv => ?_)]
      have hj := (List.getElem?_eq_some_iff.1 hv).1
      rw [BlksV_len _ _ _ hfs, hlen hg] at hj
      rw [hr.f0 j hj]; exact hφfs j v hv
    obtain ⟨hgf, hgl1, hgl2⟩ := ioGs_flat c.ps _ vs gs hdx hks
    let hs := (idsL c.rs rv).map (blksOf φ')
    have hhs : hs.flatten = blksOf φ' (idsL c.rs rv).flatten := blksOf_flat _
    have hgs : kpG c.gv gs = blksOf φ' (List.range E.io) := by
      cases hg : c.gv
      · show gs.flatten = _
        rw [← hgf, ← hioids, ← blksOf_flat, hiog, hg]; rfl
      · rw [← hio x, hg]; rfl
    have hown' : ∀ id ∈ (idsL c.rs rv).flatten ++ List.range E.io, ∀ g, blkOf (φ' id) = some g → ow' g = some id := by
      rw [List.flatten_append, hioids] at hown; exact hown
    have hboth : hs.flatten ++ kpG c.gv gs = blksOf φ' ((idsL c.rs rv).flatten ++ List.range E.io) := by rw [hhs, hgs]; simp [blksOf]
    have hF : ∀ b, Fz ow' w' (fun b => Old b ∨ b ∈ gvG c.gv gs) w.heap.size b → Aft (fun b => Old b ∨ b ∈ gvG c.gv gs) w w' (hs.flatten ++ kpG c.gv gs) b := by
      rintro b ⟨h1, h2, h3⟩
      refine ⟨h3, h2, fun hm => ?_⟩
      rw [hboth] at hm
      obtain ⟨id, i1, i2⟩ := blksOf_mem hm
      rw [hown' id i1 b i2] at h1; cases h1
    obtain ⟨hks', _⟩ := finT_sound (S' := Aft (fun b => Old b ∨ b ∈ gvG c.gv gs) w w' (hs.flatten ++ kpG c.gv gs)) hr.hp hF _ _ _ _ hall hfin
    have hdr := dats_types _ r
    have hdl : c.rs.length ≤ (dats _ r).length := by
      have := congrArg List.length hdr
      simp only [List.length_map, List.length_append] at this
      omega
    rw [hids, List.map_append (f := blksOf φ'), hiog, kds_append _ _ _ hdl] at hks'
    obtain ⟨hk1, hk2⟩ := KsOk_split _ _ _ _ _ _ (by rw [kds_len _ _ hdl, ← hul, hrl]) (by rw [kds_len _ _ hdl, List.length_map, idsL_len _ _ hrl.symm, hrl]) hks'
    refine ⟨hr.dl, _, hrun, us, hs, rfl, by omega, ?_, fun g hg => ?_, hk1, hk2, hr.fr, hr.sz, hr.mt⟩
    · rw [hboth]; exact blksOf_nodup _ hnd hown'
    · rw [hhs] at hg
      obtain ⟨id, i1, i2⟩ := blksOf_mem hg
      have hog := hown' id (List.mem_append_left _ i1) g i2
      obtain ⟨o1, o2, _⟩ := hr.own g id hog
      refine ⟨?_, o1⟩
      rcases o2 with o2 | ⟨o3, o4⟩
      · exact .inl o2
      · refine .inr ?_
        rcases o4 with o4 | o4 | o4
        · exact absurd rfl ((List.nodup_append.1 hnd).2.2 id i1 id (List.mem_range.2 o4))
        · exact absurd o3 (hO g o4).2
        · exact o4
  cases e with
  | normal => exact key hk
  | ret => exact key hk
  | exit id => simp at hk
end
noncomputable def bodyFI (E : Env) (I : FuncId → Option Func) (keep : Nat → List Nat) (n : Nat) (fn : Func) (c : Con) (x : Tup (c.ps.map (·.2))) : Option (Tup ((c.rs ++ iosG c.gv c.ps).map (·.2))) :=
  execI E I keep n (codeOf fn) (kEnd E fn c x) (initSt (kds' c.ps (dats _ x)) (fn.ntmps - c.ps.length))
theorem good_ofI {tab : List TRow} (h : okB P tab = true) {cs : List (FuncId × Con)} (hc : Goods P cs) (io : Nat) (mv : Bool) {f : FuncId} {fn : Func} {c : Con} (hf : P.funcs[f]? = some fn) (hb : fn.body.isSome = true) (hn : fn.name ≠ "runtime.NumGoroutine") (hrs : c.rs ≠ []) (keep : Nat → List Nat) (n : Nat)
    (hio : ∀ x : Tup (c.ps.map (·.2)), ioN c.gv (ksB (kds' c.ps (dats _ x))).length = io) {I : FuncId → Option Func} (hI : ∀ f fn, I f = some fn → P.funcs[f]? = some fn ∧ fn.body.isSome = true ∧ fn.name ≠ "runtime.NumGoroutine") (hx : ∀ x, bodyFI (envOf tab cs io mv) I keep n fn c x = c.F x) : Good P f c :=
  ⟨sound_of_execI (code := codeOf fn) (envOk h hc io mv) hI hf (by unfold codeOf; cases hb' : fn.body <;> simp_all) keep hio (fun x r hr => ⟨n, (hx x).trans hr⟩), fn, hf, hb, hn, hrs⟩
end Go.Ev

namespace Go.Ev.Tryz
open Go.Proofs Go.Pl
set_option linter.unusedVariables false
noncomputable section
def impl_safe.con : Con := { ps := [(.val, (.pair .bool (.pair .bool (.pair .bool (.pair .bool (.pair .bool (.int .i64)))))))], rs := [(.val, (.pair .bool (.pair .bool (.pair .bool (.pair .bool (.pair .bool (.int .i64)))))))], F := fun x => impl_safe.f x }
def impl_safe.cs : List (FuncId × Con) := []
def impl_safe.E : Env := envOf tab impl_safe.cs 0 false
def impl_safe.keep (i : Nat) : List Nat := []
set_option maxRecDepth 100000 in
theorem impl_safe.body (n : Nat) (x : Bool × Bool × Bool × Bool × Bool × Int) : bodyF impl_safe.E impl_safe.keep n Tryz.f165 impl_safe.con x = impl_safe.fn n x := by
 have h : bodyF impl_safe.E impl_safe.keep n Tryz.f165 impl_safe.con x = impl_safe.top x := by kernel_rfl
 exact h
set_option maxRecDepth 100000 in
theorem impl_safe.good : Good Tryz.prog 165 impl_safe.con :=
 good_of tabok (cs := impl_safe.cs) trivial 0 false (fn := Tryz.f165) Tryz.func165 rfl (by decide) (by simp [impl_safe.con]) impl_safe.keep NN (fun _ => rfl) (fun x => impl_safe.body NN x)
end
end Go.Ev.Tryz

namespace Go.Ev.Tryz
open Go.Proofs Go.Pl
set_option linter.unusedVariables false
noncomputable section
def impl_giveInput.con : Con := { ps := [(.val, (.pair .bool (.pair .bool (.pair .bool (.pair .bool (.pair .bool (.int .i64))))))), (.val, (.int .i64))], rs := [(.val, (.pair .bool (.pair .bool (.pair .bool (.pair .bool (.pair .bool (.int .i64))))))), (.val, (.int .i64))], F := fun x => impl_giveInput.f x.1 x.2 }
def impl_giveInput.cs : List (FuncId × Con) := [(165, impl_safe.con)]
def impl_giveInput.E : Env := envOf tab impl_giveInput.cs 0 false
def impl_giveInput.keep (i : Nat) : List Nat := []
set_option maxRecDepth 100000 in
theorem impl_giveInput.body (n : Nat) (x : YB × Int) : bodyF impl_giveInput.E impl_giveInput.keep n Tryz.f153 impl_giveInput.con x = impl_giveInput.fn n x.1 x.2 := by
 have h : bodyF impl_giveInput.E impl_giveInput.keep n Tryz.f153 impl_giveInput.con x = impl_giveInput.top x.1 x.2 := by kernel_rfl
 exact h
set_option maxRecDepth 100000 in
theorem impl_giveInput.good : Good Tryz.prog 153 impl_giveInput.con :=
 good_of tabok (cs := impl_giveInput.cs) ⟨impl_safe.good, trivial⟩ 0 false (fn := Tryz.f153) Tryz.func153 rfl (by decide) (by simp [impl_giveInput.con]) impl_giveInput.keep NN (fun _ => rfl) (fun x => impl_giveInput.body NN x)
end
end Go.Ev.Tryz

namespace Go.Ev.Tryz
open Go.Proofs Go.Pl
set_option linter.unusedVariables false
noncomputable section
def impl_ControllerAt.st100000001 (w0a : Bool) (V : Bool) (K : Bool) (g : Bool) (v : Bool) (w : Int) (d0a : List YC) (o : Int) (m : Int) (j : Bool × Bool × Bool × Bool × Bool × Int) (w2' : List Int) : St := ⟨[.ptr 1 [], .gone, .gone, .gone, .gone, .gone, .gone, .gone, .gone, .gone, .gone, .gone, .gone, .gone, .gone, .gone, .gone, .gone, .gone, .gone, .gone, .gone, .gone, .gone, .gone, .gone, .gone, .gone, .gone, .gone, .gone, .gone, .gone, .gone, .gone, .gone, .gone, .gone, .gone, .gone, .gone, .gone, .gone, .gone, .gone, .gone, .gone, .gone, .gone, .gone, .gone, .gone, .gone, .gone, .gone, .gone, .gone, .gone, .gone, .gone, .gone, .gone, .gone, .gone, .gone, .gone, .gone, .gone, .gone, .gone, .gone, .gone, .gone, .gone, .gone, .gone, .gone], [.box 114 (.pair .bool (.pair .bool (.pair .bool (.pair .bool (.pair .bool (.int .i64)))))) (.pr (.dat .bool w0a) (.pr (.dat .bool V) (.pr (.dat .bool K) (.pr (.dat .bool g) (.pr (.dat .bool v) (.dat (.int .i64) w)))))), .box 137 (.pair (.sl 72 (.pair (.int .i64) (.int .i64))) (.pair (.int .i64) (.pair (.int .i64) (.pair (.pair .bool (.pair .bool (.pair .bool (.pair .bool (.pair .bool (.int .i64)))))) (.sl 2 (.int .i64)))))) (.pr (.dat (.sl 72 (.pair (.int .i64) (.int .i64))) d0a) (.pr (.dat (.int .i64) o) (.pr (.dat (.int .i64) m) (.pr (.dat (.pair .bool (.pair .bool (.pair .bool (.pair .bool (.pair .bool (.int .i64)))))) j) (.ref 2))))), .row 2 (.int .i64) w2' none]⟩
def impl_ControllerAt.tr0 (L100000001 : YJ) (s : Int) (v4a : Bool) (a : Bool) (t : Bool) (r : Bool) (p : Bool) (q : Int) (d6a : List YC) (b : Int) (u : Int) (c : Bool × Bool × Bool × Bool × Bool × Int) (w2 : List Int) (w0a : Bool) (V : Bool) (K : Bool) (g : Bool) (v : Bool) (w : Int) (d0a : List YC) (o : Int) (m : Int) (j : Bool × Bool × Bool × Bool × Bool × Int) (w2' : List Int) : Option YH :=
 if w2'.length + ([o]).length < room 8 then
  L100000001 s v4a a t r p q d6a b u c w2 w0a V K g v w d0a (IntKind.i64.wrap (o + 1)) m j (w2' ++ ([o]))
 else
  none
def impl_ControllerAt.tr1 (L100000001 : YJ) (s : Int) (v4a : Bool) (a : Bool) (t : Bool) (r : Bool) (p : Bool) (q : Int) (d6a : List YC) (b : Int) (u : Int) (c : Bool × Bool × Bool × Bool × Bool × Int) (w2 : List Int) (w0a : Bool) (V : Bool) (K : Bool) (g : Bool) (v : Bool) (w : Int) (d0a : List YC) (o : Int) (m : Int) (j : Bool × Bool × Bool × Bool × Bool × Int) (w2' : List Int) : Option YH :=
 (impl_giveInput.f j ((d0a.getD (o : Int).toNat (0, 0)).2)).bind fun r5 =>
 if ((r5.2 : Int) == 0) = true then
  L100000001 s v4a a t r p q d6a b u c w2 w0a V K g v w d0a (IntKind.i64.wrap (o + 1)) m r5.1 w2'
 else
  agree (
   impl_ControllerAt.tr0 L100000001 s v4a a t r p q d6a b u c w2 w0a V K g v w d0a o m j w2'
  ) (
   agree (
    impl_ControllerAt.tr0 L100000001 s v4a a t r p q d6a b u c w2 w0a V K g v w d0a o m j w2'
   ) (
    impl_ControllerAt.tr0 L100000001 s v4a a t r p q d6a b u c w2 w0a V K g v w d0a o m j w2'
   )
  )
def impl_ControllerAt.tr2 (L100000001 : YJ) (s : Int) (v4a : Bool) (a : Bool) (t : Bool) (r : Bool) (p : Bool) (q : Int) (d6a : List YC) (b : Int) (u : Int) (c : Bool × Bool × Bool × Bool × Bool × Int) (w2 : List Int) (w0a : Bool) (V : Bool) (K : Bool) (g : Bool) (v : Bool) (w : Int) (d0a : List YC) (o : Int) (m : Int) (j : Bool × Bool × Bool × Bool × Bool × Int) (w2' : List Int) : Option YH :=
 agree (
  impl_ControllerAt.tr1 L100000001 s v4a a t r p q d6a b u c w2 w0a V K g v w d0a o m j w2'
 ) (
  impl_ControllerAt.tr1 L100000001 s v4a a t r p q d6a b u c w2 w0a V K g v w d0a o m j w2'
 )
def impl_ControllerAt.tr3 (L100000001 : YJ) (s : Int) (v4a : Bool) (a : Bool) (t : Bool) (r : Bool) (p : Bool) (q : Int) (d6a : List YC) (b : Int) (u : Int) (c : Bool × Bool × Bool × Bool × Bool × Int) (w2 : List Int) (w0a : Bool) (V : Bool) (K : Bool) (g : Bool) (v : Bool) (w : Int) (d0a : List YC) (o : Int) (m : Int) (j : Bool × Bool × Bool × Bool × Bool × Int) (w2' : List Int) : Option YH :=
 agree (
  impl_ControllerAt.tr2 L100000001 s v4a a t r p q d6a b u c w2 w0a V K g v w d0a o m j w2'
 ) (
  impl_ControllerAt.tr1 L100000001 s v4a a t r p q d6a b u c w2 w0a V K g v w d0a o m j w2'
 )
def impl_ControllerAt.tr4 (L100000001 : YJ) (s : Int) (v4a : Bool) (a : Bool) (t : Bool) (r : Bool) (p : Bool) (q : Int) (d6a : List YC) (b : Int) (u : Int) (c : Bool × Bool × Bool × Bool × Bool × Int) (w2 : List Int) (w0a : Bool) (V : Bool) (K : Bool) (g : Bool) (v : Bool) (w : Int) (d0a : List YC) (o : Int) (m : Int) (j : Bool × Bool × Bool × Bool × Bool × Int) (w2' : List Int) : Option YH :=
 if (0 : Int) ≤ o ∧ (o : Int) < d0a.length then
  impl_ControllerAt.tr1 L100000001 s v4a a t r p q d6a b u c w2 w0a V K g v w d0a o m j w2'
 else
  none
def impl_ControllerAt.tr5 (L100000001 : YJ) (s : Int) (v4a : Bool) (a : Bool) (t : Bool) (r : Bool) (p : Bool) (q : Int) (d6a : List YC) (b : Int) (u : Int) (c : Bool × Bool × Bool × Bool × Bool × Int) (w2 : List Int) (w0a : Bool) (V : Bool) (K : Bool) (g : Bool) (v : Bool) (w : Int) (d0a : List YC) (o : Int) (m : Int) (j : Bool × Bool × Bool × Bool × Bool × Int) (w2' : List Int) : Option YH :=
 agree (
  if (0 : Int) ≤ o ∧ (o : Int) < d0a.length then
   impl_ControllerAt.tr3 L100000001 s v4a a t r p q d6a b u c w2 w0a V K g v w d0a o m j w2'
  else
   none
 ) (
  impl_ControllerAt.tr4 L100000001 s v4a a t r p q d6a b u c w2 w0a V K g v w d0a o m j w2'
 )
def impl_ControllerAt.tr6 (L100000001 : YJ) (s : Int) (v4a : Bool) (a : Bool) (t : Bool) (r : Bool) (p : Bool) (q : Int) (d6a : List YC) (b : Int) (u : Int) (c : Bool × Bool × Bool × Bool × Bool × Int) (w2 : List Int) (w0a : Bool) (V : Bool) (K : Bool) (g : Bool) (v : Bool) (w : Int) (d0a : List YC) (o : Int) (m : Int) (j : Bool × Bool × Bool × Bool × Bool × Int) (w2' : List Int) : Option YH :=
 agree (
  impl_ControllerAt.tr4 L100000001 s v4a a t r p q d6a b u c w2 w0a V K g v w d0a o m j w2'
 ) (
  impl_ControllerAt.tr4 L100000001 s v4a a t r p q d6a b u c w2 w0a V K g v w d0a o m j w2'
 )
def impl_ControllerAt.tr7 (L100000001 : YJ) (s : Int) (v4a : Bool) (a : Bool) (t : Bool) (r : Bool) (p : Bool) (q : Int) (d6a : List YC) (b : Int) (u : Int) (c : Bool × Bool × Bool × Bool × Bool × Int) (w2 : List Int) (w0a : Bool) (V : Bool) (K : Bool) (g : Bool) (v : Bool) (w : Int) (d0a : List YC) (o : Int) (m : Int) (j : Bool × Bool × Bool × Bool × Bool × Int) (w2' : List Int) : Option YH :=
 agree (
  impl_ControllerAt.tr4 L100000001 s v4a a t r p q d6a b u c w2 w0a V K g v w d0a o m j w2'
 ) (
  if (0 : Int) ≤ o ∧ (o : Int) < d0a.length then
   impl_ControllerAt.tr2 L100000001 s v4a a t r p q d6a b u c w2 w0a V K g v w d0a o m j w2'
  else
   none
 )
def impl_ControllerAt.tr8 (L100000001 : YJ) (s : Int) (v4a : Bool) (a : Bool) (t : Bool) (r : Bool) (p : Bool) (q : Int) (d6a : List YC) (b : Int) (u : Int) (c : Bool × Bool × Bool × Bool × Bool × Int) (w2 : List Int) (w0a : Bool) (V : Bool) (K : Bool) (g : Bool) (v : Bool) (w : Int) (d0a : List YC) (o : Int) (m : Int) (j : Bool × Bool × Bool × Bool × Bool × Int) (w2' : List Int) : Option YH :=
 agree (
  impl_ControllerAt.tr5 L100000001 s v4a a t r p q d6a b u c w2 w0a V K g v w d0a o m j w2'
 ) (
  agree (
   if (0 : Int) ≤ o ∧ (o : Int) < d0a.length then
    agree (
     impl_ControllerAt.tr3 L100000001 s v4a a t r p q d6a b u c w2 w0a V K g v w d0a o m j w2'
    ) (
     agree (
      impl_ControllerAt.tr3 L100000001 s v4a a t r p q d6a b u c w2 w0a V K g v w d0a o m j w2'
     ) (
      impl_ControllerAt.tr2 L100000001 s v4a a t r p q d6a b u c w2 w0a V K g v w d0a o m j w2'
     )
    )
   else
    none
  ) (
   impl_ControllerAt.tr7 L100000001 s v4a a t r p q d6a b u c w2 w0a V K g v w d0a o m j w2'
  )
 )
def impl_ControllerAt.g100000001raw (L7 : YK) (L100000001 : YJ) (s : Int) (v4a : Bool) (a : Bool) (t : Bool) (r : Bool) (p : Bool) (q : Int) (d6a : List YC) (b : Int) (u : Int) (c : Bool × Bool × Bool × Bool × Bool × Int) (w2 : List Int) (w0a : Bool) (V : Bool) (K : Bool) (g : Bool) (v : Bool) (w : Int) (d0a : List YC) (o : Int) (m : Int) (j : Bool × Bool × Bool × Bool × Bool × Int) (w2' : List Int) : Option YH :=
 if (decide ((o : Int) < (d0a.length : Int))) = true then
  if (0 : Int) ≤ o ∧ (o : Int) < d0a.length then
   if ((((d0a.getD (o : Int).toNat (0, 0)).1) : Int) == m) = true then
    agree (
     agree (
      impl_ControllerAt.tr5 L100000001 s v4a a t r p q d6a b u c w2 w0a V K g v w d0a o m j w2'
     ) (
      agree (
       impl_ControllerAt.tr5 L100000001 s v4a a t r p q d6a b u c w2 w0a V K g v w d0a o m j w2'
      ) (
       impl_ControllerAt.tr6 L100000001 s v4a a t r p q d6a b u c w2 w0a V K g v w d0a o m j w2'
      )
     )
    ) (
     agree (
      impl_ControllerAt.tr8 L100000001 s v4a a t r p q d6a b u c w2 w0a V K g v w d0a o m j w2'
     ) (
      agree (
       impl_ControllerAt.tr8 L100000001 s v4a a t r p q d6a b u c w2 w0a V K g v w d0a o m j w2'
      ) (
       agree (
        impl_ControllerAt.tr6 L100000001 s v4a a t r p q d6a b u c w2 w0a V K g v w d0a o m j w2'
       ) (
        agree (
         impl_ControllerAt.tr7 L100000001 s v4a a t r p q d6a b u c w2 w0a V K g v w d0a o m j w2'
        ) (
         impl_ControllerAt.tr7 L100000001 s v4a a t r p q d6a b u c w2 w0a V K g v w d0a o m j w2'
        )
       )
      )
     )
    )
   else
    L7 s w0a V K g v w d0a o m j w2'
  else
   none
 else
  L7 s w0a V K g v w d0a o m j w2'
theorem impl_ControllerAt.g100000001raw_eq (L7 : YK) (L100000001 : YJ) (s : Int) (v4a : Bool) (a : Bool) (t : Bool) (r : Bool) (p : Bool) (q : Int) (d6a : List YC) (b : Int) (u : Int) (c : Bool × Bool × Bool × Bool × Bool × Int) (w2 : List Int) (w0a : Bool) (V : Bool) (K : Bool) (g : Bool) (v : Bool) (w : Int) (d0a : List YC) (o : Int) (m : Int) (j : Bool × Bool × Bool × Bool × Bool × Int) (w2' : List Int) : impl_ControllerAt.g100000001raw L7 L100000001 s v4a a t r p q d6a b u c w2 w0a V K g v w d0a o m j w2' = impl_ControllerAt.g100000001 L7 L100000001 s v4a a t r p q d6a b u c w2 w0a V K g v w d0a o m j w2' := by
 unfold impl_ControllerAt.g100000001raw impl_ControllerAt.g100000001
 simp only [agree_self, impl_ControllerAt.tr0, impl_ControllerAt.tr1, impl_ControllerAt.tr2, impl_ControllerAt.tr3, impl_ControllerAt.tr4, impl_ControllerAt.tr5, impl_ControllerAt.tr6, impl_ControllerAt.tr7, impl_ControllerAt.tr8]
def impl_ControllerAt.st1000009 (s : Int) (v4a : Bool) (a : Bool) (t : Bool) (r : Bool) (p : Bool) (q : Int) (d6a : List YC) (b : Int) (u : Int) (c : Bool × Bool × Bool × Bool × Bool × Int) (w2 : List Int) : St := ⟨[.gone, .dat (.int .i64) s, .gone, .gone, .ptr 0 [], .gone, .ptr 1 [], .gone, .gone, .gone, .gone, .gone, .gone, .gone, .gone, .gone, .gone, .gone, .gone, .gone, .gone, .gone, .gone, .gone, .gone, .gone, .gone, .gone, .gone, .gone, .gone, .gone, .gone, .gone], [.box 114 (.pair .bool (.pair .bool (.pair .bool (.pair .bool (.pair .bool (.int .i64)))))) (.pr (.dat .bool v4a) (.pr (.dat .bool a) (.pr (.dat .bool t) (.pr (.dat .bool r) (.pr (.dat .bool p) (.dat (.int .i64) q)))))), .box 137 (.pair (.sl 72 (.pair (.int .i64) (.int .i64))) (.pair (.int .i64) (.pair (.int .i64) (.pair (.pair .bool (.pair .bool (.pair .bool (.pair .bool (.pair .bool (.int .i64)))))) (.sl 2 (.int .i64)))))) (.pr (.dat (.sl 72 (.pair (.int .i64) (.int .i64))) d6a) (.pr (.dat (.int .i64) b) (.pr (.dat (.int .i64) u) (.pr (.dat (.pair .bool (.pair .bool (.pair .bool (.pair .bool (.pair .bool (.int .i64)))))) c) (.ref 2))))), .row 2 (.int .i64) w2 none]⟩
def impl_ControllerAt.st1000008 (s : Int) (v4a : Bool) (a : Bool) (t : Bool) (r : Bool) (p : Bool) (q : Int) (d6a : List YC) (b : Int) (u : Int) (c : Bool × Bool × Bool × Bool × Bool × Int) (w2 : List Int) : St := ⟨[.gone, .dat (.int .i64) s, .gone, .gone, .ptr 0 [], .gone, .ptr 1 [], .gone, .gone, .gone, .gone, .gone, .gone, .gone, .gone, .gone, .gone, .gone, .gone, .gone, .gone, .gone, .gone, .gone, .gone, .gone, .gone, .gone, .gone, .gone, .gone, .gone, .gone, .gone], [.box 114 (.pair .bool (.pair .bool (.pair .bool (.pair .bool (.pair .bool (.int .i64)))))) (.pr (.dat .bool v4a) (.pr (.dat .bool a) (.pr (.dat .bool t) (.pr (.dat .bool r) (.pr (.dat .bool p) (.dat (.int .i64) q)))))), .box 137 (.pair (.sl 72 (.pair (.int .i64) (.int .i64))) (.pair (.int .i64) (.pair (.int .i64) (.pair (.pair .bool (.pair .bool (.pair .bool (.pair .bool (.pair .bool (.int .i64)))))) (.sl 2 (.int .i64)))))) (.pr (.dat (.sl 72 (.pair (.int .i64) (.int .i64))) d6a) (.pr (.dat (.int .i64) b) (.pr (.dat (.int .i64) u) (.pr (.dat (.pair .bool (.pair .bool (.pair .bool (.pair .bool (.pair .bool (.int .i64)))))) c) (.ref 2))))), .row 2 (.int .i64) w2 none]⟩
def impl_ControllerAt.st7 (s : Int) (v4a : Bool) (a : Bool) (t : Bool) (r : Bool) (p : Bool) (q : Int) (d6a : List YC) (b : Int) (u : Int) (c : Bool × Bool × Bool × Bool × Bool × Int) (w2 : List Int) : St := ⟨[.gone, .dat (.int .i64) s, .gone, .gone, .ptr 0 [], .gone, .ptr 1 [], .gone, .gone, .gone, .gone, .gone, .gone, .gone, .gone, .gone, .gone, .gone, .gone, .gone, .gone, .gone, .gone, .gone, .gone, .gone, .gone, .gone, .gone, .gone, .gone, .gone, .gone, .gone], [.box 114 (.pair .bool (.pair .bool (.pair .bool (.pair .bool (.pair .bool (.int .i64)))))) (.pr (.dat .bool v4a) (.pr (.dat .bool a) (.pr (.dat .bool t) (.pr (.dat .bool r) (.pr (.dat .bool p) (.dat (.int .i64) q)))))), .box 137 (.pair (.sl 72 (.pair (.int .i64) (.int .i64))) (.pair (.int .i64) (.pair (.int .i64) (.pair (.pair .bool (.pair .bool (.pair .bool (.pair .bool (.pair .bool (.int .i64)))))) (.sl 2 (.int .i64)))))) (.pr (.dat (.sl 72 (.pair (.int .i64) (.int .i64))) d6a) (.pr (.dat (.int .i64) b) (.pr (.dat (.int .i64) u) (.pr (.dat (.pair .bool (.pair .bool (.pair .bool (.pair .bool (.pair .bool (.int .i64)))))) c) (.ref 2))))), .row 2 (.int .i64) w2 none]⟩
def impl_ControllerAt.st1000007 (s : Int) (v4a : Bool) (a : Bool) (t : Bool) (r : Bool) (p : Bool) (q : Int) (d6a : List YC) (b : Int) (u : Int) (c : Bool × Bool × Bool × Bool × Bool × Int) (w2 : List Int) : St := ⟨[.gone, .dat (.int .i64) s, .gone, .gone, .ptr 0 [], .gone, .ptr 1 [], .gone, .gone, .gone, .gone, .gone, .gone, .gone, .gone, .gone, .gone, .gone, .gone, .gone, .gone, .gone, .gone, .gone, .gone, .gone, .gone, .gone, .gone, .gone, .gone, .gone, .gone, .gone], [.box 114 (.pair .bool (.pair .bool (.pair .bool (.pair .bool (.pair .bool (.int .i64)))))) (.pr (.dat .bool v4a) (.pr (.dat .bool a) (.pr (.dat .bool t) (.pr (.dat .bool r) (.pr (.dat .bool p) (.dat (.int .i64) q)))))), .box 137 (.pair (.sl 72 (.pair (.int .i64) (.int .i64))) (.pair (.int .i64) (.pair (.int .i64) (.pair (.pair .bool (.pair .bool (.pair .bool (.pair .bool (.pair .bool (.int .i64)))))) (.sl 2 (.int .i64)))))) (.pr (.dat (.sl 72 (.pair (.int .i64) (.int .i64))) d6a) (.pr (.dat (.int .i64) b) (.pr (.dat (.int .i64) u) (.pr (.dat (.pair .bool (.pair .bool (.pair .bool (.pair .bool (.pair .bool (.int .i64)))))) c) (.ref 2))))), .row 2 (.int .i64) w2 none]⟩
def impl_ControllerAt.st70000001 (w0a : Bool) (V : Bool) (K : Bool) (g : Bool) (v : Bool) (w : Int) (d0a : List YC) (o : Int) (m : Int) (j : Bool × Bool × Bool × Bool × Bool × Int) (w2' : List Int) : St := ⟨[.ptr 1 [], .gone, .gone, .gone, .gone, .gone, .gone, .gone, .gone, .gone, .gone, .gone, .gone, .gone, .gone, .gone, .gone, .gone, .gone, .gone, .gone, .gone, .gone, .gone, .gone, .gone, .gone, .gone, .gone, .gone, .gone, .gone, .gone, .gone, .gone, .gone, .gone, .gone, .gone, .gone, .gone, .gone, .gone, .gone, .gone, .gone, .gone, .gone, .gone, .gone, .gone, .gone, .gone, .gone, .gone, .gone, .gone, .gone, .gone, .gone, .gone, .gone, .gone, .gone, .gone, .gone, .gone, .gone, .gone, .gone, .gone, .gone, .gone, .gone, .gone, .gone, .gone], [.box 114 (.pair .bool (.pair .bool (.pair .bool (.pair .bool (.pair .bool (.int .i64)))))) (.pr (.dat .bool w0a) (.pr (.dat .bool V) (.pr (.dat .bool K) (.pr (.dat .bool g) (.pr (.dat .bool v) (.dat (.int .i64) w)))))), .box 137 (.pair (.sl 72 (.pair (.int .i64) (.int .i64))) (.pair (.int .i64) (.pair (.int .i64) (.pair (.pair .bool (.pair .bool (.pair .bool (.pair .bool (.pair .bool (.int .i64)))))) (.sl 2 (.int .i64)))))) (.pr (.dat (.sl 72 (.pair (.int .i64) (.int .i64))) d0a) (.pr (.dat (.int .i64) o) (.pr (.dat (.int .i64) m) (.pr (.dat (.pair .bool (.pair .bool (.pair .bool (.pair .bool (.pair .bool (.int .i64)))))) j) (.ref 2))))), .row 2 (.int .i64) w2' none]⟩
def impl_ControllerAt.tr9 (L70000001 : YI) (s : Int) (v4a : Bool) (a : Bool) (t : Bool) (r : Bool) (p : Bool) (q : Int) (d6a : List YC) (b : Int) (u : Int) (R : Bool) (Q : Bool) (l : Bool) (d : Bool) (y : Bool) (z : Int) (w2 : List Int) (w0a : Bool) (V : Bool) (K : Bool) (g : Bool) (v : Bool) (w : Int) (d0a : List YC) (o : Int) (m : Int) (j : Bool × Bool × Bool × Bool × Bool × Int) (w2' : List Int) : Option YH :=
 if w2'.length + ([o]).length < room 8 then
  L70000001 s v4a a t r p q d6a b u R Q l d y z w2 w0a V K g v w d0a (IntKind.i64.wrap (o + 1)) m j (w2' ++ ([o]))
 else
  none
def impl_ControllerAt.tr10 (L70000001 : YI) (s : Int) (v4a : Bool) (a : Bool) (t : Bool) (r : Bool) (p : Bool) (q : Int) (d6a : List YC) (b : Int) (u : Int) (R : Bool) (Q : Bool) (l : Bool) (d : Bool) (y : Bool) (z : Int) (w2 : List Int) (w0a : Bool) (V : Bool) (K : Bool) (g : Bool) (v : Bool) (w : Int) (d0a : List YC) (o : Int) (m : Int) (j : Bool × Bool × Bool × Bool × Bool × Int) (w2' : List Int) : Option YH :=
 (impl_giveInput.f j ((d0a.getD (o : Int).toNat (0, 0)).2)).bind fun r3 =>
 if ((r3.2 : Int) == 0) = true then
  L70000001 s v4a a t r p q d6a b u R Q l d y z w2 w0a V K g v w d0a (IntKind.i64.wrap (o + 1)) m r3.1 w2'
 else
  agree (
   impl_ControllerAt.tr9 L70000001 s v4a a t r p q d6a b u R Q l d y z w2 w0a V K g v w d0a o m j w2'
  ) (
   agree (
    impl_ControllerAt.tr9 L70000001 s v4a a t r p q d6a b u R Q l d y z w2 w0a V K g v w d0a o m j w2'
   ) (
    impl_ControllerAt.tr9 L70000001 s v4a a t r p q d6a b u R Q l d y z w2 w0a V K g v w d0a o m j w2'
   )
  )
def impl_ControllerAt.tr11 (L70000001 : YI) (s : Int) (v4a : Bool) (a : Bool) (t : Bool) (r : Bool) (p : Bool) (q : Int) (d6a : List YC) (b : Int) (u : Int) (R : Bool) (Q : Bool) (l : Bool) (d : Bool) (y : Bool) (z : Int) (w2 : List Int) (w0a : Bool) (V : Bool) (K : Bool) (g : Bool) (v : Bool) (w : Int) (d0a : List YC) (o : Int) (m : Int) (j : Bool × Bool × Bool × Bool × Bool × Int) (w2' : List Int) : Option YH :=
 agree (
  impl_ControllerAt.tr10 L70000001 s v4a a t r p q d6a b u R Q l d y z w2 w0a V K g v w d0a o m j w2'
 ) (
  impl_ControllerAt.tr10 L70000001 s v4a a t r p q d6a b u R Q l d y z w2 w0a V K g v w d0a o m j w2'
 )
def impl_ControllerAt.tr12 (L70000001 : YI) (s : Int) (v4a : Bool) (a : Bool) (t : Bool) (r : Bool) (p : Bool) (q : Int) (d6a : List YC) (b : Int) (u : Int) (R : Bool) (Q : Bool) (l : Bool) (d : Bool) (y : Bool) (z : Int) (w2 : List Int) (w0a : Bool) (V : Bool) (K : Bool) (g : Bool) (v : Bool) (w : Int) (d0a : List YC) (o : Int) (m : Int) (j : Bool × Bool × Bool × Bool × Bool × Int) (w2' : List Int) : Option YH :=
 agree (
  impl_ControllerAt.tr11 L70000001 s v4a a t r p q d6a b u R Q l d y z w2 w0a V K g v w d0a o m j w2'
 ) (
  impl_ControllerAt.tr10 L70000001 s v4a a t r p q d6a b u R Q l d y z w2 w0a V K g v w d0a o m j w2'
 )
def impl_ControllerAt.tr13 (L70000001 : YI) (s : Int) (v4a : Bool) (a : Bool) (t : Bool) (r : Bool) (p : Bool) (q : Int) (d6a : List YC) (b : Int) (u : Int) (R : Bool) (Q : Bool) (l : Bool) (d : Bool) (y : Bool) (z : Int) (w2 : List Int) (w0a : Bool) (V : Bool) (K : Bool) (g : Bool) (v : Bool) (w : Int) (d0a : List YC) (o : Int) (m : Int) (j : Bool × Bool × Bool × Bool × Bool × Int) (w2' : List Int) : Option YH :=
 if (0 : Int) ≤ o ∧ (o : Int) < d0a.length then
  impl_ControllerAt.tr10 L70000001 s v4a a t r p q d6a b u R Q l d y z w2 w0a V K g v w d0a o m j w2'
 else
  none
def impl_ControllerAt.tr14 (L70000001 : YI) (s : Int) (v4a : Bool) (a : Bool) (t : Bool) (r : Bool) (p : Bool) (q : Int) (d6a : List YC) (b : Int) (u : Int) (R : Bool) (Q : Bool) (l : Bool) (d : Bool) (y : Bool) (z : Int) (w2 : List Int) (w0a : Bool) (V : Bool) (K : Bool) (g : Bool) (v : Bool) (w : Int) (d0a : List YC) (o : Int) (m : Int) (j : Bool × Bool × Bool × Bool × Bool × Int) (w2' : List Int) : Option YH :=
 agree (
  if (0 : Int) ≤ o ∧ (o : Int) < d0a.length then
   impl_ControllerAt.tr12 L70000001 s v4a a t r p q d6a b u R Q l d y z w2 w0a V K g v w d0a o m j w2'
  else
   none
 ) (
  impl_ControllerAt.tr13 L70000001 s v4a a t r p q d6a b u R Q l d y z w2 w0a V K g v w d0a o m j w2'
 )
def impl_ControllerAt.tr15 (L70000001 : YI) (s : Int) (v4a : Bool) (a : Bool) (t : Bool) (r : Bool) (p : Bool) (q : Int) (d6a : List YC) (b : Int) (u : Int) (R : Bool) (Q : Bool) (l : Bool) (d : Bool) (y : Bool) (z : Int) (w2 : List Int) (w0a : Bool) (V : Bool) (K : Bool) (g : Bool) (v : Bool) (w : Int) (d0a : List YC) (o : Int) (m : Int) (j : Bool × Bool × Bool × Bool × Bool × Int) (w2' : List Int) : Option YH :=
 agree (
  impl_ControllerAt.tr13 L70000001 s v4a a t r p q d6a b u R Q l d y z w2 w0a V K g v w d0a o m j w2'
 ) (
  impl_ControllerAt.tr13 L70000001 s v4a a t r p q d6a b u R Q l d y z w2 w0a V K g v w d0a o m j w2'
 )
def impl_ControllerAt.tr16 (L70000001 : YI) (s : Int) (v4a : Bool) (a : Bool) (t : Bool) (r : Bool) (p : Bool) (q : Int) (d6a : List YC) (b : Int) (u : Int) (R : Bool) (Q : Bool) (l : Bool) (d : Bool) (y : Bool) (z : Int) (w2 : List Int) (w0a : Bool) (V : Bool) (K : Bool) (g : Bool) (v : Bool) (w : Int) (d0a : List YC) (o : Int) (m : Int) (j : Bool × Bool × Bool × Bool × Bool × Int) (w2' : List Int) : Option YH :=
 agree (
  impl_ControllerAt.tr13 L70000001 s v4a a t r p q d6a b u R Q l d y z w2 w0a V K g v w d0a o m j w2'
 ) (
  if (0 : Int) ≤ o ∧ (o : Int) < d0a.length then
   impl_ControllerAt.tr11 L70000001 s v4a a t r p q d6a b u R Q l d y z w2 w0a V K g v w d0a o m j w2'
  else
   none
 )
def impl_ControllerAt.tr17 (L70000001 : YI) (s : Int) (v4a : Bool) (a : Bool) (t : Bool) (r : Bool) (p : Bool) (q : Int) (d6a : List YC) (b : Int) (u : Int) (R : Bool) (Q : Bool) (l : Bool) (d : Bool) (y : Bool) (z : Int) (w2 : List Int) (w0a : Bool) (V : Bool) (K : Bool) (g : Bool) (v : Bool) (w : Int) (d0a : List YC) (o : Int) (m : Int) (j : Bool × Bool × Bool × Bool × Bool × Int) (w2' : List Int) : Option YH :=
 agree (
  impl_ControllerAt.tr14 L70000001 s v4a a t r p q d6a b u R Q l d y z w2 w0a V K g v w d0a o m j w2'
 ) (
  agree (
   if (0 : Int) ≤ o ∧ (o : Int) < d0a.length then
    agree (
     impl_ControllerAt.tr12 L70000001 s v4a a t r p q d6a b u R Q l d y z w2 w0a V K g v w d0a o m j w2'
    ) (
     agree (
      impl_ControllerAt.tr12 L70000001 s v4a a t r p q d6a b u R Q l d y z w2 w0a V K g v w d0a o m j w2'
     ) (
      impl_ControllerAt.tr11 L70000001 s v4a a t r p q d6a b u R Q l d y z w2 w0a V K g v w d0a o m j w2'
     )
    )
   else
    none
  ) (
   impl_ControllerAt.tr16 L70000001 s v4a a t r p q d6a b u R Q l d y z w2 w0a V K g v w d0a o m j w2'
  )
 )
def impl_ControllerAt.g70000001raw (I1000007 : YK) (L70000001 : YI) (s : Int) (v4a : Bool) (a : Bool) (t : Bool) (r : Bool) (p : Bool) (q : Int) (d6a : List YC) (b : Int) (u : Int) (R : Bool) (Q : Bool) (l : Bool) (d : Bool) (y : Bool) (z : Int) (w2 : List Int) (w0a : Bool) (V : Bool) (K : Bool) (g : Bool) (v : Bool) (w : Int) (d0a : List YC) (o : Int) (m : Int) (j : Bool × Bool × Bool × Bool × Bool × Int) (w2' : List Int) : Option YH :=
 if (decide ((o : Int) < (d0a.length : Int))) = true then
  if (0 : Int) ≤ o ∧ (o : Int) < d0a.length then
   if ((((d0a.getD (o : Int).toNat (0, 0)).1) : Int) == m) = true then
    agree (
     agree (
      impl_ControllerAt.tr14 L70000001 s v4a a t r p q d6a b u R Q l d y z w2 w0a V K g v w d0a o m j w2'
     ) (
      agree (
       impl_ControllerAt.tr14 L70000001 s v4a a t r p q d6a b u R Q l d y z w2 w0a V K g v w d0a o m j w2'
      ) (
       impl_ControllerAt.tr15 L70000001 s v4a a t r p q d6a b u R Q l d y z w2 w0a V K g v w d0a o m j w2'
      )
     )
    ) (
     agree (
      impl_ControllerAt.tr17 L70000001 s v4a a t r p q d6a b u R Q l d y z w2 w0a V K g v w d0a o m j w2'
     ) (
      agree (
       impl_ControllerAt.tr17 L70000001 s v4a a t r p q d6a b u R Q l d y z w2 w0a V K g v w d0a o m j w2'
      ) (
       agree (
        impl_ControllerAt.tr15 L70000001 s v4a a t r p q d6a b u R Q l d y z w2 w0a V K g v w d0a o m j w2'
       ) (
        agree (
         impl_ControllerAt.tr16 L70000001 s v4a a t r p q d6a b u R Q l d y z w2 w0a V K g v w d0a o m j w2'
        ) (
         impl_ControllerAt.tr16 L70000001 s v4a a t r p q d6a b u R Q l d y z w2 w0a V K g v w d0a o m j w2'
        )
       )
      )
     )
    )
   else
    I1000007 s w0a V K g v w d0a o m j w2'
  else
   none
 else
  I1000007 s w0a V K g v w d0a o m j w2'
theorem impl_ControllerAt.g70000001raw_eq (I1000007 : YK) (L70000001 : YI) (s : Int) (v4a : Bool) (a : Bool) (t : Bool) (r : Bool) (p : Bool) (q : Int) (d6a : List YC) (b : Int) (u : Int) (R : Bool) (Q : Bool) (l : Bool) (d : Bool) (y : Bool) (z : Int) (w2 : List Int) (w0a : Bool) (V : Bool) (K : Bool) (g : Bool) (v : Bool) (w : Int) (d0a : List YC) (o : Int) (m : Int) (j : Bool × Bool × Bool × Bool × Bool × Int) (w2' : List Int) : impl_ControllerAt.g70000001raw I1000007 L70000001 s v4a a t r p q d6a b u R Q l d y z w2 w0a V K g v w d0a o m j w2' = impl_ControllerAt.g70000001 I1000007 L70000001 s v4a a t r p q d6a b u R Q l d y z w2 w0a V K g v w d0a o m j w2' := by
 unfold impl_ControllerAt.g70000001raw impl_ControllerAt.g70000001
 simp only [agree_self, impl_ControllerAt.tr9, impl_ControllerAt.tr10, impl_ControllerAt.tr11, impl_ControllerAt.tr12, impl_ControllerAt.tr13, impl_ControllerAt.tr14, impl_ControllerAt.tr15, impl_ControllerAt.tr16, impl_ControllerAt.tr17]
def impl_ControllerAt.st1000006 (s : Int) (v4a : Bool) (a : Bool) (t : Bool) (r : Bool) (p : Bool) (q : Int) (d6a : List YC) (b : Int) (u : Int) (R : Bool) (Q : Bool) (l : Bool) (d : Bool) (y : Bool) (z : Int) (w2 : List Int) : St := ⟨[.gone, .dat (.int .i64) s, .gone, .gone, .ptr 0 [], .gone, .ptr 1 [], .gone, .gone, .gone, .gone, .gone, .gone, .gone, .gone, .gone, .gone, .gone, .gone, .gone, .gone, .gone, .gone, .gone, .gone, .gone, .gone, .gone, .gone, .gone, .gone, .gone, .gone, .gone], [.box 114 (.pair .bool (.pair .bool (.pair .bool (.pair .bool (.pair .bool (.int .i64)))))) (.pr (.dat .bool v4a) (.pr (.dat .bool a) (.pr (.dat .bool t) (.pr (.dat .bool r) (.pr (.dat .bool p) (.dat (.int .i64) q)))))), .box 137 (.pair (.sl 72 (.pair (.int .i64) (.int .i64))) (.pair (.int .i64) (.pair (.int .i64) (.pair (.pair .bool (.pair .bool (.pair .bool (.pair .bool (.pair .bool (.int .i64)))))) (.sl 2 (.int .i64)))))) (.pr (.dat (.sl 72 (.pair (.int .i64) (.int .i64))) d6a) (.pr (.dat (.int .i64) b) (.pr (.dat (.int .i64) u) (.pr (.pr (.dat .bool R) (.pr (.dat .bool Q) (.pr (.dat .bool l) (.pr (.dat .bool d) (.pr (.dat .bool y) (.dat (.int .i64) z)))))) (.ref 2))))), .row 2 (.int .i64) w2 none]⟩
def impl_ControllerAt.con : Con := { ps := [(.val, (.sl 72 (.pair (.int .i64) (.int .i64)))), (.val, (.int .i64))], rs := [(.val, (.pair .bool (.pair .bool (.pair .bool (.pair .bool (.pair .bool (.int .i64))))))), (.val, (.int .i64))], F := fun x => impl_ControllerAt.f x.1 x.2 }
def impl_ControllerAt.cs : List (FuncId × Con) := [(55, impl_AreSignals.con), (88, impl_isTick.con), (153, impl_giveInput.con)]
def impl_ControllerAt.E : Env := envOf tab impl_ControllerAt.cs 0 false
def impl_ControllerAt.I (f : FuncId) : Option Func := if f = 132 then some Tryz.f132 else if f = 133 then some Tryz.f133 else none
theorem impl_ControllerAt.hI : ∀ f fn, impl_ControllerAt.I f = some fn → Tryz.prog.funcs[f]? = some fn ∧ fn.body.isSome = true ∧ fn.name ≠ "runtime.NumGoroutine" := by
  intro f fn h
  unfold impl_ControllerAt.I at h
  split at h
  · rename_i e; subst e; cases h; exact ⟨Tryz.func132, rfl, by decide⟩
  split at h
  · rename_i e; subst e; cases h; exact ⟨Tryz.func133, rfl, by decide⟩
  cases h
def impl_ControllerAt.keep (i : Nat) : List Nat := if i = 100000001 then [0] else if i = 1000009 then [1, 4, 6] else if i = 1000008 then [1, 4, 6] else if i = 7 then [1, 4, 6] else if i = 1000007 then [1, 4, 6] else if i = 70000001 then [0, 200000] else if i = 1000006 then [1, 4, 6] else []
def impl_ControllerAt.at100000001 (n : Nat) (x : YE × Int) (M7 : St → Option (YH)) (s : Int) (v4a : Bool) (a : Bool) (t : Bool) (r : Bool) (p : Bool) (q : Int) (d6a : List YC) (b : Int) (u : Int) (c : Bool × Bool × Bool × Bool × Bool × Int) (w2 : List Int) : Code × (Ex → St → Option (YH)) := ctx (envIn impl_ControllerAt.E 2) (keepIn impl_ControllerAt.keep 9) n [.blk] (codeOf Tryz.f132) (kIn ((ctxI impl_ControllerAt.E impl_ControllerAt.I impl_ControllerAt.keep n [.snd, .snd, .snd, .snd, .snd, .fst, .blk, .rd M7, .snd, .blk, .snd] (codeOf Tryz.f102) (kEnd impl_ControllerAt.E Tryz.f102 impl_ControllerAt.con x)).2 .normal) [.gone, .dat (.int .i64) s, .gone, .gone, .ptr 0 [], .gone, .ptr 1 [], .gone, .gone, .gone, .gone, .gone, .gone, .gone, .gone, .gone, .gone, .gone, .gone, .gone, .gone, .gone, .gone, .gone, .gone, .gone, .gone, .gone, .ptr 1 [], .gone, .gone, .gone, .gone, .gone] (some 29))
def impl_ControllerAt.LN100000001 (n : Nat) (x : YE × Int) (M7 : St → Option (YH)) (s : Int) (v4a : Bool) (a : Bool) (t : Bool) (r : Bool) (p : Bool) (q : Int) (d6a : List YC) (b : Int) (u : Int) (c : Bool × Bool × Bool × Bool × Bool × Int) (w2 : List Int) : Nat → St → Option (YH) := loopN (exec (envIn impl_ControllerAt.E 2) (keepIn impl_ControllerAt.keep 9) n (bodyOf (impl_ControllerAt.at100000001 n x M7 s v4a a t r p q d6a b u c w2).1)) (St.norm 2 (keepIn impl_ControllerAt.keep 9 1)) (impl_ControllerAt.at100000001 n x M7 s v4a a t r p q d6a b u c w2).2
def impl_ControllerAt.at1000009 (n : Nat) (x : YE × Int) (M7 : St → Option (YH)) : Code × (Ex → St → Option (YH)) := ctxI impl_ControllerAt.E impl_ControllerAt.I impl_ControllerAt.keep n [.snd, .snd, .snd, .snd, .snd, .fst, .blk, .rd M7, .snd, .blk, .snd] (codeOf Tryz.f102) (kEnd impl_ControllerAt.E Tryz.f102 impl_ControllerAt.con x)
def impl_ControllerAt.LN1000009 (n : Nat) (x : YE × Int) (M7 : St → Option (YH)) : Nat → St → Option (YH) := cutN (execI impl_ControllerAt.E impl_ControllerAt.I impl_ControllerAt.keep n (impl_ControllerAt.at1000009 n x M7).1 (impl_ControllerAt.at1000009 n x M7).2)
def impl_ControllerAt.at1000008 (n : Nat) (x : YE × Int) (M7 : St → Option (YH)) : Code × (Ex → St → Option (YH)) := ctxI impl_ControllerAt.E impl_ControllerAt.I impl_ControllerAt.keep n [.snd, .snd, .snd, .snd, .snd, .fst, .blk, .rd M7, .snd] (codeOf Tryz.f102) (kEnd impl_ControllerAt.E Tryz.f102 impl_ControllerAt.con x)
def impl_ControllerAt.LN1000008 (n : Nat) (x : YE × Int) (M7 : St → Option (YH)) : Nat → St → Option (YH) := cutN (execI impl_ControllerAt.E impl_ControllerAt.I impl_ControllerAt.keep n (impl_ControllerAt.at1000008 n x M7).1 (impl_ControllerAt.at1000008 n x M7).2)
def impl_ControllerAt.at7 (n : Nat) (x : YE × Int) : Code × (Ex → St → Option (YH)) := ctxI impl_ControllerAt.E impl_ControllerAt.I impl_ControllerAt.keep n [.snd, .snd, .snd, .snd, .snd, .fst, .blk] (codeOf Tryz.f102) (kEnd impl_ControllerAt.E Tryz.f102 impl_ControllerAt.con x)
def impl_ControllerAt.LN7 (n : Nat) (x : YE × Int) : Nat → St → Option (YH) := loopN (execI impl_ControllerAt.E impl_ControllerAt.I impl_ControllerAt.keep n (bodyOf (impl_ControllerAt.at7 n x).1)) (St.norm 0 (impl_ControllerAt.keep 7)) (impl_ControllerAt.at7 n x).2
def impl_ControllerAt.at1000007 (n : Nat) (x : YE × Int) : Code × (Ex → St → Option (YH)) := ctxI impl_ControllerAt.E impl_ControllerAt.I impl_ControllerAt.keep n [.snd, .snd, .snd, .snd, .snd] (codeOf Tryz.f102) (kEnd impl_ControllerAt.E Tryz.f102 impl_ControllerAt.con x)
def impl_ControllerAt.LN1000007 (n : Nat) (x : YE × Int) : Nat → St → Option (YH) := cutN (execI impl_ControllerAt.E impl_ControllerAt.I impl_ControllerAt.keep n (impl_ControllerAt.at1000007 n x).1 (impl_ControllerAt.at1000007 n x).2)
def impl_ControllerAt.at70000001 (n : Nat) (x : YE × Int) (s : Int) (v4a : Bool) (a : Bool) (t : Bool) (r : Bool) (p : Bool) (q : Int) (d6a : List YC) (b : Int) (u : Int) (R : Bool) (Q : Bool) (l : Bool) (d : Bool) (y : Bool) (z : Int) (w2 : List Int) : Code × (Ex → St → Option (YH)) := ctx (envIn impl_ControllerAt.E 2) (keepIn impl_ControllerAt.keep 6) n [.blk] (codeOf Tryz.f132) (kIn ((ctxI impl_ControllerAt.E impl_ControllerAt.I impl_ControllerAt.keep n [.snd, .snd, .snd, .snd, .fst] (codeOf Tryz.f102) (kEnd impl_ControllerAt.E Tryz.f102 impl_ControllerAt.con x)).2 .normal) [.gone, .dat (.int .i64) s, .gone, .gone, .ptr 0 [], .gone, .ptr 1 [], .gone, .gone, .gone, .gone, .gone, .gone, .gone, .gone, .gone, .gone, .gone, .ptr 1 [], .gone, .gone, .gone, .gone, .gone, .gone, .gone, .gone, .gone, .gone, .gone, .gone, .gone, .gone, .gone] (some 19))
def impl_ControllerAt.LN70000001 (n : Nat) (x : YE × Int) (s : Int) (v4a : Bool) (a : Bool) (t : Bool) (r : Bool) (p : Bool) (q : Int) (d6a : List YC) (b : Int) (u : Int) (R : Bool) (Q : Bool) (l : Bool) (d : Bool) (y : Bool) (z : Int) (w2 : List Int) : Nat → St → Option (YH) := loopN (exec (envIn impl_ControllerAt.E 2) (keepIn impl_ControllerAt.keep 6) n (bodyOf (impl_ControllerAt.at70000001 n x s v4a a t r p q d6a b u R Q l d y z w2).1)) (St.norm 2 (keepIn impl_ControllerAt.keep 6 1)) (impl_ControllerAt.at70000001 n x s v4a a t r p q d6a b u R Q l d y z w2).2
def impl_ControllerAt.at1000006 (n : Nat) (x : YE × Int) : Code × (Ex → St → Option (YH)) := ctxI impl_ControllerAt.E impl_ControllerAt.I impl_ControllerAt.keep n [.snd, .snd, .snd, .snd] (codeOf Tryz.f102) (kEnd impl_ControllerAt.E Tryz.f102 impl_ControllerAt.con x)
def impl_ControllerAt.LN1000006 (n : Nat) (x : YE × Int) : Nat → St → Option (YH) := cutN (execI impl_ControllerAt.E impl_ControllerAt.I impl_ControllerAt.keep n (impl_ControllerAt.at1000006 n x).1 (impl_ControllerAt.at1000006 n x).2)
set_option maxRecDepth 100000 in
theorem impl_ControllerAt.lem100000001 (n : Nat) (x : YE × Int) (M7 : St → Option (YH)) : ∀ (k : Nat) (s : Int) (v4a : Bool) (a : Bool) (t : Bool) (r : Bool) (p : Bool) (q : Int) (d6a : List YC) (b : Int) (u : Int) (c : Bool × Bool × Bool × Bool × Bool × Int) (w2 : List Int) (w0a : Bool) (V : Bool) (K : Bool) (g : Bool) (v : Bool) (w : Int) (d0a : List YC) (o : Int) (m : Int) (j : Bool × Bool × Bool × Bool × Bool × Int) (w2' : List Int), impl_ControllerAt.LN100000001 n x M7 s v4a a t r p q d6a b u c w2 k (impl_ControllerAt.st100000001 w0a V K g v w d0a o m j w2') = impl_ControllerAt.l100000001 n (fun s v4a a t r p q d6a b u c w2 => M7 (impl_ControllerAt.st7 s v4a a t r p q d6a b u c w2)) k s v4a a t r p q d6a b u c w2 w0a V K g v w d0a o m j w2' := by
 intro k
 induction k with
 | zero => intro s v4a a t r p q d6a b u c w2 w0a V K g v w d0a o m j w2'; rfl
 | succ k ih =>
  intro s v4a a t r p q d6a b u c w2 w0a V K g v w d0a o m j w2'
  have h : impl_ControllerAt.LN100000001 n x M7 s v4a a t r p q d6a b u c w2 (k + 1) (impl_ControllerAt.st100000001 w0a V K g v w d0a o m j w2') = impl_ControllerAt.g100000001raw (fun s v4a a t r p q d6a b u c w2 => M7 (impl_ControllerAt.st7 s v4a a t r p q d6a b u c w2)) (fun s v4a a t r p q d6a b u c w2 w0a V K g v w d0a o m j w2' => impl_ControllerAt.LN100000001 n x M7 s v4a a t r p q d6a b u c w2 k (impl_ControllerAt.st100000001 w0a V K g v w d0a o m j w2')) s v4a a t r p q d6a b u c w2 w0a V K g v w d0a o m j w2' := by kernel_rfl
  rw [impl_ControllerAt.g100000001raw_eq] at h
  rw [h]
  simp only [ih]
  rfl
set_option maxRecDepth 100000 in
theorem impl_ControllerAt.lem1000009 (n : Nat) (x : YE × Int) (M7 : St → Option (YH)) : ∀ (k : Nat) (s : Int) (v4a : Bool) (a : Bool) (t : Bool) (r : Bool) (p : Bool) (q : Int) (d6a : List YC) (b : Int) (u : Int) (c : Bool × Bool × Bool × Bool × Bool × Int) (w2 : List Int), impl_ControllerAt.LN1000009 n x M7 k (impl_ControllerAt.st1000009 s v4a a t r p q d6a b u c w2) = impl_ControllerAt.l1000009 n (fun s v4a a t r p q d6a b u c w2 => M7 (impl_ControllerAt.st7 s v4a a t r p q d6a b u c w2)) k s v4a a t r p q d6a b u c w2 := by
 intro k
 induction k with
 | zero => intro s v4a a t r p q d6a b u c w2; rfl
 | succ k ih =>
  intro s v4a a t r p q d6a b u c w2
  have h : impl_ControllerAt.LN1000009 n x M7 (k + 1) (impl_ControllerAt.st1000009 s v4a a t r p q d6a b u c w2) = impl_ControllerAt.g1000009 (fun s v4a a t r p q d6a b u c w2 w0a V K g v w d0a o m j w2' => impl_ControllerAt.LN100000001 n x M7 s v4a a t r p q d6a b u c w2 n (impl_ControllerAt.st100000001 w0a V K g v w d0a o m j w2')) (fun s v4a a t r p q d6a b u c w2 => M7 (impl_ControllerAt.st7 s v4a a t r p q d6a b u c w2)) (fun s v4a a t r p q d6a b u c w2 => impl_ControllerAt.LN1000009 n x M7 k (impl_ControllerAt.st1000009 s v4a a t r p q d6a b u c w2)) s v4a a t r p q d6a b u c w2 := by kernel_rfl
  rw [h]
  simp only [ih, impl_ControllerAt.lem100000001]
  rfl
set_option maxRecDepth 100000 in
theorem impl_ControllerAt.lem1000008 (n : Nat) (x : YE × Int) (M7 : St → Option (YH)) : ∀ (k : Nat) (s : Int) (v4a : Bool) (a : Bool) (t : Bool) (r : Bool) (p : Bool) (q : Int) (d6a : List YC) (b : Int) (u : Int) (c : Bool × Bool × Bool × Bool × Bool × Int) (w2 : List Int), impl_ControllerAt.LN1000008 n x M7 k (impl_ControllerAt.st1000008 s v4a a t r p q d6a b u c w2) = impl_ControllerAt.l1000008 n (fun s v4a a t r p q d6a b u c w2 => M7 (impl_ControllerAt.st7 s v4a a t r p q d6a b u c w2)) k s v4a a t r p q d6a b u c w2 := by
 intro k
 induction k with
 | zero => intro s v4a a t r p q d6a b u c w2; rfl
 | succ k ih =>
  intro s v4a a t r p q d6a b u c w2
  have h : impl_ControllerAt.LN1000008 n x M7 (k + 1) (impl_ControllerAt.st1000008 s v4a a t r p q d6a b u c w2) = impl_ControllerAt.g1000008 (fun s v4a a t r p q d6a b u c w2 => impl_ControllerAt.LN1000009 n x M7 n (impl_ControllerAt.st1000009 s v4a a t r p q d6a b u c w2)) (fun s v4a a t r p q d6a b u c w2 => M7 (impl_ControllerAt.st7 s v4a a t r p q d6a b u c w2)) (fun s v4a a t r p q d6a b u c w2 => impl_ControllerAt.LN1000008 n x M7 k (impl_ControllerAt.st1000008 s v4a a t r p q d6a b u c w2)) s v4a a t r p q d6a b u c w2 := by kernel_rfl
  rw [h]
  simp only [ih, impl_ControllerAt.lem1000009]
  rfl
set_option maxRecDepth 100000 in
theorem impl_ControllerAt.lem7 (n : Nat) (x : YE × Int) : ∀ (k : Nat) (s : Int) (v4a : Bool) (a : Bool) (t : Bool) (r : Bool) (p : Bool) (q : Int) (d6a : List YC) (b : Int) (u : Int) (c : Bool × Bool × Bool × Bool × Bool × Int) (w2 : List Int), impl_ControllerAt.LN7 n x k (impl_ControllerAt.st7 s v4a a t r p q d6a b u c w2) = impl_ControllerAt.l7 n k s v4a a t r p q d6a b u c w2 := by
 intro k
 induction k with
 | zero => intro s v4a a t r p q d6a b u c w2; rfl
 | succ k ih =>
  intro s v4a a t r p q d6a b u c w2
  have h : impl_ControllerAt.LN7 n x (k + 1) (impl_ControllerAt.st7 s v4a a t r p q d6a b u c w2) = impl_ControllerAt.g7 (fun s v4a a t r p q d6a b u c w2 => impl_ControllerAt.LN1000008 n x (impl_ControllerAt.LN7 n x k) n (impl_ControllerAt.st1000008 s v4a a t r p q d6a b u c w2)) (fun s v4a a t r p q d6a b u c w2 => impl_ControllerAt.LN7 n x k (impl_ControllerAt.st7 s v4a a t r p q d6a b u c w2)) s v4a a t r p q d6a b u c w2 := by kernel_rfl
  rw [h]
  simp only [ih, impl_ControllerAt.lem1000008]
  rfl
set_option maxRecDepth 100000 in
theorem impl_ControllerAt.lem1000007 (n : Nat) (x : YE × Int) : ∀ (k : Nat) (s : Int) (v4a : Bool) (a : Bool) (t : Bool) (r : Bool) (p : Bool) (q : Int) (d6a : List YC) (b : Int) (u : Int) (c : Bool × Bool × Bool × Bool × Bool × Int) (w2 : List Int), impl_ControllerAt.LN1000007 n x k (impl_ControllerAt.st1000007 s v4a a t r p q d6a b u c w2) = impl_ControllerAt.l1000007 n k s v4a a t r p q d6a b u c w2 := by
 intro k
 induction k with
 | zero => intro s v4a a t r p q d6a b u c w2; rfl
 | succ k ih =>
  intro s v4a a t r p q d6a b u c w2
  have h : impl_ControllerAt.LN1000007 n x (k + 1) (impl_ControllerAt.st1000007 s v4a a t r p q d6a b u c w2) = impl_ControllerAt.g1000007 (fun s v4a a t r p q d6a b u c w2 => impl_ControllerAt.LN7 n x n (impl_ControllerAt.st7 s v4a a t r p q d6a b u c w2)) (fun s v4a a t r p q d6a b u c w2 => impl_ControllerAt.LN1000007 n x k (impl_ControllerAt.st1000007 s v4a a t r p q d6a b u c w2)) s v4a a t r p q d6a b u c w2 := by kernel_rfl
  rw [h]
  simp only [ih, impl_ControllerAt.lem7]
  rfl
set_option maxRecDepth 100000 in
theorem impl_ControllerAt.lem70000001 (n : Nat) (x : YE × Int) : ∀ (k : Nat) (s : Int) (v4a : Bool) (a : Bool) (t : Bool) (r : Bool) (p : Bool) (q : Int) (d6a : List YC) (b : Int) (u : Int) (R : Bool) (Q : Bool) (l : Bool) (d : Bool) (y : Bool) (z : Int) (w2 : List Int) (w0a : Bool) (V : Bool) (K : Bool) (g : Bool) (v : Bool) (w : Int) (d0a : List YC) (o : Int) (m : Int) (j : Bool × Bool × Bool × Bool × Bool × Int) (w2' : List Int), impl_ControllerAt.LN70000001 n x s v4a a t r p q d6a b u R Q l d y z w2 k (impl_ControllerAt.st70000001 w0a V K g v w d0a o m j w2') = impl_ControllerAt.l70000001 n k s v4a a t r p q d6a b u R Q l d y z w2 w0a V K g v w d0a o m j w2' := by
 intro k
 induction k with
 | zero => intro s v4a a t r p q d6a b u R Q l d y z w2 w0a V K g v w d0a o m j w2'; rfl
 | succ k ih =>
  intro s v4a a t r p q d6a b u R Q l d y z w2 w0a V K g v w d0a o m j w2'
  have h : impl_ControllerAt.LN70000001 n x s v4a a t r p q d6a b u R Q l d y z w2 (k + 1) (impl_ControllerAt.st70000001 w0a V K g v w d0a o m j w2') = impl_ControllerAt.g70000001raw (fun s v4a a t r p q d6a b u c w2 => impl_ControllerAt.LN1000007 n x n (impl_ControllerAt.st1000007 s v4a a t r p q d6a b u c w2)) (fun s v4a a t r p q d6a b u R Q l d y z w2 w0a V K g v w d0a o m j w2' => impl_ControllerAt.LN70000001 n x s v4a a t r p q d6a b u R Q l d y z w2 k (impl_ControllerAt.st70000001 w0a V K g v w d0a o m j w2')) s v4a a t r p q d6a b u R Q l d y z w2 w0a V K g v w d0a o m j w2' := by kernel_rfl
  rw [impl_ControllerAt.g70000001raw_eq] at h
  rw [h]
  simp only [ih, impl_ControllerAt.lem1000007]
  rfl
set_option maxRecDepth 100000 in
theorem impl_ControllerAt.lem1000006 (n : Nat) (x : YE × Int) : ∀ (k : Nat) (s : Int) (v4a : Bool) (a : Bool) (t : Bool) (r : Bool) (p : Bool) (q : Int) (d6a : List YC) (b : Int) (u : Int) (R : Bool) (Q : Bool) (l : Bool) (d : Bool) (y : Bool) (z : Int) (w2 : List Int), impl_ControllerAt.LN1000006 n x k (impl_ControllerAt.st1000006 s v4a a t r p q d6a b u R Q l d y z w2) = impl_ControllerAt.l1000006 n k s v4a a t r p q d6a b u R Q l d y z w2 := by
 intro k
 induction k with
 | zero => intro s v4a a t r p q d6a b u R Q l d y z w2; rfl
 | succ k ih =>
  intro s v4a a t r p q d6a b u R Q l d y z w2
  have h : impl_ControllerAt.LN1000006 n x (k + 1) (impl_ControllerAt.st1000006 s v4a a t r p q d6a b u R Q l d y z w2) = impl_ControllerAt.g1000006 (fun s v4a a t r p q d6a b u R Q l d y z w2 w0a V K g v w d0a o m j w2' => impl_ControllerAt.LN70000001 n x s v4a a t r p q d6a b u R Q l d y z w2 n (impl_ControllerAt.st70000001 w0a V K g v w d0a o m j w2')) (fun s v4a a t r p q d6a b u R Q l d y z w2 => impl_ControllerAt.LN1000006 n x k (impl_ControllerAt.st1000006 s v4a a t r p q d6a b u R Q l d y z w2)) s v4a a t r p q d6a b u R Q l d y z w2 := by kernel_rfl
  rw [h]
  simp only [ih, impl_ControllerAt.lem70000001]
  rfl
set_option maxRecDepth 100000 in
theorem impl_ControllerAt.body (n : Nat) (x : YE × Int) : bodyFI impl_ControllerAt.E impl_ControllerAt.I impl_ControllerAt.keep n Tryz.f102 impl_ControllerAt.con x = impl_ControllerAt.fn n x.1 x.2 := by
 have h : bodyFI impl_ControllerAt.E impl_ControllerAt.I impl_ControllerAt.keep n Tryz.f102 impl_ControllerAt.con x = impl_ControllerAt.top (fun s v4a a t r p q d6a b u R Q l d y z w2 => impl_ControllerAt.LN1000006 n x n (impl_ControllerAt.st1000006 s v4a a t r p q d6a b u R Q l d y z w2)) x.1 x.2 := by kernel_rfl
 rw [h]
 simp only [impl_ControllerAt.lem1000006]
 rfl
set_option maxRecDepth 100000 in
theorem impl_ControllerAt.good : Good Tryz.prog 102 impl_ControllerAt.con :=
 good_ofI tabok (cs := impl_ControllerAt.cs) ⟨impl_AreSignals.good, impl_isTick.good, impl_giveInput.good, trivial⟩ 0 false (fn := Tryz.f102) Tryz.func102 rfl (by decide) (by simp [impl_ControllerAt.con]) impl_ControllerAt.keep NN (fun _ => rfl) impl_ControllerAt.hI (fun x => impl_ControllerAt.body NN x)
end
end Go.Ev.Tryz

namespace Go.Ev.Tryz
open Go.Proofs Go.Pl
set_option linter.unusedVariables false
noncomputable section
def impl_stateWord.con : Con := { ps := [(.val, (.pair .bool (.pair .bool (.pair .bool (.pair .bool (.pair .bool (.int .i64)))))))], rs := [(.val, .str)], F := fun x => impl_stateWord.f x }
def impl_stateWord.cs : List (FuncId × Con) := []
def impl_stateWord.E : Env := envOf tab impl_stateWord.cs 0 false
def impl_stateWord.keep (i : Nat) : List Nat := []
set_option maxRecDepth 100000 in
theorem impl_stateWord.body (n : Nat) (x : Bool × Bool × Bool × Bool × Bool × Int) : bodyF impl_stateWord.E impl_stateWord.keep n Tryz.f103 impl_stateWord.con x = impl_stateWord.fn n x := by
 have h : bodyF impl_stateWord.E impl_stateWord.keep n Tryz.f103 impl_stateWord.con x = impl_stateWord.top x := by kernel_rfl
 exact h
set_option maxRecDepth 100000 in
theorem impl_stateWord.good : Good Tryz.prog 103 impl_stateWord.con :=
 good_of tabok (cs := impl_stateWord.cs) trivial 0 false (fn := Tryz.f103) Tryz.func103 rfl (by decide) (by simp [impl_stateWord.con]) impl_stateWord.keep NN (fun _ => rfl) (fun x => impl_stateWord.body NN x)
end
end Go.Ev.Tryz

namespace Go.Ev.Tryz
open Go.Proofs Go.Pl
set_option linter.unusedVariables false
noncomputable section
def impl_putWord.st2 (q : ByteArray) (k5 : Int) (p : List ByteArray) : St := ⟨[.ref 0, .dat .str q, .gone, .gone, .gone, .dat (.int .i64) k5, .gone, .gone, .gone, .gone, .gone, .gone, .gone, .gone, .gone, .gone, .gone, .gone, .gone, .gone, .gone, .gone, .gone, .gone, .gone, .gone, .gone, .gone, .gone, .gone, .gone, .gone, .gone, .gone, .gone, .gone, .gone, .gone, .gone, .gone, .gone, .gone, .gone, .gone, .gone, .gone, .gone, .gone, .gone], [.row 9 .str p none]⟩
def impl_putWord.con : Con := { ps := [(.own, (.sl 9 .str)), (.val, .str)], rs := [(.own, (.sl 9 .str))], gv := true, F := fun x => impl_putWord.f x.1 x.2 }
def impl_putWord.cs : List (FuncId × Con) := []
def impl_putWord.E : Env := envOf tab impl_putWord.cs 0 true
def impl_putWord.keep (i : Nat) : List Nat := if i = 2 then [0, 1, 5] else []
def impl_putWord.at2 (n : Nat) (x : List ByteArray × ByteArray) : Code × (Ex → St → Option (YG)) := ctx impl_putWord.E impl_putWord.keep n [.snd, .snd, .fst, .blk] (codeOf Tryz.f104) (kEnd impl_putWord.E Tryz.f104 impl_putWord.con x)
def impl_putWord.LN2 (n : Nat) (x : List ByteArray × ByteArray) : Nat → St → Option (YG) := loopN (exec impl_putWord.E impl_putWord.keep n (bodyOf (impl_putWord.at2 n x).1)) (St.norm 0 (impl_putWord.keep 2)) (impl_putWord.at2 n x).2
set_option maxRecDepth 100000 in
theorem impl_putWord.lem2 (n : Nat) (x : List ByteArray × ByteArray) : ∀ (k : Nat) (q : ByteArray) (k5 : Int) (p : List ByteArray), impl_putWord.LN2 n x k (impl_putWord.st2 q k5 p) = impl_putWord.l2 n k q k5 p := by
 intro k
 induction k with
 | zero => intro q k5 p; rfl
 | succ k ih =>
  intro q k5 p
  have h : impl_putWord.LN2 n x (k + 1) (impl_putWord.st2 q k5 p) = impl_putWord.g2 (fun q k5 p => impl_putWord.LN2 n x k (impl_putWord.st2 q k5 p)) q k5 p := by kernel_rfl
  rw [h]
  simp only [ih]
  rfl
set_option maxRecDepth 100000 in
theorem impl_putWord.body (n : Nat) (x : List ByteArray × ByteArray) : bodyF impl_putWord.E impl_putWord.keep n Tryz.f104 impl_putWord.con x = impl_putWord.fn n x.1 x.2 := by
 have h : bodyF impl_putWord.E impl_putWord.keep n Tryz.f104 impl_putWord.con x = impl_putWord.top (fun q k5 p => impl_putWord.LN2 n x n (impl_putWord.st2 q k5 p)) x.1 x.2 := by kernel_rfl
 rw [h]
 simp only [impl_putWord.lem2]
 rfl
set_option maxRecDepth 100000 in
theorem impl_putWord.good : Good Tryz.prog 104 impl_putWord.con :=
 good_of tabok (cs := impl_putWord.cs) trivial 0 true (fn := Tryz.f104) Tryz.func104 rfl (by decide) (by simp [impl_putWord.con]) impl_putWord.keep NN (fun _ => rfl) (fun x => impl_putWord.body NN x)
end
end Go.Ev.Tryz

namespace Go.Ev.Tryz
open Go.Proofs Go.Pl
set_option linter.unusedVariables false
noncomputable section
def impl_allWithin.st2 (q : Int) (p : Int) (v9 : List Int) (v10 : Int) (v11 : Int) : St := ⟨[.gone, .dat (.int .i64) q, .dat (.int .i64) p, .gone, .gone, .gone, .gone, .gone, .gone, .dat (.sl 2 (.int .i64)) v9, .dat (.int .i64) v10, .dat (.int .i64) v11, .gone, .gone, .gone, .gone, .gone, .gone, .gone, .gone, .gone], []⟩
def impl_allWithin.con : Con := { ps := [(.val, (.sl 2 (.int .i64))), (.val, (.int .i64)), (.val, (.int .i64))], rs := [(.val, .bool)], F := fun x => impl_allWithin.f x.1 x.2.1 x.2.2 }
def impl_allWithin.cs : List (FuncId × Con) := [(86, impl_within.con)]
def impl_allWithin.E : Env := envOf tab impl_allWithin.cs 0 false
def impl_allWithin.keep (i : Nat) : List Nat := if i = 2 then [1, 2, 9, 10, 11] else []
def impl_allWithin.at2 (n : Nat) (x : List Int × Int × Int) : Code × (Ex → St → Option (Bool)) := ctx impl_allWithin.E impl_allWithin.keep n [.snd, .fst, .snd, .blk] (codeOf Tryz.f166) (kEnd impl_allWithin.E Tryz.f166 impl_allWithin.con x)
def impl_allWithin.LN2 (n : Nat) (x : List Int × Int × Int) : Nat → St → Option (Bool) := loopN (exec impl_allWithin.E impl_allWithin.keep n (bodyOf (impl_allWithin.at2 n x).1)) (St.norm 0 (impl_allWithin.keep 2)) (impl_allWithin.at2 n x).2
set_option maxRecDepth 100000 in
theorem impl_allWithin.lem2 (n : Nat) (x : List Int × Int × Int) : ∀ (k : Nat) (q : Int) (p : Int) (v9 : List Int) (v10 : Int) (v11 : Int), impl_allWithin.LN2 n x k (impl_allWithin.st2 q p v9 v10 v11) = impl_allWithin.l2 n k q p v9 v10 v11 := by
 intro k
 induction k with
 | zero => intro q p v9 v10 v11; rfl
 | succ k ih =>
  intro q p v9 v10 v11
  have h : impl_allWithin.LN2 n x (k + 1) (impl_allWithin.st2 q p v9 v10 v11) = impl_allWithin.g2 (fun q p v9 v10 v11 => impl_allWithin.LN2 n x k (impl_allWithin.st2 q p v9 v10 v11)) q p v9 v10 v11 := by kernel_rfl
  rw [h]
  simp only [ih]
  rfl
set_option maxRecDepth 100000 in
theorem impl_allWithin.body (n : Nat) (x : List Int × Int × Int) : bodyF impl_allWithin.E impl_allWithin.keep n Tryz.f166 impl_allWithin.con x = impl_allWithin.fn n x.1 x.2.1 x.2.2 := by
 have h : bodyF impl_allWithin.E impl_allWithin.keep n Tryz.f166 impl_allWithin.con x = impl_allWithin.top (fun q p v9 v10 v11 => impl_allWithin.LN2 n x n (impl_allWithin.st2 q p v9 v10 v11)) x.1 x.2.1 x.2.2 := by kernel_rfl
 rw [h]
 simp only [impl_allWithin.lem2]
 rfl
set_option maxRecDepth 100000 in
theorem impl_allWithin.good : Good Tryz.prog 166 impl_allWithin.con :=
 good_of tabok (cs := impl_allWithin.cs) ⟨impl_within.good, trivial⟩ 0 false (fn := Tryz.f166) Tryz.func166 rfl (by decide) (by simp [impl_allWithin.con]) impl_allWithin.keep NN (fun _ => rfl) (fun x => impl_allWithin.body NN x)
end
end Go.Ev.Tryz

namespace Go.Ev.Tryz
open Go.Proofs Go.Pl
set_option linter.unusedVariables false
noncomputable section
def impl_areCueTimes.con : Con := { ps := [(.val, (.sl 2 (.int .i64)))], rs := [(.val, .bool)], F := fun x => impl_areCueTimes.f x }
def impl_areCueTimes.cs : List (FuncId × Con) := [(166, impl_allWithin.con)]
def impl_areCueTimes.E : Env := envOf tab impl_areCueTimes.cs 0 false
def impl_areCueTimes.keep (i : Nat) : List Nat := []
set_option maxRecDepth 100000 in
theorem impl_areCueTimes.body (n : Nat) (x : List Int) : bodyF impl_areCueTimes.E impl_areCueTimes.keep n Tryz.f154 impl_areCueTimes.con x = impl_areCueTimes.fn n x := by
 have h : bodyF impl_areCueTimes.E impl_areCueTimes.keep n Tryz.f154 impl_areCueTimes.con x = impl_areCueTimes.top x := by kernel_rfl
 exact h
set_option maxRecDepth 100000 in
theorem impl_areCueTimes.good : Good Tryz.prog 154 impl_areCueTimes.con :=
 good_of tabok (cs := impl_areCueTimes.cs) ⟨impl_allWithin.good, trivial⟩ 0 false (fn := Tryz.f154) Tryz.func154 rfl (by decide) (by simp [impl_areCueTimes.con]) impl_areCueTimes.keep NN (fun _ => rfl) (fun x => impl_areCueTimes.body NN x)
end
end Go.Ev.Tryz

namespace Go.Ev.Tryz
open Go.Proofs Go.Pl
set_option linter.unusedVariables false
noncomputable section
def impl_areZones.st4 (v8 : List ByteArray) (v9 : Int) (v10 : Int) : St := ⟨[.gone, .gone, .gone, .gone, .gone, .gone, .gone, .gone, .dat (.sl 9 .str) v8, .dat (.int .i64) v9, .dat (.int .i64) v10, .gone, .gone, .gone, .gone, .gone, .gone, .gone], []⟩
def impl_areZones.con : Con := { ps := [(.val, (.sl 9 .str))], rs := [(.val, .bool)], F := fun x => impl_areZones.f x }
def impl_areZones.cs : List (FuncId × Con) := [(85, impl_IsWord.con)]
def impl_areZones.E : Env := envOf tab impl_areZones.cs 0 false
def impl_areZones.keep (i : Nat) : List Nat := if i = 4 then [8, 9, 10] else []
def impl_areZones.at4 (n : Nat) (x : List ByteArray) : Code × (Ex → St → Option (Bool)) := ctx impl_areZones.E impl_areZones.keep n [.snd, .snd, .fst, .snd, .blk] (codeOf Tryz.f155) (kEnd impl_areZones.E Tryz.f155 impl_areZones.con x)
def impl_areZones.LN4 (n : Nat) (x : List ByteArray) : Nat → St → Option (Bool) := loopN (exec impl_areZones.E impl_areZones.keep n (bodyOf (impl_areZones.at4 n x).1)) (St.norm 0 (impl_areZones.keep 4)) (impl_areZones.at4 n x).2
set_option maxRecDepth 100000 in
theorem impl_areZones.lem4 (n : Nat) (x : List ByteArray) : ∀ (k : Nat) (v8 : List ByteArray) (v9 : Int) (v10 : Int), impl_areZones.LN4 n x k (impl_areZones.st4 v8 v9 v10) = impl_areZones.l4 n k v8 v9 v10 := by
 intro k
 induction k with
 | zero => intro v8 v9 v10; rfl
 | succ k ih =>
  intro v8 v9 v10
  have h : impl_areZones.LN4 n x (k + 1) (impl_areZones.st4 v8 v9 v10) = impl_areZones.g4 (fun v8 v9 v10 => impl_areZones.LN4 n x k (impl_areZones.st4 v8 v9 v10)) v8 v9 v10 := by kernel_rfl
  rw [h]
  simp only [ih]
  rfl
set_option maxRecDepth 100000 in
theorem impl_areZones.body (n : Nat) (x : List ByteArray) : bodyF impl_areZones.E impl_areZones.keep n Tryz.f155 impl_areZones.con x = impl_areZones.fn n x := by
 have h : bodyF impl_areZones.E impl_areZones.keep n Tryz.f155 impl_areZones.con x = impl_areZones.top (fun v8 v9 v10 => impl_areZones.LN4 n x n (impl_areZones.st4 v8 v9 v10)) x := by kernel_rfl
 rw [h]
 simp only [impl_areZones.lem4]
 rfl
set_option maxRecDepth 100000 in
theorem impl_areZones.good : Good Tryz.prog 155 impl_areZones.con :=
 good_of tabok (cs := impl_areZones.cs) ⟨impl_IsWord.good, trivial⟩ 0 false (fn := Tryz.f155) Tryz.func155 rfl (by decide) (by simp [impl_areZones.con]) impl_areZones.keep NN (fun _ => rfl) (fun x => impl_areZones.body NN x)
end
end Go.Ev.Tryz

namespace Go.Ev.Tryz
open Go.Proofs Go.Pl
set_option linter.unusedVariables false
noncomputable section
def impl_areFired.con : Con := { ps := [(.val, (.sl 2 (.int .i64))), (.val, (.sl 72 (.pair (.int .i64) (.int .i64)))), (.val, (.sl 70 (.pair (.int .i64) (.pair .str (.int .i64))))), (.val, (.sl 9 .str))], rs := [(.val, .bool)], F := fun x => impl_areFired.f x.1 x.2.1 x.2.2.1 x.2.2.2 }
def impl_areFired.cs : List (FuncId × Con) := [(54, impl_AreMoves.con), (55, impl_AreSignals.con), (154, impl_areCueTimes.con), (155, impl_areZones.con)]
def impl_areFired.E : Env := envOf tab impl_areFired.cs 0 false
def impl_areFired.keep (i : Nat) : List Nat := []
set_option maxRecDepth 100000 in
theorem impl_areFired.body (n : Nat) (x : List Int × YE × YD × List ByteArray) : bodyF impl_areFired.E impl_areFired.keep n Tryz.f134 impl_areFired.con x = impl_areFired.fn n x.1 x.2.1 x.2.2.1 x.2.2.2 := by
 have h : bodyF impl_areFired.E impl_areFired.keep n Tryz.f134 impl_areFired.con x = impl_areFired.top x.1 x.2.1 x.2.2.1 x.2.2.2 := by kernel_rfl
 exact h
set_option maxRecDepth 100000 in
theorem impl_areFired.good : Good Tryz.prog 134 impl_areFired.con :=
 good_of tabok (cs := impl_areFired.cs) ⟨impl_AreMoves.good, impl_AreSignals.good, impl_areCueTimes.good, impl_areZones.good, trivial⟩ 0 false (fn := Tryz.f134) Tryz.func134 rfl (by decide) (by simp [impl_areFired.con]) impl_areFired.keep NN (fun _ => rfl) (fun x => impl_areFired.body NN x)
end
end Go.Ev.Tryz

namespace Go.Ev.Tryz
open Go.Proofs Go.Pl
set_option linter.unusedVariables false
noncomputable section
def impl_mayFire.con : Con := { ps := [(.val, (.pair .bool (.pair .bool (.pair .bool (.pair .bool (.pair .bool (.int .i64)))))))], rs := [(.val, .bool)], F := fun x => impl_mayFire.f x }
def impl_mayFire.cs : List (FuncId × Con) := []
def impl_mayFire.E : Env := envOf tab impl_mayFire.cs 0 false
def impl_mayFire.keep (i : Nat) : List Nat := []
set_option maxRecDepth 100000 in
theorem impl_mayFire.body (n : Nat) (x : Bool × Bool × Bool × Bool × Bool × Int) : bodyF impl_mayFire.E impl_mayFire.keep n Tryz.f156 impl_mayFire.con x = impl_mayFire.fn n x := by
 have h : bodyF impl_mayFire.E impl_mayFire.keep n Tryz.f156 impl_mayFire.con x = impl_mayFire.top x := by kernel_rfl
 exact h
set_option maxRecDepth 100000 in
theorem impl_mayFire.good : Good Tryz.prog 156 impl_mayFire.con :=
 good_of tabok (cs := impl_mayFire.cs) trivial 0 false (fn := Tryz.f156) Tryz.func156 rfl (by decide) (by simp [impl_mayFire.con]) impl_mayFire.keep NN (fun _ => rfl) (fun x => impl_mayFire.body NN x)
end
end Go.Ev.Tryz

namespace Go.Ev.Tryz
open Go.Proofs Go.Pl
set_option linter.unusedVariables false
noncomputable section
def impl_areAllClear.st2 (p : List YA) (t2 : Int) (v9 : List ByteArray) (v10 : Int) (v11 : Int) : St := ⟨[.dat (.sl 70 (.pair (.int .i64) (.pair .str (.int .i64)))) p, .gone, .dat (.int .i64) t2, .gone, .gone, .gone, .gone, .gone, .gone, .dat (.sl 9 .str) v9, .dat (.int .i64) v10, .dat (.int .i64) v11, .gone, .gone, .gone, .gone, .gone, .gone, .gone, .gone, .gone], []⟩
def impl_areAllClear.con : Con := { ps := [(.val, (.sl 70 (.pair (.int .i64) (.pair .str (.int .i64))))), (.val, (.sl 9 .str)), (.val, (.int .i64))], rs := [(.val, .bool)], F := fun x => impl_areAllClear.f x.1 x.2.1 x.2.2 }
def impl_areAllClear.cs : List (FuncId × Con) := [(131, impl_isClear.con)]
def impl_areAllClear.E : Env := envOf tab impl_areAllClear.cs 0 false
def impl_areAllClear.keep (i : Nat) : List Nat := if i = 2 then [0, 2, 9, 10, 11] else []
def impl_areAllClear.at2 (n : Nat) (x : YD × List ByteArray × Int) : Code × (Ex → St → Option (Bool)) := ctx impl_areAllClear.E impl_areAllClear.keep n [.snd, .fst, .snd, .blk] (codeOf Tryz.f157) (kEnd impl_areAllClear.E Tryz.f157 impl_areAllClear.con x)
def impl_areAllClear.LN2 (n : Nat) (x : YD × List ByteArray × Int) : Nat → St → Option (Bool) := loopN (exec impl_areAllClear.E impl_areAllClear.keep n (bodyOf (impl_areAllClear.at2 n x).1)) (St.norm 0 (impl_areAllClear.keep 2)) (impl_areAllClear.at2 n x).2
set_option maxRecDepth 100000 in
theorem impl_areAllClear.lem2 (n : Nat) (x : YD × List ByteArray × Int) : ∀ (k : Nat) (p : List YA) (t2 : Int) (v9 : List ByteArray) (v10 : Int) (v11 : Int), impl_areAllClear.LN2 n x k (impl_areAllClear.st2 p t2 v9 v10 v11) = impl_areAllClear.l2 n k p t2 v9 v10 v11 := by
 intro k
 induction k with
 | zero => intro p t2 v9 v10 v11; rfl
 | succ k ih =>
  intro p t2 v9 v10 v11
  have h : impl_areAllClear.LN2 n x (k + 1) (impl_areAllClear.st2 p t2 v9 v10 v11) = impl_areAllClear.g2 (fun p t2 v9 v10 v11 => impl_areAllClear.LN2 n x k (impl_areAllClear.st2 p t2 v9 v10 v11)) p t2 v9 v10 v11 := by kernel_rfl
  rw [h]
  simp only [ih]
  rfl
set_option maxRecDepth 100000 in
theorem impl_areAllClear.body (n : Nat) (x : YD × List ByteArray × Int) : bodyF impl_areAllClear.E impl_areAllClear.keep n Tryz.f157 impl_areAllClear.con x = impl_areAllClear.fn n x.1 x.2.1 x.2.2 := by
 have h : bodyF impl_areAllClear.E impl_areAllClear.keep n Tryz.f157 impl_areAllClear.con x = impl_areAllClear.top (fun p t2 v9 v10 v11 => impl_areAllClear.LN2 n x n (impl_areAllClear.st2 p t2 v9 v10 v11)) x.1 x.2.1 x.2.2 := by kernel_rfl
 rw [h]
 simp only [impl_areAllClear.lem2]
 rfl
set_option maxRecDepth 100000 in
theorem impl_areAllClear.good : Good Tryz.prog 157 impl_areAllClear.con :=
 good_of tabok (cs := impl_areAllClear.cs) ⟨impl_isClear.good, trivial⟩ 0 false (fn := Tryz.f157) Tryz.func157 rfl (by decide) (by simp [impl_areAllClear.con]) impl_areAllClear.keep NN (fun _ => rfl) (fun x => impl_areAllClear.body NN x)
end
end Go.Ev.Tryz

namespace Go.Ev.Tryz
open Go.Proofs Go.Pl
set_option linter.unusedVariables false
noncomputable section
def impl_firedTicks.st1000019 (q : List Int) (r : List YA) (s : List ByteArray) (t : Int) (w : List Int) (y : List YC) (v : Int) (u : Int) (p : Bool × Bool × Bool × Bool × Bool × Int) (w2 : List Int) : St := ⟨[.dat (.sl 2 (.int .i64)) q, .gone, .dat (.sl 70 (.pair (.int .i64) (.pair .str (.int .i64)))) r, .dat (.sl 9 .str) s, .gone, .gone, .gone, .gone, .gone, .ref 0, .dat (.int .i64) t, .gone, .gone, .ptr 1 [], .gone, .gone, .gone, .gone, .gone, .gone, .gone, .gone, .gone, .gone, .gone, .gone, .gone, .gone, .gone, .gone, .gone, .gone, .gone, .gone, .gone, .gone, .gone, .gone, .gone, .gone, .gone, .gone, .gone, .gone, .gone, .gone, .gone, .gone, .gone, .gone, .gone, .gone, .gone, .gone, .gone, .gone, .gone, .gone, .gone, .gone, .gone, .gone, .gone, .gone, .gone, .gone, .gone, .gone, .gone, .gone, .gone, .gone, .gone, .gone, .gone, .gone, .gone, .gone, .gone, .gone, .gone, .gone, .gone, .gone, .gone], [.row 2 (.int .i64) w none, .box 137 (.pair (.sl 72 (.pair (.int .i64) (.int .i64))) (.pair (.int .i64) (.pair (.int .i64) (.pair (.pair .bool (.pair .bool (.pair .bool (.pair .bool (.pair .bool (.int .i64)))))) (.sl 2 (.int .i64)))))) (.pr (.dat (.sl 72 (.pair (.int .i64) (.int .i64))) y) (.pr (.dat (.int .i64) v) (.pr (.dat (.int .i64) u) (.pr (.dat (.pair .bool (.pair .bool (.pair .bool (.pair .bool (.pair .bool (.int .i64)))))) p) (.ref 2))))), .row 2 (.int .i64) w2 none]⟩
def impl_firedTicks.st14 (q : List Int) (r : List YA) (s : List ByteArray) (t : Int) (v50 : List Int) (v51 : Int) (v52 : Int) (w : List Int) (y : List YC) (v : Int) (u : Int) (p : Bool × Bool × Bool × Bool × Bool × Int) (w2 : List Int) : St := ⟨[.dat (.sl 2 (.int .i64)) q, .gone, .dat (.sl 70 (.pair (.int .i64) (.pair .str (.int .i64)))) r, .dat (.sl 9 .str) s, .gone, .gone, .gone, .gone, .gone, .ref 0, .dat (.int .i64) t, .gone, .gone, .ptr 1 [], .gone, .gone, .gone, .gone, .gone, .gone, .gone, .gone, .gone, .gone, .gone, .gone, .gone, .gone, .gone, .gone, .gone, .gone, .gone, .gone, .gone, .gone, .gone, .gone, .gone, .gone, .gone, .gone, .gone, .gone, .gone, .gone, .gone, .gone, .gone, .gone, .dat (.sl 2 (.int .i64)) v50, .dat (.int .i64) v51, .dat (.int .i64) v52, .gone, .gone, .gone, .gone, .gone, .gone, .gone, .gone, .gone, .gone, .gone, .gone, .gone, .gone, .gone, .gone, .gone, .gone, .gone, .gone, .gone, .gone, .gone, .gone, .gone, .gone, .gone, .gone, .gone, .gone, .gone, .gone], [.row 2 (.int .i64) w none, .box 137 (.pair (.sl 72 (.pair (.int .i64) (.int .i64))) (.pair (.int .i64) (.pair (.int .i64) (.pair (.pair .bool (.pair .bool (.pair .bool (.pair .bool (.pair .bool (.int .i64)))))) (.sl 2 (.int .i64)))))) (.pr (.dat (.sl 72 (.pair (.int .i64) (.int .i64))) y) (.pr (.dat (.int .i64) v) (.pr (.dat (.int .i64) u) (.pr (.dat (.pair .bool (.pair .bool (.pair .bool (.pair .bool (.pair .bool (.int .i64)))))) p) (.ref 2))))), .row 2 (.int .i64) w2 none]⟩
def impl_firedTicks.st1000012 (q : List Int) (r : List YA) (s : List ByteArray) (t : Int) (w : List Int) (y : List YC) (v : Int) (u : Int) (p : Bool × Bool × Bool × Bool × Bool × Int) (w2 : List Int) : St := ⟨[.dat (.sl 2 (.int .i64)) q, .gone, .dat (.sl 70 (.pair (.int .i64) (.pair .str (.int .i64)))) r, .dat (.sl 9 .str) s, .gone, .gone, .gone, .gone, .gone, .ref 0, .dat (.int .i64) t, .gone, .gone, .ptr 1 [], .gone, .gone, .gone, .gone, .gone, .gone, .gone, .gone, .gone, .gone, .gone, .gone, .gone, .gone, .gone, .gone, .gone, .gone, .gone, .gone, .gone, .gone, .gone, .gone, .gone, .gone, .gone, .gone, .gone, .gone, .gone, .gone, .gone, .gone, .gone, .gone, .gone, .gone, .gone, .gone, .gone, .gone, .gone, .gone, .gone, .gone, .gone, .gone, .gone, .gone, .gone, .gone, .gone, .gone, .gone, .gone, .gone, .gone, .gone, .gone, .gone, .gone, .gone, .gone, .gone, .gone, .gone, .gone, .gone, .gone, .gone], [.row 2 (.int .i64) w none, .box 137 (.pair (.sl 72 (.pair (.int .i64) (.int .i64))) (.pair (.int .i64) (.pair (.int .i64) (.pair (.pair .bool (.pair .bool (.pair .bool (.pair .bool (.pair .bool (.int .i64)))))) (.sl 2 (.int .i64)))))) (.pr (.dat (.sl 72 (.pair (.int .i64) (.int .i64))) y) (.pr (.dat (.int .i64) v) (.pr (.dat (.int .i64) u) (.pr (.dat (.pair .bool (.pair .bool (.pair .bool (.pair .bool (.pair .bool (.int .i64)))))) p) (.ref 2))))), .row 2 (.int .i64) w2 none]⟩
def impl_firedTicks.st120000001 (w0 : List Int) (d0a : List YC) (b : Int) (a : Int) (z : Bool × Bool × Bool × Bool × Bool × Int) (w2' : List Int) : St := ⟨[.ptr 1 [], .gone, .gone, .gone, .gone, .gone, .gone, .gone, .gone, .gone, .gone, .gone, .gone, .gone, .gone, .gone, .gone, .gone, .gone, .gone, .gone, .gone, .gone, .gone, .gone, .gone, .gone, .gone, .gone, .gone, .gone, .gone, .gone, .gone, .gone, .gone, .gone, .gone, .gone, .gone, .gone, .gone, .gone, .gone, .gone, .gone, .gone, .gone, .gone, .gone, .gone, .gone, .gone, .gone, .gone, .gone, .gone, .gone, .gone, .gone, .gone, .gone, .gone, .gone, .gone, .gone, .gone, .gone, .gone, .gone, .gone, .gone, .gone, .gone, .gone, .gone, .gone], [.row 2 (.int .i64) w0 none, .box 137 (.pair (.sl 72 (.pair (.int .i64) (.int .i64))) (.pair (.int .i64) (.pair (.int .i64) (.pair (.pair .bool (.pair .bool (.pair .bool (.pair .bool (.pair .bool (.int .i64)))))) (.sl 2 (.int .i64)))))) (.pr (.dat (.sl 72 (.pair (.int .i64) (.int .i64))) d0a) (.pr (.dat (.int .i64) b) (.pr (.dat (.int .i64) a) (.pr (.dat (.pair .bool (.pair .bool (.pair .bool (.pair .bool (.pair .bool (.int .i64)))))) z) (.ref 2))))), .row 2 (.int .i64) w2' none]⟩
def impl_firedTicks.tr0 (L120000001 : YN) (q : List Int) (r : List YA) (s : List ByteArray) (t : Int) (w : List Int) (y : List YC) (v : Int) (u : Int) (p : Bool × Bool × Bool × Bool × Bool × Int) (w2 : List Int) (w0 : List Int) (d0a : List YC) (b : Int) (a : Int) (z : Bool × Bool × Bool × Bool × Bool × Int) (w2' : List Int) : Option YL :=
 if w2'.length + ([b]).length < room 8 then
  L120000001 q r s t w y v u p w2 w0 d0a (IntKind.i64.wrap (b + 1)) a z (w2' ++ ([b]))
 else
  none
def impl_firedTicks.tr1 (L120000001 : YN) (q : List Int) (r : List YA) (s : List ByteArray) (t : Int) (w : List Int) (y : List YC) (v : Int) (u : Int) (p : Bool × Bool × Bool × Bool × Bool × Int) (w2 : List Int) (w0 : List Int) (d0a : List YC) (b : Int) (a : Int) (z : Bool × Bool × Bool × Bool × Bool × Int) (w2' : List Int) : Option YL :=
 (impl_giveInput.f z ((d0a.getD (b : Int).toNat (0, 0)).2)).bind fun r1 =>
 if ((r1.2 : Int) == 0) = true then
  L120000001 q r s t w y v u p w2 w0 d0a (IntKind.i64.wrap (b + 1)) a r1.1 w2'
 else
  agree (
   impl_firedTicks.tr0 L120000001 q r s t w y v u p w2 w0 d0a b a z w2'
  ) (
   agree (
    impl_firedTicks.tr0 L120000001 q r s t w y v u p w2 w0 d0a b a z w2'
   ) (
    impl_firedTicks.tr0 L120000001 q r s t w y v u p w2 w0 d0a b a z w2'
   )
  )
def impl_firedTicks.tr2 (L120000001 : YN) (q : List Int) (r : List YA) (s : List ByteArray) (t : Int) (w : List Int) (y : List YC) (v : Int) (u : Int) (p : Bool × Bool × Bool × Bool × Bool × Int) (w2 : List Int) (w0 : List Int) (d0a : List YC) (b : Int) (a : Int) (z : Bool × Bool × Bool × Bool × Bool × Int) (w2' : List Int) : Option YL :=
 agree (
  impl_firedTicks.tr1 L120000001 q r s t w y v u p w2 w0 d0a b a z w2'
 ) (
  impl_firedTicks.tr1 L120000001 q r s t w y v u p w2 w0 d0a b a z w2'
 )
def impl_firedTicks.tr3 (L120000001 : YN) (q : List Int) (r : List YA) (s : List ByteArray) (t : Int) (w : List Int) (y : List YC) (v : Int) (u : Int) (p : Bool × Bool × Bool × Bool × Bool × Int) (w2 : List Int) (w0 : List Int) (d0a : List YC) (b : Int) (a : Int) (z : Bool × Bool × Bool × Bool × Bool × Int) (w2' : List Int) : Option YL :=
 agree (
  impl_firedTicks.tr2 L120000001 q r s t w y v u p w2 w0 d0a b a z w2'
 ) (
  impl_firedTicks.tr1 L120000001 q r s t w y v u p w2 w0 d0a b a z w2'
 )
def impl_firedTicks.tr4 (L120000001 : YN) (q : List Int) (r : List YA) (s : List ByteArray) (t : Int) (w : List Int) (y : List YC) (v : Int) (u : Int) (p : Bool × Bool × Bool × Bool × Bool × Int) (w2 : List Int) (w0 : List Int) (d0a : List YC) (b : Int) (a : Int) (z : Bool × Bool × Bool × Bool × Bool × Int) (w2' : List Int) : Option YL :=
 if (0 : Int) ≤ b ∧ (b : Int) < d0a.length then
  impl_firedTicks.tr1 L120000001 q r s t w y v u p w2 w0 d0a b a z w2'
 else
  none
def impl_firedTicks.tr5 (L120000001 : YN) (q : List Int) (r : List YA) (s : List ByteArray) (t : Int) (w : List Int) (y : List YC) (v : Int) (u : Int) (p : Bool × Bool × Bool × Bool × Bool × Int) (w2 : List Int) (w0 : List Int) (d0a : List YC) (b : Int) (a : Int) (z : Bool × Bool × Bool × Bool × Bool × Int) (w2' : List Int) : Option YL :=
 agree (
  if (0 : Int) ≤ b ∧ (b : Int) < d0a.length then
   impl_firedTicks.tr3 L120000001 q r s t w y v u p w2 w0 d0a b a z w2'
  else
   none
 ) (
  impl_firedTicks.tr4 L120000001 q r s t w y v u p w2 w0 d0a b a z w2'
 )
def impl_firedTicks.tr6 (L120000001 : YN) (q : List Int) (r : List YA) (s : List ByteArray) (t : Int) (w : List Int) (y : List YC) (v : Int) (u : Int) (p : Bool × Bool × Bool × Bool × Bool × Int) (w2 : List Int) (w0 : List Int) (d0a : List YC) (b : Int) (a : Int) (z : Bool × Bool × Bool × Bool × Bool × Int) (w2' : List Int) : Option YL :=
 agree (
  impl_firedTicks.tr4 L120000001 q r s t w y v u p w2 w0 d0a b a z w2'
 ) (
  impl_firedTicks.tr4 L120000001 q r s t w y v u p w2 w0 d0a b a z w2'
 )
def impl_firedTicks.tr7 (L120000001 : YN) (q : List Int) (r : List YA) (s : List ByteArray) (t : Int) (w : List Int) (y : List YC) (v : Int) (u : Int) (p : Bool × Bool × Bool × Bool × Bool × Int) (w2 : List Int) (w0 : List Int) (d0a : List YC) (b : Int) (a : Int) (z : Bool × Bool × Bool × Bool × Bool × Int) (w2' : List Int) : Option YL :=
 agree (
  impl_firedTicks.tr4 L120000001 q r s t w y v u p w2 w0 d0a b a z w2'
 ) (
  if (0 : Int) ≤ b ∧ (b : Int) < d0a.length then
   impl_firedTicks.tr2 L120000001 q r s t w y v u p w2 w0 d0a b a z w2'
  else
   none
 )
def impl_firedTicks.tr8 (L120000001 : YN) (q : List Int) (r : List YA) (s : List ByteArray) (t : Int) (w : List Int) (y : List YC) (v : Int) (u : Int) (p : Bool × Bool × Bool × Bool × Bool × Int) (w2 : List Int) (w0 : List Int) (d0a : List YC) (b : Int) (a : Int) (z : Bool × Bool × Bool × Bool × Bool × Int) (w2' : List Int) : Option YL :=
 agree (
  impl_firedTicks.tr5 L120000001 q r s t w y v u p w2 w0 d0a b a z w2'
 ) (
  agree (
   if (0 : Int) ≤ b ∧ (b : Int) < d0a.length then
    agree (
     impl_firedTicks.tr3 L120000001 q r s t w y v u p w2 w0 d0a b a z w2'
    ) (
     agree (
      impl_firedTicks.tr3 L120000001 q r s t w y v u p w2 w0 d0a b a z w2'
     ) (
      impl_firedTicks.tr2 L120000001 q r s t w y v u p w2 w0 d0a b a z w2'
     )
    )
   else
    none
  ) (
   impl_firedTicks.tr7 L120000001 q r s t w y v u p w2 w0 d0a b a z w2'
  )
 )
def impl_firedTicks.g120000001raw (I1000012 : YM) (L10 : YM) (L120000001 : YN) (q : List Int) (r : List YA) (s : List ByteArray) (t : Int) (w : List Int) (y : List YC) (v : Int) (u : Int) (p : Bool × Bool × Bool × Bool × Bool × Int) (w2 : List Int) (w0 : List Int) (d0a : List YC) (b : Int) (a : Int) (z : Bool × Bool × Bool × Bool × Bool × Int) (w2' : List Int) : Option YL :=
 if (decide ((b : Int) < (d0a.length : Int))) = true then
  if (0 : Int) ≤ b ∧ (b : Int) < d0a.length then
   if ((((d0a.getD (b : Int).toNat (0, 0)).1) : Int) == a) = true then
    agree (
     agree (
      impl_firedTicks.tr5 L120000001 q r s t w y v u p w2 w0 d0a b a z w2'
     ) (
      agree (
       impl_firedTicks.tr5 L120000001 q r s t w y v u p w2 w0 d0a b a z w2'
      ) (
       impl_firedTicks.tr6 L120000001 q r s t w y v u p w2 w0 d0a b a z w2'
      )
     )
    ) (
     agree (
      impl_firedTicks.tr8 L120000001 q r s t w y v u p w2 w0 d0a b a z w2'
     ) (
      agree (
       impl_firedTicks.tr8 L120000001 q r s t w y v u p w2 w0 d0a b a z w2'
      ) (
       agree (
        impl_firedTicks.tr6 L120000001 q r s t w y v u p w2 w0 d0a b a z w2'
       ) (
        agree (
         impl_firedTicks.tr7 L120000001 q r s t w y v u p w2 w0 d0a b a z w2'
        ) (
         impl_firedTicks.tr7 L120000001 q r s t w y v u p w2 w0 d0a b a z w2'
        )
       )
      )
     )
    )
   else
    I1000012 q r s t w0 d0a b a z w2'
  else
   none
 else
  I1000012 q r s t w0 d0a b a z w2'
theorem impl_firedTicks.g120000001raw_eq (I1000012 : YM) (L10 : YM) (L120000001 : YN) (q : List Int) (r : List YA) (s : List ByteArray) (t : Int) (w : List Int) (y : List YC) (v : Int) (u : Int) (p : Bool × Bool × Bool × Bool × Bool × Int) (w2 : List Int) (w0 : List Int) (d0a : List YC) (b : Int) (a : Int) (z : Bool × Bool × Bool × Bool × Bool × Int) (w2' : List Int) : impl_firedTicks.g120000001raw I1000012 L10 L120000001 q r s t w y v u p w2 w0 d0a b a z w2' = impl_firedTicks.g120000001 I1000012 L10 L120000001 q r s t w y v u p w2 w0 d0a b a z w2' := by
 unfold impl_firedTicks.g120000001raw impl_firedTicks.g120000001
 simp only [agree_self, impl_firedTicks.tr0, impl_firedTicks.tr1, impl_firedTicks.tr2, impl_firedTicks.tr3, impl_firedTicks.tr4, impl_firedTicks.tr5, impl_firedTicks.tr6, impl_firedTicks.tr7, impl_firedTicks.tr8]
def impl_firedTicks.st1000011 (q : List Int) (r : List YA) (s : List ByteArray) (t : Int) (w : List Int) (y : List YC) (v : Int) (u : Int) (p : Bool × Bool × Bool × Bool × Bool × Int) (w2 : List Int) : St := ⟨[.dat (.sl 2 (.int .i64)) q, .gone, .dat (.sl 70 (.pair (.int .i64) (.pair .str (.int .i64)))) r, .dat (.sl 9 .str) s, .gone, .gone, .gone, .gone, .gone, .ref 0, .dat (.int .i64) t, .gone, .gone, .ptr 1 [], .gone, .gone, .gone, .gone, .gone, .gone, .gone, .gone, .gone, .gone, .gone, .gone, .gone, .gone, .gone, .gone, .gone, .gone, .gone, .gone, .gone, .gone, .gone, .gone, .gone, .gone, .gone, .gone, .gone, .gone, .gone, .gone, .gone, .gone, .gone, .gone, .gone, .gone, .gone, .gone, .gone, .gone, .gone, .gone, .gone, .gone, .gone, .gone, .gone, .gone, .gone, .gone, .gone, .gone, .gone, .gone, .gone, .gone, .gone, .gone, .gone, .gone, .gone, .gone, .gone, .gone, .gone, .gone, .gone, .gone, .gone], [.row 2 (.int .i64) w none, .box 137 (.pair (.sl 72 (.pair (.int .i64) (.int .i64))) (.pair (.int .i64) (.pair (.int .i64) (.pair (.pair .bool (.pair .bool (.pair .bool (.pair .bool (.pair .bool (.int .i64)))))) (.sl 2 (.int .i64)))))) (.pr (.dat (.sl 72 (.pair (.int .i64) (.int .i64))) y) (.pr (.dat (.int .i64) v) (.pr (.dat (.int .i64) u) (.pr (.dat (.pair .bool (.pair .bool (.pair .bool (.pair .bool (.pair .bool (.int .i64)))))) p) (.ref 2))))), .row 2 (.int .i64) w2 none]⟩
def impl_firedTicks.st10 (q : List Int) (r : List YA) (s : List ByteArray) (t : Int) (w : List Int) (y : List YC) (v : Int) (u : Int) (p : Bool × Bool × Bool × Bool × Bool × Int) (w2 : List Int) : St := ⟨[.dat (.sl 2 (.int .i64)) q, .gone, .dat (.sl 70 (.pair (.int .i64) (.pair .str (.int .i64)))) r, .dat (.sl 9 .str) s, .gone, .gone, .gone, .gone, .gone, .ref 0, .dat (.int .i64) t, .gone, .gone, .ptr 1 [], .gone, .gone, .gone, .gone, .gone, .gone, .gone, .gone, .gone, .gone, .gone, .gone, .gone, .gone, .gone, .gone, .gone, .gone, .gone, .gone, .gone, .gone, .gone, .gone, .gone, .gone, .gone, .gone, .gone, .gone, .gone, .gone, .gone, .gone, .gone, .gone, .gone, .gone, .gone, .gone, .gone, .gone, .gone, .gone, .gone, .gone, .gone, .gone, .gone, .gone, .gone, .gone, .gone, .gone, .gone, .gone, .gone, .gone, .gone, .gone, .gone, .gone, .gone, .gone, .gone, .gone, .gone, .gone, .gone, .gone, .gone], [.row 2 (.int .i64) w none, .box 137 (.pair (.sl 72 (.pair (.int .i64) (.int .i64))) (.pair (.int .i64) (.pair (.int .i64) (.pair (.pair .bool (.pair .bool (.pair .bool (.pair .bool (.pair .bool (.int .i64)))))) (.sl 2 (.int .i64)))))) (.pr (.dat (.sl 72 (.pair (.int .i64) (.int .i64))) y) (.pr (.dat (.int .i64) v) (.pr (.dat (.int .i64) u) (.pr (.dat (.pair .bool (.pair .bool (.pair .bool (.pair .bool (.pair .bool (.int .i64)))))) p) (.ref 2))))), .row 2 (.int .i64) w2 none]⟩
def impl_firedTicks.st4 (q : List Int) (c : List YC) (r : List YA) (s : List ByteArray) (t : Int) (v19 : List Int) (v20 : Int) (v21 : Int) (w : List Int) : St := ⟨[.dat (.sl 2 (.int .i64)) q, .dat (.sl 72 (.pair (.int .i64) (.int .i64))) c, .dat (.sl 70 (.pair (.int .i64) (.pair .str (.int .i64)))) r, .dat (.sl 9 .str) s, .gone, .gone, .gone, .gone, .gone, .ref 0, .dat (.int .i64) t, .gone, .gone, .gone, .gone, .gone, .gone, .gone, .gone, .dat (.sl 2 (.int .i64)) v19, .dat (.int .i64) v20, .dat (.int .i64) v21, .gone, .gone, .gone, .gone, .gone, .gone, .gone, .gone, .gone, .gone, .gone, .gone, .gone, .gone, .gone, .gone, .gone, .gone, .gone, .gone, .gone, .gone, .gone, .gone, .gone, .gone, .gone, .gone, .gone, .gone, .gone, .gone, .gone, .gone, .gone, .gone, .gone, .gone, .gone, .gone, .gone, .gone, .gone, .gone, .gone, .gone, .gone, .gone, .gone, .gone, .gone, .gone, .gone, .gone, .gone, .gone, .gone, .gone, .gone, .gone, .gone, .gone, .gone], [.row 2 (.int .i64) w none]⟩
def impl_firedTicks.con : Con := { ps := [(.val, (.sl 2 (.int .i64))), (.val, (.sl 72 (.pair (.int .i64) (.int .i64)))), (.val, (.sl 70 (.pair (.int .i64) (.pair .str (.int .i64))))), (.val, (.sl 9 .str))], rs := [(.own, (.sl 2 (.int .i64)))], F := fun x => impl_firedTicks.f x.1 x.2.1 x.2.2.1 x.2.2.2 }
def impl_firedTicks.cs : List (FuncId × Con) := [(153, impl_giveInput.con), (156, impl_mayFire.con), (157, impl_areAllClear.con)]
def impl_firedTicks.E : Env := envOf tab impl_firedTicks.cs 0 false
def impl_firedTicks.I (f : FuncId) : Option Func := if f = 132 then some Tryz.f132 else if f = 133 then some Tryz.f133 else none
theorem impl_firedTicks.hI : ∀ f fn, impl_firedTicks.I f = some fn → Tryz.prog.funcs[f]? = some fn ∧ fn.body.isSome = true ∧ fn.name ≠ "runtime.NumGoroutine" := by
  intro f fn h
  unfold impl_firedTicks.I at h
  split at h
  · rename_i e; subst e; cases h; exact ⟨Tryz.func132, rfl, by decide⟩
  split at h
  · rename_i e; subst e; cases h; exact ⟨Tryz.func133, rfl, by decide⟩
  cases h
def impl_firedTicks.keep (i : Nat) : List Nat := if i = 1000019 then [0, 2, 3, 9, 10, 13] else if i = 14 then [0, 2, 3, 9, 10, 13, 50, 51, 52] else if i = 1000012 then [0, 2, 3, 9, 10, 13] else if i = 120000001 then [0, 200000] else if i = 1000011 then [0, 2, 3, 9, 10, 13] else if i = 10 then [0, 2, 3, 9, 10, 13, 200013] else if i = 4 then [0, 1, 2, 3, 9, 10, 19, 20, 21] else []
def impl_firedTicks.at1000019 (n : Nat) (x : List Int × YE × YD × List ByteArray) (M10 : St → Option (YL)) : Code × (Ex → St → Option (YL)) := ctxI impl_firedTicks.E impl_firedTicks.I impl_firedTicks.keep n [.snd, .snd, .snd, .snd, .snd, .fst, .blk, .rd M10, .snd, .blk, .snd, .snd] (codeOf Tryz.f135) (kEnd impl_firedTicks.E Tryz.f135 impl_firedTicks.con x)
def impl_firedTicks.LN1000019 (n : Nat) (x : List Int × YE × YD × List ByteArray) (M10 : St → Option (YL)) : Nat → St → Option (YL) := cutN (execI impl_firedTicks.E impl_firedTicks.I impl_firedTicks.keep n (impl_firedTicks.at1000019 n x M10).1 (impl_firedTicks.at1000019 n x M10).2)
def impl_firedTicks.at14 (n : Nat) (x : List Int × YE × YD × List ByteArray) (M10 : St → Option (YL)) : Code × (Ex → St → Option (YL)) := ctxI impl_firedTicks.E impl_firedTicks.I impl_firedTicks.keep n [.snd, .snd, .snd, .snd, .snd, .fst, .blk, .rd M10, .snd, .blk, .snd, .fst, .snd, .yes, .snd, .blk] (codeOf Tryz.f135) (kEnd impl_firedTicks.E Tryz.f135 impl_firedTicks.con x)
def impl_firedTicks.LN14 (n : Nat) (x : List Int × YE × YD × List ByteArray) (M10 : St → Option (YL)) : Nat → St → Option (YL) := loopN (execI impl_firedTicks.E impl_firedTicks.I impl_firedTicks.keep n (bodyOf (impl_firedTicks.at14 n x M10).1)) (St.norm 0 (impl_firedTicks.keep 14)) (impl_firedTicks.at14 n x M10).2
def impl_firedTicks.at1000012 (n : Nat) (x : List Int × YE × YD × List ByteArray) (M10 : St → Option (YL)) : Code × (Ex → St → Option (YL)) := ctxI impl_firedTicks.E impl_firedTicks.I impl_firedTicks.keep n [.snd, .snd, .snd, .snd, .snd, .fst, .blk, .rd M10, .snd, .blk, .snd] (codeOf Tryz.f135) (kEnd impl_firedTicks.E Tryz.f135 impl_firedTicks.con x)
def impl_firedTicks.LN1000012 (n : Nat) (x : List Int × YE × YD × List ByteArray) (M10 : St → Option (YL)) : Nat → St → Option (YL) := cutN (execI impl_firedTicks.E impl_firedTicks.I impl_firedTicks.keep n (impl_firedTicks.at1000012 n x M10).1 (impl_firedTicks.at1000012 n x M10).2)
def impl_firedTicks.at120000001 (n : Nat) (x : List Int × YE × YD × List ByteArray) (M10 : St → Option (YL)) (q : List Int) (r : List YA) (s : List ByteArray) (t : Int) (w : List Int) (y : List YC) (v : Int) (u : Int) (p : Bool × Bool × Bool × Bool × Bool × Int) (w2 : List Int) : Code × (Ex → St → Option (YL)) := ctx (envIn impl_firedTicks.E 2) (keepIn impl_firedTicks.keep 11) n [.blk] (codeOf Tryz.f132) (kIn ((ctxI impl_firedTicks.E impl_firedTicks.I impl_firedTicks.keep n [.snd, .snd, .snd, .snd, .snd, .fst, .blk, .rd M10, .snd, .blk, .fst] (codeOf Tryz.f135) (kEnd impl_firedTicks.E Tryz.f135 impl_firedTicks.con x)).2 .normal) [.dat (.sl 2 (.int .i64)) q, .gone, .dat (.sl 70 (.pair (.int .i64) (.pair .str (.int .i64)))) r, .dat (.sl 9 .str) s, .gone, .gone, .gone, .gone, .gone, .ref 0, .dat (.int .i64) t, .gone, .gone, .ptr 1 [], .gone, .gone, .gone, .gone, .gone, .gone, .gone, .gone, .gone, .gone, .gone, .gone, .gone, .gone, .gone, .gone, .gone, .gone, .gone, .gone, .gone, .gone, .gone, .gone, .gone, .gone, .gone, .gone, .gone, .ptr 1 [], .gone, .gone, .gone, .gone, .gone, .gone, .gone, .gone, .gone, .gone, .gone, .gone, .gone, .gone, .gone, .gone, .gone, .gone, .gone, .gone, .gone, .gone, .gone, .gone, .gone, .gone, .gone, .gone, .gone, .gone, .gone, .gone, .gone, .gone, .gone, .gone, .gone, .gone, .gone, .gone, .gone] (some 44))
def impl_firedTicks.LN120000001 (n : Nat) (x : List Int × YE × YD × List ByteArray) (M10 : St → Option (YL)) (q : List Int) (r : List YA) (s : List ByteArray) (t : Int) (w : List Int) (y : List YC) (v : Int) (u : Int) (p : Bool × Bool × Bool × Bool × Bool × Int) (w2 : List Int) : Nat → St → Option (YL) := loopN (exec (envIn impl_firedTicks.E 2) (keepIn impl_firedTicks.keep 11) n (bodyOf (impl_firedTicks.at120000001 n x M10 q r s t w y v u p w2).1)) (St.norm 2 (keepIn impl_firedTicks.keep 11 1)) (impl_firedTicks.at120000001 n x M10 q r s t w y v u p w2).2
def impl_firedTicks.at1000011 (n : Nat) (x : List Int × YE × YD × List ByteArray) (M10 : St → Option (YL)) : Code × (Ex → St → Option (YL)) := ctxI impl_firedTicks.E impl_firedTicks.I impl_firedTicks.keep n [.snd, .snd, .snd, .snd, .snd, .fst, .blk, .rd M10, .snd] (codeOf Tryz.f135) (kEnd impl_firedTicks.E Tryz.f135 impl_firedTicks.con x)
def impl_firedTicks.LN1000011 (n : Nat) (x : List Int × YE × YD × List ByteArray) (M10 : St → Option (YL)) : Nat → St → Option (YL) := cutN (execI impl_firedTicks.E impl_firedTicks.I impl_firedTicks.keep n (impl_firedTicks.at1000011 n x M10).1 (impl_firedTicks.at1000011 n x M10).2)
def impl_firedTicks.at10 (n : Nat) (x : List Int × YE × YD × List ByteArray) : Code × (Ex → St → Option (YL)) := ctxI impl_firedTicks.E impl_firedTicks.I impl_firedTicks.keep n [.snd, .snd, .snd, .snd, .snd, .fst, .blk] (codeOf Tryz.f135) (kEnd impl_firedTicks.E Tryz.f135 impl_firedTicks.con x)
def impl_firedTicks.LN10 (n : Nat) (x : List Int × YE × YD × List ByteArray) : Nat → St → Option (YL) := loopN (execI impl_firedTicks.E impl_firedTicks.I impl_firedTicks.keep n (bodyOf (impl_firedTicks.at10 n x).1)) (St.norm 0 (impl_firedTicks.keep 10)) (impl_firedTicks.at10 n x).2
def impl_firedTicks.at4 (n : Nat) (x : List Int × YE × YD × List ByteArray) : Code × (Ex → St → Option (YL)) := ctxI impl_firedTicks.E impl_firedTicks.I impl_firedTicks.keep n [.snd, .snd, .snd, .fst, .snd, .blk] (codeOf Tryz.f135) (kEnd impl_firedTicks.E Tryz.f135 impl_firedTicks.con x)
def impl_firedTicks.LN4 (n : Nat) (x : List Int × YE × YD × List ByteArray) : Nat → St → Option (YL) := loopN (execI impl_firedTicks.E impl_firedTicks.I impl_firedTicks.keep n (bodyOf (impl_firedTicks.at4 n x).1)) (St.norm 0 (impl_firedTicks.keep 4)) (impl_firedTicks.at4 n x).2
set_option maxRecDepth 100000 in
theorem impl_firedTicks.lem1000019 (n : Nat) (x : List Int × YE × YD × List ByteArray) (M10 : St → Option (YL)) : ∀ (k : Nat) (q : List Int) (r : List YA) (s : List ByteArray) (t : Int) (w : List Int) (y : List YC) (v : Int) (u : Int) (p : Bool × Bool × Bool × Bool × Bool × Int) (w2 : List Int), impl_firedTicks.LN1000019 n x M10 k (impl_firedTicks.st1000019 q r s t w y v u p w2) = impl_firedTicks.l1000019 n (fun q r s t w y v u p w2 => M10 (impl_firedTicks.st10 q r s t w y v u p w2)) k q r s t w y v u p w2 := by
 intro k
 induction k with
 | zero => intro q r s t w y v u p w2; rfl
 | succ k ih =>
  intro q r s t w y v u p w2
  have h : impl_firedTicks.LN1000019 n x M10 (k + 1) (impl_firedTicks.st1000019 q r s t w y v u p w2) = impl_firedTicks.g1000019 (fun q r s t w y v u p w2 => M10 (impl_firedTicks.st10 q r s t w y v u p w2)) (fun q r s t w y v u p w2 => impl_firedTicks.LN1000019 n x M10 k (impl_firedTicks.st1000019 q r s t w y v u p w2)) q r s t w y v u p w2 := by kernel_rfl
  rw [h]
  simp only [ih]
  rfl
set_option maxRecDepth 100000 in
theorem impl_firedTicks.lem14 (n : Nat) (x : List Int × YE × YD × List ByteArray) (M10 : St → Option (YL)) : ∀ (k : Nat) (q : List Int) (r : List YA) (s : List ByteArray) (t : Int) (v50 : List Int) (v51 : Int) (v52 : Int) (w : List Int) (y : List YC) (v : Int) (u : Int) (p : Bool × Bool × Bool × Bool × Bool × Int) (w2 : List Int), impl_firedTicks.LN14 n x M10 k (impl_firedTicks.st14 q r s t v50 v51 v52 w y v u p w2) = impl_firedTicks.l14 n (fun q r s t w y v u p w2 => M10 (impl_firedTicks.st10 q r s t w y v u p w2)) k q r s t v50 v51 v52 w y v u p w2 := by
 intro k
 induction k with
 | zero => intro q r s t v50 v51 v52 w y v u p w2; rfl
 | succ k ih =>
  intro q r s t v50 v51 v52 w y v u p w2
  have h : impl_firedTicks.LN14 n x M10 (k + 1) (impl_firedTicks.st14 q r s t v50 v51 v52 w y v u p w2) = impl_firedTicks.g14 (fun q r s t w y v u p w2 => impl_firedTicks.LN1000019 n x M10 n (impl_firedTicks.st1000019 q r s t w y v u p w2)) (fun q r s t w y v u p w2 => M10 (impl_firedTicks.st10 q r s t w y v u p w2)) (fun q r s t v50 v51 v52 w y v u p w2 => impl_firedTicks.LN14 n x M10 k (impl_firedTicks.st14 q r s t v50 v51 v52 w y v u p w2)) q r s t v50 v51 v52 w y v u p w2 := by kernel_rfl
  rw [h]
  simp only [ih, impl_firedTicks.lem1000019]
  rfl
set_option maxRecDepth 100000 in
theorem impl_firedTicks.lem1000012 (n : Nat) (x : List Int × YE × YD × List ByteArray) (M10 : St → Option (YL)) : ∀ (k : Nat) (q : List Int) (r : List YA) (s : List ByteArray) (t : Int) (w : List Int) (y : List YC) (v : Int) (u : Int) (p : Bool × Bool × Bool × Bool × Bool × Int) (w2 : List Int), impl_firedTicks.LN1000012 n x M10 k (impl_firedTicks.st1000012 q r s t w y v u p w2) = impl_firedTicks.l1000012 n (fun q r s t w y v u p w2 => M10 (impl_firedTicks.st10 q r s t w y v u p w2)) k q r s t w y v u p w2 := by
 intro k
 induction k with
 | zero => intro q r s t w y v u p w2; rfl
 | succ k ih =>
  intro q r s t w y v u p w2
  have h : impl_firedTicks.LN1000012 n x M10 (k + 1) (impl_firedTicks.st1000012 q r s t w y v u p w2) = impl_firedTicks.g1000012 (fun q r s t v50 v51 v52 w y v u p w2 => impl_firedTicks.LN14 n x M10 n (impl_firedTicks.st14 q r s t v50 v51 v52 w y v u p w2)) (fun q r s t w y v u p w2 => impl_firedTicks.LN1000019 n x M10 n (impl_firedTicks.st1000019 q r s t w y v u p w2)) (fun q r s t w y v u p w2 => M10 (impl_firedTicks.st10 q r s t w y v u p w2)) (fun q r s t w y v u p w2 => impl_firedTicks.LN1000012 n x M10 k (impl_firedTicks.st1000012 q r s t w y v u p w2)) q r s t w y v u p w2 := by kernel_rfl
  rw [h]
  simp only [ih, impl_firedTicks.lem14, impl_firedTicks.lem1000019]
  rfl
set_option maxRecDepth 100000 in
theorem impl_firedTicks.lem120000001 (n : Nat) (x : List Int × YE × YD × List ByteArray) (M10 : St → Option (YL)) : ∀ (k : Nat) (q : List Int) (r : List YA) (s : List ByteArray) (t : Int) (w : List Int) (y : List YC) (v : Int) (u : Int) (p : Bool × Bool × Bool × Bool × Bool × Int) (w2 : List Int) (w0 : List Int) (d0a : List YC) (b : Int) (a : Int) (z : Bool × Bool × Bool × Bool × Bool × Int) (w2' : List Int), impl_firedTicks.LN120000001 n x M10 q r s t w y v u p w2 k (impl_firedTicks.st120000001 w0 d0a b a z w2') = impl_firedTicks.l120000001 n (fun q r s t w y v u p w2 => M10 (impl_firedTicks.st10 q r s t w y v u p w2)) k q r s t w y v u p w2 w0 d0a b a z w2' := by
 intro k
 induction k with
 | zero => intro q r s t w y v u p w2 w0 d0a b a z w2'; rfl
 | succ k ih =>
  intro q r s t w y v u p w2 w0 d0a b a z w2'
  have h : impl_firedTicks.LN120000001 n x M10 q r s t w y v u p w2 (k + 1) (impl_firedTicks.st120000001 w0 d0a b a z w2') = impl_firedTicks.g120000001raw (fun q r s t w y v u p w2 => impl_firedTicks.LN1000012 n x M10 n (impl_firedTicks.st1000012 q r s t w y v u p w2)) (fun q r s t w y v u p w2 => M10 (impl_firedTicks.st10 q r s t w y v u p w2)) (fun q r s t w y v u p w2 w0 d0a b a z w2' => impl_firedTicks.LN120000001 n x M10 q r s t w y v u p w2 k (impl_firedTicks.st120000001 w0 d0a b a z w2')) q r s t w y v u p w2 w0 d0a b a z w2' := by kernel_rfl
  rw [impl_firedTicks.g120000001raw_eq] at h
  rw [h]
  simp only [ih, impl_firedTicks.lem1000012]
  rfl
set_option maxRecDepth 100000 in
theorem impl_firedTicks.lem1000011 (n : Nat) (x : List Int × YE × YD × List ByteArray) (M10 : St → Option (YL)) : ∀ (k : Nat) (q : List Int) (r : List YA) (s : List ByteArray) (t : Int) (w : List Int) (y : List YC) (v : Int) (u : Int) (p : Bool × Bool × Bool × Bool × Bool × Int) (w2 : List Int), impl_firedTicks.LN1000011 n x M10 k (impl_firedTicks.st1000011 q r s t w y v u p w2) = impl_firedTicks.l1000011 n (fun q r s t w y v u p w2 => M10 (impl_firedTicks.st10 q r s t w y v u p w2)) k q r s t w y v u p w2 := by
 intro k
 induction k with
 | zero => intro q r s t w y v u p w2; rfl
 | succ k ih =>
  intro q r s t w y v u p w2
  have h : impl_firedTicks.LN1000011 n x M10 (k + 1) (impl_firedTicks.st1000011 q r s t w y v u p w2) = impl_firedTicks.g1000011 (fun q r s t w y v u p w2 w0 d0a b a z w2' => impl_firedTicks.LN120000001 n x M10 q r s t w y v u p w2 n (impl_firedTicks.st120000001 w0 d0a b a z w2')) (fun q r s t w y v u p w2 => M10 (impl_firedTicks.st10 q r s t w y v u p w2)) (fun q r s t w y v u p w2 => impl_firedTicks.LN1000011 n x M10 k (impl_firedTicks.st1000011 q r s t w y v u p w2)) q r s t w y v u p w2 := by kernel_rfl
  rw [h]
  simp only [ih, impl_firedTicks.lem120000001]
  rfl
set_option maxRecDepth 100000 in
theorem impl_firedTicks.lem10 (n : Nat) (x : List Int × YE × YD × List ByteArray) : ∀ (k : Nat) (q : List Int) (r : List YA) (s : List ByteArray) (t : Int) (w : List Int) (y : List YC) (v : Int) (u : Int) (p : Bool × Bool × Bool × Bool × Bool × Int) (w2 : List Int), impl_firedTicks.LN10 n x k (impl_firedTicks.st10 q r s t w y v u p w2) = impl_firedTicks.l10 n k q r s t w y v u p w2 := by
 intro k
 induction k with
 | zero => intro q r s t w y v u p w2; rfl
 | succ k ih =>
  intro q r s t w y v u p w2
  have h : impl_firedTicks.LN10 n x (k + 1) (impl_firedTicks.st10 q r s t w y v u p w2) = impl_firedTicks.g10 (fun q r s t w y v u p w2 => impl_firedTicks.LN1000011 n x (impl_firedTicks.LN10 n x k) n (impl_firedTicks.st1000011 q r s t w y v u p w2)) (fun q r s t w y v u p w2 => impl_firedTicks.LN10 n x k (impl_firedTicks.st10 q r s t w y v u p w2)) q r s t w y v u p w2 := by kernel_rfl
  rw [h]
  simp only [ih, impl_firedTicks.lem1000011]
  rfl
set_option maxRecDepth 100000 in
theorem impl_firedTicks.lem4 (n : Nat) (x : List Int × YE × YD × List ByteArray) : ∀ (k : Nat) (q : List Int) (c : List YC) (r : List YA) (s : List ByteArray) (t : Int) (v19 : List Int) (v20 : Int) (v21 : Int) (w : List Int), impl_firedTicks.LN4 n x k (impl_firedTicks.st4 q c r s t v19 v20 v21 w) = impl_firedTicks.l4 n k q c r s t v19 v20 v21 w := by
 intro k
 induction k with
 | zero => intro q c r s t v19 v20 v21 w; rfl
 | succ k ih =>
  intro q c r s t v19 v20 v21 w
  have h : impl_firedTicks.LN4 n x (k + 1) (impl_firedTicks.st4 q c r s t v19 v20 v21 w) = impl_firedTicks.g4 (fun q r s t w y v u p w2 => impl_firedTicks.LN10 n x n (impl_firedTicks.st10 q r s t w y v u p w2)) (fun q c r s t v19 v20 v21 w => impl_firedTicks.LN4 n x k (impl_firedTicks.st4 q c r s t v19 v20 v21 w)) q c r s t v19 v20 v21 w := by kernel_rfl
  rw [h]
  simp only [ih, impl_firedTicks.lem10]
  rfl
set_option maxRecDepth 100000 in
theorem impl_firedTicks.body (n : Nat) (x : List Int × YE × YD × List ByteArray) : bodyFI impl_firedTicks.E impl_firedTicks.I impl_firedTicks.keep n Tryz.f135 impl_firedTicks.con x = impl_firedTicks.fn n x.1 x.2.1 x.2.2.1 x.2.2.2 := by
 have h : bodyFI impl_firedTicks.E impl_firedTicks.I impl_firedTicks.keep n Tryz.f135 impl_firedTicks.con x = impl_firedTicks.top (fun q c r s t v19 v20 v21 w => impl_firedTicks.LN4 n x n (impl_firedTicks.st4 q c r s t v19 v20 v21 w)) x.1 x.2.1 x.2.2.1 x.2.2.2 := by kernel_rfl
 rw [h]
 simp only [impl_firedTicks.lem4]
 rfl
set_option maxRecDepth 100000 in
theorem impl_firedTicks.good : Good Tryz.prog 135 impl_firedTicks.con :=
 good_ofI tabok (cs := impl_firedTicks.cs) ⟨impl_giveInput.good, impl_mayFire.good, impl_areAllClear.good, trivial⟩ 0 false (fn := Tryz.f135) Tryz.func135 rfl (by decide) (by simp [impl_firedTicks.con]) impl_firedTicks.keep NN (fun _ => rfl) impl_firedTicks.hI (fun x => impl_firedTicks.body NN x)
end
end Go.Ev.Tryz

namespace Go.Ev.Tryz
open Go.Proofs Go.Pl
set_option linter.unusedVariables false
noncomputable section
def impl_FiredSafely.con : Con := { ps := [(.val, (.sl 2 (.int .i64))), (.val, (.sl 72 (.pair (.int .i64) (.int .i64)))), (.val, (.sl 70 (.pair (.int .i64) (.pair .str (.int .i64))))), (.val, (.sl 9 .str))], rs := [(.own, (.sl 2 (.int .i64))), (.own, (.int .i64))], F := fun x => impl_FiredSafely.f x.1 x.2.1 x.2.2.1 x.2.2.2 }
def impl_FiredSafely.cs : List (FuncId × Con) := [(134, impl_areFired.con), (135, impl_firedTicks.con)]
def impl_FiredSafely.E : Env := envOf tab impl_FiredSafely.cs 0 false
def impl_FiredSafely.keep (i : Nat) : List Nat := []
set_option maxRecDepth 100000 in
theorem impl_FiredSafely.body (n : Nat) (x : List Int × YE × YD × List ByteArray) : bodyF impl_FiredSafely.E impl_FiredSafely.keep n Tryz.f105 impl_FiredSafely.con x = impl_FiredSafely.fn n x.1 x.2.1 x.2.2.1 x.2.2.2 := by
 have h : bodyF impl_FiredSafely.E impl_FiredSafely.keep n Tryz.f105 impl_FiredSafely.con x = impl_FiredSafely.top x.1 x.2.1 x.2.2.1 x.2.2.2 := by kernel_rfl
 exact h
set_option maxRecDepth 100000 in
theorem impl_FiredSafely.good : Good Tryz.prog 105 impl_FiredSafely.con :=
 good_of tabok (cs := impl_FiredSafely.cs) ⟨impl_areFired.good, impl_firedTicks.good, trivial⟩ 0 false (fn := Tryz.f105) Tryz.func105 rfl (by decide) (by simp [impl_FiredSafely.con]) impl_FiredSafely.keep NN (fun _ => rfl) (fun x => impl_FiredSafely.body NN x)
end
end Go.Ev.Tryz

namespace Go.Ev.Tryz
open Go.Proofs Go.Pl
set_option linter.unusedVariables false
noncomputable section
def impl_totalsOf.st3 (p : ByteArray) (v9 : List YA) (v10 : Int) (v11 : Int) (q : List Int) : St := ⟨[.gone, .dat .str p, .gone, .gone, .gone, .ref 0, .gone, .gone, .gone, .dat (.sl 74 (.pair (.int .i64) (.pair .str (.int .i64)))) v9, .dat (.int .i64) v10, .dat (.int .i64) v11, .gone, .gone, .gone, .gone, .gone, .gone, .gone, .gone, .gone, .gone, .gone, .gone, .gone, .gone, .gone, .gone, .gone, .gone], [.row 2 (.int .i64) q none]⟩
def impl_totalsOf.con : Con := { ps := [(.val, (.sl 74 (.pair (.int .i64) (.pair .str (.int .i64))))), (.val, .str)], rs := [(.own, (.sl 2 (.int .i64)))], F := fun x => impl_totalsOf.f x.1 x.2 }
def impl_totalsOf.cs : List (FuncId × Con) := []
def impl_totalsOf.E : Env := envOf tab impl_totalsOf.cs 0 false
def impl_totalsOf.keep (i : Nat) : List Nat := if i = 3 then [1, 5, 9, 10, 11] else []
def impl_totalsOf.at3 (n : Nat) (x : YD × ByteArray) : Code × (Ex → St → Option (YL)) := ctx impl_totalsOf.E impl_totalsOf.keep n [.snd, .snd, .fst, .snd, .blk] (codeOf Tryz.f117) (kEnd impl_totalsOf.E Tryz.f117 impl_totalsOf.con x)
def impl_totalsOf.LN3 (n : Nat) (x : YD × ByteArray) : Nat → St → Option (YL) := loopN (exec impl_totalsOf.E impl_totalsOf.keep n (bodyOf (impl_totalsOf.at3 n x).1)) (St.norm 0 (impl_totalsOf.keep 3)) (impl_totalsOf.at3 n x).2
set_option maxRecDepth 100000 in
theorem impl_totalsOf.lem3 (n : Nat) (x : YD × ByteArray) : ∀ (k : Nat) (p : ByteArray) (v9 : List YA) (v10 : Int) (v11 : Int) (q : List Int), impl_totalsOf.LN3 n x k (impl_totalsOf.st3 p v9 v10 v11 q) = impl_totalsOf.l3 n k p v9 v10 v11 q := by
 intro k
 induction k with
 | zero => intro p v9 v10 v11 q; rfl
 | succ k ih =>
  intro p v9 v10 v11 q
  have h : impl_totalsOf.LN3 n x (k + 1) (impl_totalsOf.st3 p v9 v10 v11 q) = impl_totalsOf.g3 (fun p v9 v10 v11 q => impl_totalsOf.LN3 n x k (impl_totalsOf.st3 p v9 v10 v11 q)) p v9 v10 v11 q := by kernel_rfl
  rw [h]
  simp only [ih]
  rfl
set_option maxRecDepth 100000 in
theorem impl_totalsOf.body (n : Nat) (x : YD × ByteArray) : bodyF impl_totalsOf.E impl_totalsOf.keep n Tryz.f117 impl_totalsOf.con x = impl_totalsOf.fn n x.1 x.2 := by
 have h : bodyF impl_totalsOf.E impl_totalsOf.keep n Tryz.f117 impl_totalsOf.con x = impl_totalsOf.top (fun p v9 v10 v11 q => impl_totalsOf.LN3 n x n (impl_totalsOf.st3 p v9 v10 v11 q)) x.1 x.2 := by kernel_rfl
 rw [h]
 simp only [impl_totalsOf.lem3]
 rfl
set_option maxRecDepth 100000 in
theorem impl_totalsOf.good : Good Tryz.prog 117 impl_totalsOf.con :=
 good_of tabok (cs := impl_totalsOf.cs) trivial 0 false (fn := Tryz.f117) Tryz.func117 rfl (by decide) (by simp [impl_totalsOf.con]) impl_totalsOf.keep NN (fun _ => rfl) (fun x => impl_totalsOf.body NN x)
end
end Go.Ev.Tryz

namespace Go.Ev.Tryz
open Go.Proofs Go.Pl
set_option linter.unusedVariables false
noncomputable section
def impl_piecesLeft.con : Con := { ps := [(.val, (.sl 74 (.pair (.int .i64) (.pair .str (.int .i64))))), (.val, .str)], rs := [(.val, (.int .i64))], F := fun x => impl_piecesLeft.f x.1 x.2 }
def impl_piecesLeft.cs : List (FuncId × Con) := [(117, impl_totalsOf.con)]
def impl_piecesLeft.E : Env := envOf tab impl_piecesLeft.cs 0 false
def impl_piecesLeft.keep (i : Nat) : List Nat := []
set_option maxRecDepth 100000 in
theorem impl_piecesLeft.body (n : Nat) (x : YD × ByteArray) : bodyF impl_piecesLeft.E impl_piecesLeft.keep n Tryz.f89 impl_piecesLeft.con x = impl_piecesLeft.fn n x.1 x.2 := by
 have h : bodyF impl_piecesLeft.E impl_piecesLeft.keep n Tryz.f89 impl_piecesLeft.con x = impl_piecesLeft.top x.1 x.2 := by kernel_rfl
 exact h
set_option maxRecDepth 100000 in
theorem impl_piecesLeft.good : Good Tryz.prog 89 impl_piecesLeft.con :=
 good_of tabok (cs := impl_piecesLeft.cs) ⟨impl_totalsOf.good, trivial⟩ 0 false (fn := Tryz.f89) Tryz.func89 rfl (by decide) (by simp [impl_piecesLeft.con]) impl_piecesLeft.keep NN (fun _ => rfl) (fun x => impl_piecesLeft.body NN x)
end
end Go.Ev.Tryz

namespace Go.Ev.Tryz
open Go.Proofs Go.Pl
set_option linter.unusedVariables false
noncomputable section
def impl_AreBookings.st4 (p : List YA) (v8 : List YA) (v9 : Int) (v10 : Int) : St := ⟨[.dat (.sl 74 (.pair (.int .i64) (.pair .str (.int .i64)))) p, .gone, .gone, .gone, .gone, .gone, .gone, .gone, .dat (.sl 74 (.pair (.int .i64) (.pair .str (.int .i64)))) v8, .dat (.int .i64) v9, .dat (.int .i64) v10, .gone, .gone, .gone, .gone, .gone, .gone, .gone, .gone, .gone, .gone, .gone, .gone, .gone, .gone, .gone, .gone, .gone, .gone, .gone, .gone, .gone, .gone, .gone, .gone, .gone, .gone, .gone, .gone, .gone, .gone, .gone], []⟩
def impl_AreBookings.con : Con := { ps := [(.val, (.sl 74 (.pair (.int .i64) (.pair .str (.int .i64)))))], rs := [(.val, .bool)], F := fun x => impl_AreBookings.f x }
def impl_AreBookings.cs : List (FuncId × Con) := [(85, impl_IsWord.con), (86, impl_within.con), (89, impl_piecesLeft.con)]
def impl_AreBookings.E : Env := envOf tab impl_AreBookings.cs 0 false
def impl_AreBookings.keep (i : Nat) : List Nat := if i = 4 then [0, 8, 9, 10] else []
def impl_AreBookings.at4 (n : Nat) (x : List YA) : Code × (Ex → St → Option (Bool)) := ctx impl_AreBookings.E impl_AreBookings.keep n [.snd, .snd, .fst, .snd, .blk] (codeOf Tryz.f56) (kEnd impl_AreBookings.E Tryz.f56 impl_AreBookings.con x)
def impl_AreBookings.LN4 (n : Nat) (x : List YA) : Nat → St → Option (Bool) := loopN (exec impl_AreBookings.E impl_AreBookings.keep n (bodyOf (impl_AreBookings.at4 n x).1)) (St.norm 0 (impl_AreBookings.keep 4)) (impl_AreBookings.at4 n x).2
set_option maxRecDepth 100000 in
theorem impl_AreBookings.lem4 (n : Nat) (x : List YA) : ∀ (k : Nat) (p : List YA) (v8 : List YA) (v9 : Int) (v10 : Int), impl_AreBookings.LN4 n x k (impl_AreBookings.st4 p v8 v9 v10) = impl_AreBookings.l4 n k p v8 v9 v10 := by
 intro k
 induction k with
 | zero => intro p v8 v9 v10; rfl
 | succ k ih =>
  intro p v8 v9 v10
  have h : impl_AreBookings.LN4 n x (k + 1) (impl_AreBookings.st4 p v8 v9 v10) = impl_AreBookings.g4 (fun p v8 v9 v10 => impl_AreBookings.LN4 n x k (impl_AreBookings.st4 p v8 v9 v10)) p v8 v9 v10 := by kernel_rfl
  rw [h]
  simp only [ih]
  rfl
set_option maxRecDepth 100000 in
theorem impl_AreBookings.body (n : Nat) (x : List YA) : bodyF impl_AreBookings.E impl_AreBookings.keep n Tryz.f56 impl_AreBookings.con x = impl_AreBookings.fn n x := by
 have h : bodyF impl_AreBookings.E impl_AreBookings.keep n Tryz.f56 impl_AreBookings.con x = impl_AreBookings.top (fun p v8 v9 v10 => impl_AreBookings.LN4 n x n (impl_AreBookings.st4 p v8 v9 v10)) x := by kernel_rfl
 rw [h]
 simp only [impl_AreBookings.lem4]
 rfl
set_option maxRecDepth 100000 in
theorem impl_AreBookings.good : Good Tryz.prog 56 impl_AreBookings.con :=
 good_of tabok (cs := impl_AreBookings.cs) ⟨impl_IsWord.good, impl_within.good, impl_piecesLeft.good, trivial⟩ 0 false (fn := Tryz.f56) Tryz.func56 rfl (by decide) (by simp [impl_AreBookings.con]) impl_AreBookings.keep NN (fun _ => rfl) (fun x => impl_AreBookings.body NN x)
end
end Go.Ev.Tryz

namespace Go.Ev.Tryz
open Go.Proofs Go.Pl
set_option linter.unusedVariables false
noncomputable section
def impl_BookPieces.tr0 (p : List YA) (b1 : Int × ByteArray × Int) : Option YS :=
 if ([] : List YA).length + p.length < room 32 then
  if (([] : List YA) ++ p).length + ([b1]).length < room 32 then
   (impl_AreBookings.f ((([] : List YA) ++ p) ++ ([b1]))).bind fun r2 =>
   if (!r2) = true then
    some ([], 5)
   else
    some ((([] : List YA) ++ p) ++ ([b1]), 0)
  else
   none
 else
  none
def impl_BookPieces.tr1 (p : List YA) (b1 : Int × ByteArray × Int) : Option YS :=
 agree (
  impl_BookPieces.tr0 p b1
 ) (
  impl_BookPieces.tr0 p b1
 )
def impl_BookPieces.topraw (p : List YA) (b1 : Int × ByteArray × Int) : Option YS :=
 (impl_AreBookings.f p).bind fun r1 =>
 if (!r1) = true then
  some ([], 1)
 else if (((p.length : Int) : Int) == 60) = true then
  some ([], 3)
 else
  agree (
   agree (
    impl_BookPieces.tr0 p b1
   ) (
    impl_BookPieces.tr1 p b1
   )
  ) (
   agree (
    impl_BookPieces.tr1 p b1
   ) (
    impl_BookPieces.tr0 p b1
   )
  )
theorem impl_BookPieces.topraw_eq (p : List YA) (b1 : Int × ByteArray × Int) : impl_BookPieces.topraw p b1 = impl_BookPieces.top p b1 := by
 unfold impl_BookPieces.topraw impl_BookPieces.top
 simp only [agree_self, impl_BookPieces.tr0, impl_BookPieces.tr1]
def impl_BookPieces.con : Con := { ps := [(.val, (.sl 74 (.pair (.int .i64) (.pair .str (.int .i64))))), (.val, (.pair (.int .i64) (.pair .str (.int .i64))))], rs := [(.own, (.sl 74 (.pair (.int .i64) (.pair .str (.int .i64))))), (.own, (.int .i64))], F := fun x => impl_BookPieces.f x.1 x.2 }
def impl_BookPieces.cs : List (FuncId × Con) := [(56, impl_AreBookings.con)]
def impl_BookPieces.E : Env := envOf tab impl_BookPieces.cs 0 false
def impl_BookPieces.keep (i : Nat) : List Nat := []
set_option maxRecDepth 100000 in
theorem impl_BookPieces.body (n : Nat) (x : YD × Int × ByteArray × Int) : bodyF impl_BookPieces.E impl_BookPieces.keep n Tryz.f106 impl_BookPieces.con x = impl_BookPieces.fn n x.1 x.2 := by
 have h : bodyF impl_BookPieces.E impl_BookPieces.keep n Tryz.f106 impl_BookPieces.con x = impl_BookPieces.topraw x.1 x.2 := by kernel_rfl
 rw [impl_BookPieces.topraw_eq] at h
 exact h
set_option maxRecDepth 100000 in
theorem impl_BookPieces.good : Good Tryz.prog 106 impl_BookPieces.con :=
 good_of tabok (cs := impl_BookPieces.cs) ⟨impl_AreBookings.good, trivial⟩ 0 false (fn := Tryz.f106) Tryz.func106 rfl (by decide) (by simp [impl_BookPieces.con]) impl_BookPieces.keep NN (fun _ => rfl) (fun x => impl_BookPieces.body NN x)
end
end Go.Ev.Tryz

namespace Go.Ev.Tryz
open Go.Proofs Go.Pl
set_option linter.unusedVariables false
noncomputable section
def impl_PiecesLeft.con : Con := { ps := [(.val, (.sl 74 (.pair (.int .i64) (.pair .str (.int .i64))))), (.val, .str)], rs := [(.val, (.int .i64)), (.val, (.int .i64))], F := fun x => impl_PiecesLeft.f x.1 x.2 }
def impl_PiecesLeft.cs : List (FuncId × Con) := [(56, impl_AreBookings.con), (85, impl_IsWord.con), (89, impl_piecesLeft.con)]
def impl_PiecesLeft.E : Env := envOf tab impl_PiecesLeft.cs 0 false
def impl_PiecesLeft.keep (i : Nat) : List Nat := []
set_option maxRecDepth 100000 in
theorem impl_PiecesLeft.body (n : Nat) (x : YD × ByteArray) : bodyF impl_PiecesLeft.E impl_PiecesLeft.keep n Tryz.f107 impl_PiecesLeft.con x = impl_PiecesLeft.fn n x.1 x.2 := by
 have h : bodyF impl_PiecesLeft.E impl_PiecesLeft.keep n Tryz.f107 impl_PiecesLeft.con x = impl_PiecesLeft.top x.1 x.2 := by kernel_rfl
 exact h
set_option maxRecDepth 100000 in
theorem impl_PiecesLeft.good : Good Tryz.prog 107 impl_PiecesLeft.con :=
 good_of tabok (cs := impl_PiecesLeft.cs) ⟨impl_AreBookings.good, impl_IsWord.good, impl_piecesLeft.good, trivial⟩ 0 false (fn := Tryz.f107) Tryz.func107 rfl (by decide) (by simp [impl_PiecesLeft.con]) impl_PiecesLeft.keep NN (fun _ => rfl) (fun x => impl_PiecesLeft.body NN x)
end
end Go.Ev.Tryz

namespace Go.Ev.Tryz
open Go.Proofs Go.Pl
set_option linter.unusedVariables false
noncomputable section
def impl_openArticles.st3 (p : List YA) (v6 : List YA) (v7 : Int) (v8 : Int) (q : List ByteArray) : St := ⟨[.dat (.sl 74 (.pair (.int .i64) (.pair .str (.int .i64)))) p, .gone, .gone, .ref 0, .gone, .gone, .dat (.sl 74 (.pair (.int .i64) (.pair .str (.int .i64)))) v6, .dat (.int .i64) v7, .dat (.int .i64) v8, .gone, .gone, .gone, .gone, .gone, .gone, .gone, .gone, .gone, .gone, .gone, .gone, .gone, .gone], [.row 9 .str q none]⟩
def impl_openArticles.con : Con := { ps := [(.val, (.sl 74 (.pair (.int .i64) (.pair .str (.int .i64)))))], rs := [(.own, (.sl 9 .str))], F := fun x => impl_openArticles.f x }
def impl_openArticles.cs : List (FuncId × Con) := [(89, impl_piecesLeft.con), (104, impl_putWord.con)]
def impl_openArticles.E : Env := envOf tab impl_openArticles.cs 0 false
def impl_openArticles.keep (i : Nat) : List Nat := if i = 3 then [0, 3, 6, 7, 8] else []
def impl_openArticles.at3 (n : Nat) (x : List YA) : Code × (Ex → St → Option (YG)) := ctx impl_openArticles.E impl_openArticles.keep n [.snd, .snd, .fst, .snd, .blk] (codeOf Tryz.f108) (kEnd impl_openArticles.E Tryz.f108 impl_openArticles.con x)
def impl_openArticles.LN3 (n : Nat) (x : List YA) : Nat → St → Option (YG) := loopN (exec impl_openArticles.E impl_openArticles.keep n (bodyOf (impl_openArticles.at3 n x).1)) (St.norm 0 (impl_openArticles.keep 3)) (impl_openArticles.at3 n x).2
set_option maxRecDepth 100000 in
theorem impl_openArticles.lem3 (n : Nat) (x : List YA) : ∀ (k : Nat) (p : List YA) (v6 : List YA) (v7 : Int) (v8 : Int) (q : List ByteArray), impl_openArticles.LN3 n x k (impl_openArticles.st3 p v6 v7 v8 q) = impl_openArticles.l3 n k p v6 v7 v8 q := by
 intro k
 induction k with
 | zero => intro p v6 v7 v8 q; rfl
 | succ k ih =>
  intro p v6 v7 v8 q
  have h : impl_openArticles.LN3 n x (k + 1) (impl_openArticles.st3 p v6 v7 v8 q) = impl_openArticles.g3 (fun p v6 v7 v8 q => impl_openArticles.LN3 n x k (impl_openArticles.st3 p v6 v7 v8 q)) p v6 v7 v8 q := by kernel_rfl
  rw [h]
  simp only [ih]
  rfl
set_option maxRecDepth 100000 in
theorem impl_openArticles.body (n : Nat) (x : List YA) : bodyF impl_openArticles.E impl_openArticles.keep n Tryz.f108 impl_openArticles.con x = impl_openArticles.fn n x := by
 have h : bodyF impl_openArticles.E impl_openArticles.keep n Tryz.f108 impl_openArticles.con x = impl_openArticles.top (fun p v6 v7 v8 q => impl_openArticles.LN3 n x n (impl_openArticles.st3 p v6 v7 v8 q)) x := by kernel_rfl
 rw [h]
 simp only [impl_openArticles.lem3]
 rfl
set_option maxRecDepth 100000 in
theorem impl_openArticles.good : Good Tryz.prog 108 impl_openArticles.con :=
 good_of tabok (cs := impl_openArticles.cs) ⟨impl_piecesLeft.good, impl_putWord.good, trivial⟩ 0 false (fn := Tryz.f108) Tryz.func108 rfl (by decide) (by simp [impl_openArticles.con]) impl_openArticles.keep NN (fun _ => rfl) (fun x => impl_openArticles.body NN x)
end
end Go.Ev.Tryz

namespace Go.Ev.Tryz
open Go.Proofs Go.Pl
set_option linter.unusedVariables false
noncomputable section
def impl_joinWith.st3 (p : ByteArray) (q : ByteArray) (v8 : List ByteArray) (v9 : Int) (v10 : Int) : St := ⟨[.gone, .dat .str p, .gone, .gone, .gone, .dat .str q, .gone, .gone, .dat (.sl 9 .str) v8, .dat (.int .i64) v9, .dat (.int .i64) v10, .gone, .gone, .gone, .gone, .gone, .gone, .gone, .gone, .gone, .gone, .gone, .gone, .gone, .gone], []⟩
def impl_joinWith.con : Con := { ps := [(.val, (.sl 9 .str)), (.val, .str)], rs := [(.val, .str)], F := fun x => impl_joinWith.f x.1 x.2 }
def impl_joinWith.cs : List (FuncId × Con) := []
def impl_joinWith.E : Env := envOf tab impl_joinWith.cs 0 false
def impl_joinWith.keep (i : Nat) : List Nat := if i = 3 then [1, 5, 8, 9, 10] else []
def impl_joinWith.at3 (n : Nat) (x : List ByteArray × ByteArray) : Code × (Ex → St → Option (ByteArray)) := ctx impl_joinWith.E impl_joinWith.keep n [.snd, .snd, .fst, .snd, .blk] (codeOf Tryz.f109) (kEnd impl_joinWith.E Tryz.f109 impl_joinWith.con x)
def impl_joinWith.LN3 (n : Nat) (x : List ByteArray × ByteArray) : Nat → St → Option (ByteArray) := loopN (exec impl_joinWith.E impl_joinWith.keep n (bodyOf (impl_joinWith.at3 n x).1)) (St.norm 0 (impl_joinWith.keep 3)) (impl_joinWith.at3 n x).2
set_option maxRecDepth 100000 in
theorem impl_joinWith.lem3 (n : Nat) (x : List ByteArray × ByteArray) : ∀ (k : Nat) (p : ByteArray) (q : ByteArray) (v8 : List ByteArray) (v9 : Int) (v10 : Int), impl_joinWith.LN3 n x k (impl_joinWith.st3 p q v8 v9 v10) = impl_joinWith.l3 n k p q v8 v9 v10 := by
 intro k
 induction k with
 | zero => intro p q v8 v9 v10; rfl
 | succ k ih =>
  intro p q v8 v9 v10
  have h : impl_joinWith.LN3 n x (k + 1) (impl_joinWith.st3 p q v8 v9 v10) = impl_joinWith.g3 (fun p q v8 v9 v10 => impl_joinWith.LN3 n x k (impl_joinWith.st3 p q v8 v9 v10)) p q v8 v9 v10 := by kernel_rfl
  rw [h]
  simp only [ih]
  rfl
set_option maxRecDepth 100000 in
theorem impl_joinWith.body (n : Nat) (x : List ByteArray × ByteArray) : bodyF impl_joinWith.E impl_joinWith.keep n Tryz.f109 impl_joinWith.con x = impl_joinWith.fn n x.1 x.2 := by
 have h : bodyF impl_joinWith.E impl_joinWith.keep n Tryz.f109 impl_joinWith.con x = impl_joinWith.top (fun p q v8 v9 v10 => impl_joinWith.LN3 n x n (impl_joinWith.st3 p q v8 v9 v10)) x.1 x.2 := by kernel_rfl
 rw [h]
 simp only [impl_joinWith.lem3]
 rfl
set_option maxRecDepth 100000 in
theorem impl_joinWith.good : Good Tryz.prog 109 impl_joinWith.con :=
 good_of tabok (cs := impl_joinWith.cs) trivial 0 false (fn := Tryz.f109) Tryz.func109 rfl (by decide) (by simp [impl_joinWith.con]) impl_joinWith.keep NN (fun _ => rfl) (fun x => impl_joinWith.body NN x)
end
end Go.Ev.Tryz

namespace Go.Ev.Tryz
open Go.Proofs Go.Pl
set_option linter.unusedVariables false
noncomputable section
def impl_SettleAll.st7 (p : List YA) (q : Int) (v20 : Int) (v21 : Int) (r : List YA) (v19 : List ByteArray) : St := ⟨[.dat (.sl 74 (.pair (.int .i64) (.pair .str (.int .i64)))) p, .dat (.int .i64) q, .gone, .gone, .gone, .gone, .ref 0, .gone, .gone, .gone, .gone, .gone, .gone, .gone, .gone, .gone, .gone, .gone, .gone, .ref 1, .dat (.int .i64) v20, .dat (.int .i64) v21, .gone, .gone, .gone, .gone, .gone, .gone, .gone, .gone, .gone, .gone, .gone, .gone, .gone, .gone, .gone, .gone, .gone, .gone, .gone, .gone], [.row 74 (.pair (.int .i64) (.pair .str (.int .i64))) r none, .row 9 .str v19 none]⟩
def impl_SettleAll.con : Con := { ps := [(.val, (.sl 74 (.pair (.int .i64) (.pair .str (.int .i64))))), (.val, (.int .i64))], rs := [(.own, (.sl 74 (.pair (.int .i64) (.pair .str (.int .i64))))), (.own, (.int .i64))], F := fun x => impl_SettleAll.f x.1 x.2 }
def impl_SettleAll.cs : List (FuncId × Con) := [(56, impl_AreBookings.con), (86, impl_within.con), (89, impl_piecesLeft.con), (108, impl_openArticles.con)]
def impl_SettleAll.E : Env := envOf tab impl_SettleAll.cs 0 false
def impl_SettleAll.keep (i : Nat) : List Nat := if i = 7 then [0, 1, 6, 19, 20, 21] else []
def impl_SettleAll.at7 (n : Nat) (x : YD × Int) : Code × (Ex → St → Option (YS)) := ctx impl_SettleAll.E impl_SettleAll.keep n [.snd, .snd, .snd, .snd, .fst, .snd, .blk] (codeOf Tryz.f110) (kEnd impl_SettleAll.E Tryz.f110 impl_SettleAll.con x)
def impl_SettleAll.LN7 (n : Nat) (x : YD × Int) : Nat → St → Option (YS) := loopN (exec impl_SettleAll.E impl_SettleAll.keep n (bodyOf (impl_SettleAll.at7 n x).1)) (St.norm 0 (impl_SettleAll.keep 7)) (impl_SettleAll.at7 n x).2
set_option maxRecDepth 100000 in
theorem impl_SettleAll.lem7 (n : Nat) (x : YD × Int) : ∀ (k : Nat) (p : List YA) (q : Int) (v20 : Int) (v21 : Int) (r : List YA) (v19 : List ByteArray), impl_SettleAll.LN7 n x k (impl_SettleAll.st7 p q v20 v21 r v19) = impl_SettleAll.l7 n k p q v20 v21 r v19 := by
 intro k
 induction k with
 | zero => intro p q v20 v21 r v19; rfl
 | succ k ih =>
  intro p q v20 v21 r v19
  have h : impl_SettleAll.LN7 n x (k + 1) (impl_SettleAll.st7 p q v20 v21 r v19) = impl_SettleAll.g7 (fun p q v20 v21 r v19 => impl_SettleAll.LN7 n x k (impl_SettleAll.st7 p q v20 v21 r v19)) p q v20 v21 r v19 := by kernel_rfl
  rw [h]
  simp only [ih]
  rfl
set_option maxRecDepth 100000 in
theorem impl_SettleAll.body (n : Nat) (x : YD × Int) : bodyF impl_SettleAll.E impl_SettleAll.keep n Tryz.f110 impl_SettleAll.con x = impl_SettleAll.fn n x.1 x.2 := by
 have h : bodyF impl_SettleAll.E impl_SettleAll.keep n Tryz.f110 impl_SettleAll.con x = impl_SettleAll.top (fun p q v20 v21 r v19 => impl_SettleAll.LN7 n x n (impl_SettleAll.st7 p q v20 v21 r v19)) x.1 x.2 := by kernel_rfl
 rw [h]
 simp only [impl_SettleAll.lem7]
 rfl
set_option maxRecDepth 100000 in
theorem impl_SettleAll.good : Good Tryz.prog 110 impl_SettleAll.con :=
 good_of tabok (cs := impl_SettleAll.cs) ⟨impl_AreBookings.good, impl_within.good, impl_piecesLeft.good, impl_openArticles.good, trivial⟩ 0 false (fn := Tryz.f110) Tryz.func110 rfl (by decide) (by simp [impl_SettleAll.con]) impl_SettleAll.keep NN (fun _ => rfl) (fun x => impl_SettleAll.body NN x)
end
end Go.Ev.Tryz

namespace Go.Ev.Tryz
open Go.Proofs Go.Pl
set_option linter.unusedVariables false
noncomputable section
def impl_isUp.con : Con := { ps := [(.val, (.int .i64))], rs := [(.val, .bool)], F := fun x => impl_isUp.f x }
def impl_isUp.cs : List (FuncId × Con) := [(86, impl_within.con)]
def impl_isUp.E : Env := envOf tab impl_isUp.cs 0 false
def impl_isUp.keep (i : Nat) : List Nat := []
set_option maxRecDepth 100000 in
theorem impl_isUp.body (n : Nat) (x : Int) : bodyF impl_isUp.E impl_isUp.keep n Tryz.f136 impl_isUp.con x = impl_isUp.fn n x := by
 have h : bodyF impl_isUp.E impl_isUp.keep n Tryz.f136 impl_isUp.con x = impl_isUp.top x := by kernel_rfl
 exact h
set_option maxRecDepth 100000 in
theorem impl_isUp.good : Good Tryz.prog 136 impl_isUp.con :=
 good_of tabok (cs := impl_isUp.cs) ⟨impl_within.good, trivial⟩ 0 false (fn := Tryz.f136) Tryz.func136 rfl (by decide) (by simp [impl_isUp.con]) impl_isUp.keep NN (fun _ => rfl) (fun x => impl_isUp.body NN x)
end
end Go.Ev.Tryz

namespace Go.Ev.Tryz
open Go.Proofs Go.Pl
set_option linter.unusedVariables false
noncomputable section
def impl_floorDiv.con : Con := { ps := [(.val, (.int .i64)), (.val, (.int .i64))], rs := [(.val, (.int .i64))], F := fun x => impl_floorDiv.f x.1 x.2 }
def impl_floorDiv.cs : List (FuncId × Con) := []
def impl_floorDiv.E : Env := envOf tab impl_floorDiv.cs 0 false
def impl_floorDiv.keep (i : Nat) : List Nat := []
set_option maxRecDepth 100000 in
theorem impl_floorDiv.body (n : Nat) (x : Int × Int) : bodyF impl_floorDiv.E impl_floorDiv.keep n Tryz.f167 impl_floorDiv.con x = impl_floorDiv.fn n x.1 x.2 := by
 have h : bodyF impl_floorDiv.E impl_floorDiv.keep n Tryz.f167 impl_floorDiv.con x = impl_floorDiv.top x.1 x.2 := by kernel_rfl
 exact h
set_option maxRecDepth 100000 in
theorem impl_floorDiv.good : Good Tryz.prog 167 impl_floorDiv.con :=
 good_of tabok (cs := impl_floorDiv.cs) trivial 0 false (fn := Tryz.f167) Tryz.func167 rfl (by decide) (by simp [impl_floorDiv.con]) impl_floorDiv.keep NN (fun _ => rfl) (fun x => impl_floorDiv.body NN x)
end
end Go.Ev.Tryz

namespace Go.Ev.Tryz
open Go.Proofs Go.Pl
set_option linter.unusedVariables false
noncomputable section
def impl_heightAt.con : Con := { ps := [(.val, (.int .i64)), (.val, (.int .i64))], rs := [(.val, (.int .i64))], F := fun x => impl_heightAt.f x.1 x.2 }
def impl_heightAt.cs : List (FuncId × Con) := [(167, impl_floorDiv.con)]
def impl_heightAt.E : Env := envOf tab impl_heightAt.cs 0 false
def impl_heightAt.keep (i : Nat) : List Nat := []
set_option maxRecDepth 100000 in
theorem impl_heightAt.body (n : Nat) (x : Int × Int) : bodyF impl_heightAt.E impl_heightAt.keep n Tryz.f158 impl_heightAt.con x = impl_heightAt.fn n x.1 x.2 := by
 have h : bodyF impl_heightAt.E impl_heightAt.keep n Tryz.f158 impl_heightAt.con x = impl_heightAt.top x.1 x.2 := by kernel_rfl
 exact h
set_option maxRecDepth 100000 in
theorem impl_heightAt.good : Good Tryz.prog 158 impl_heightAt.con :=
 good_of tabok (cs := impl_heightAt.cs) ⟨impl_floorDiv.good, trivial⟩ 0 false (fn := Tryz.f158) Tryz.func158 rfl (by decide) (by simp [impl_heightAt.con]) impl_heightAt.keep NN (fun _ => rfl) (fun x => impl_heightAt.body NN x)
end
end Go.Ev.Tryz

namespace Go.Ev.Tryz
open Go.Proofs Go.Pl
set_option linter.unusedVariables false
noncomputable section
def impl_topOf.st7 (up0 : Int) (q : Int) (r : Int) (p : Int) : St := ⟨[.dat (.int .i64) up0, .gone, .gone, .gone, .gone, .dat (.int .i64) q, .gone, .dat (.int .i64) r, .dat (.int .i64) p, .gone, .gone, .gone, .gone, .gone, .gone, .gone, .gone, .gone, .gone, .gone, .gone, .gone, .gone, .gone, .gone, .gone, .gone, .gone, .gone, .gone, .gone, .gone, .gone, .gone, .gone, .gone, .gone, .gone, .gone, .gone, .gone, .gone, .gone, .gone], []⟩
def impl_topOf.con : Con := { ps := [(.val, (.int .i64))], rs := [(.val, (.int .i64)), (.val, (.int .i64))], F := fun x => impl_topOf.f x }
def impl_topOf.cs : List (FuncId × Con) := [(158, impl_heightAt.con)]
def impl_topOf.E : Env := envOf tab impl_topOf.cs 0 false
def impl_topOf.keep (i : Nat) : List Nat := if i = 7 then [0, 5, 7, 8] else []
def impl_topOf.at7 (n : Nat) (x : Int) : Code × (Ex → St → Option (YC)) := ctx impl_topOf.E impl_topOf.keep n [.snd, .snd, .snd, .snd, .snd, .fst, .blk] (codeOf Tryz.f137) (kEnd impl_topOf.E Tryz.f137 impl_topOf.con x)
def impl_topOf.LN7 (n : Nat) (x : Int) : Nat → St → Option (YC) := loopN (exec impl_topOf.E impl_topOf.keep n (bodyOf (impl_topOf.at7 n x).1)) (St.norm 0 (impl_topOf.keep 7)) (impl_topOf.at7 n x).2
set_option maxRecDepth 100000 in
theorem impl_topOf.lem7 (n : Nat) (x : Int) : ∀ (k : Nat) (up0 : Int) (q : Int) (r : Int) (p : Int), impl_topOf.LN7 n x k (impl_topOf.st7 up0 q r p) = impl_topOf.l7 n k up0 q r p := by
 intro k
 induction k with
 | zero => intro up0 q r p; rfl
 | succ k ih =>
  intro up0 q r p
  have h : impl_topOf.LN7 n x (k + 1) (impl_topOf.st7 up0 q r p) = impl_topOf.g7 (fun up0 q r p => impl_topOf.LN7 n x k (impl_topOf.st7 up0 q r p)) up0 q r p := by kernel_rfl
  rw [h]
  simp only [ih]
  rfl
set_option maxRecDepth 100000 in
theorem impl_topOf.body (n : Nat) (x : Int) : bodyF impl_topOf.E impl_topOf.keep n Tryz.f137 impl_topOf.con x = impl_topOf.fn n x := by
 have h : bodyF impl_topOf.E impl_topOf.keep n Tryz.f137 impl_topOf.con x = impl_topOf.top (fun up0 q r p => impl_topOf.LN7 n x n (impl_topOf.st7 up0 q r p)) x := by kernel_rfl
 rw [h]
 simp only [impl_topOf.lem7]
 rfl
set_option maxRecDepth 100000 in
theorem impl_topOf.good : Good Tryz.prog 137 impl_topOf.con :=
 good_of tabok (cs := impl_topOf.cs) ⟨impl_heightAt.good, trivial⟩ 0 false (fn := Tryz.f137) Tryz.func137 rfl (by decide) (by simp [impl_topOf.con]) impl_topOf.keep NN (fun _ => rfl) (fun x => impl_topOf.body NN x)
end
end Go.Ev.Tryz

namespace Go.Ev.Tryz
open Go.Proofs Go.Pl
set_option linter.unusedVariables false
noncomputable section
def impl_TopOf.con : Con := { ps := [(.val, (.int .i64))], rs := [(.val, (.int .i64)), (.val, (.int .i64)), (.val, (.int .i64))], F := fun x => impl_TopOf.f x }
def impl_TopOf.cs : List (FuncId × Con) := [(136, impl_isUp.con), (137, impl_topOf.con)]
def impl_TopOf.E : Env := envOf tab impl_TopOf.cs 0 false
def impl_TopOf.keep (i : Nat) : List Nat := []
set_option maxRecDepth 100000 in
theorem impl_TopOf.body (n : Nat) (x : Int) : bodyF impl_TopOf.E impl_TopOf.keep n Tryz.f111 impl_TopOf.con x = impl_TopOf.fn n x := by
 have h : bodyF impl_TopOf.E impl_TopOf.keep n Tryz.f111 impl_TopOf.con x = impl_TopOf.top x := by kernel_rfl
 exact h
set_option maxRecDepth 100000 in
theorem impl_TopOf.good : Good Tryz.prog 111 impl_TopOf.con :=
 good_of tabok (cs := impl_TopOf.cs) ⟨impl_isUp.good, impl_topOf.good, trivial⟩ 0 false (fn := Tryz.f111) Tryz.func111 rfl (by decide) (by simp [impl_TopOf.con]) impl_TopOf.keep NN (fun _ => rfl) (fun x => impl_TopOf.body NN x)
end
end Go.Ev.Tryz

namespace Go.Ev.Tryz
open Go.Proofs Go.Pl
set_option linter.unusedVariables false
noncomputable section
def impl_isFactor.con : Con := { ps := [(.val, (.int .i64))], rs := [(.val, .bool)], F := fun x => impl_isFactor.f x }
def impl_isFactor.cs : List (FuncId × Con) := [(86, impl_within.con)]
def impl_isFactor.E : Env := envOf tab impl_isFactor.cs 0 false
def impl_isFactor.keep (i : Nat) : List Nat := []
set_option maxRecDepth 100000 in
theorem impl_isFactor.body (n : Nat) (x : Int) : bodyF impl_isFactor.E impl_isFactor.keep n Tryz.f138 impl_isFactor.con x = impl_isFactor.fn n x := by
 have h : bodyF impl_isFactor.E impl_isFactor.keep n Tryz.f138 impl_isFactor.con x = impl_isFactor.top x := by kernel_rfl
 exact h
set_option maxRecDepth 100000 in
theorem impl_isFactor.good : Good Tryz.prog 138 impl_isFactor.con :=
 good_of tabok (cs := impl_isFactor.cs) ⟨impl_within.good, trivial⟩ 0 false (fn := Tryz.f138) Tryz.func138 rfl (by decide) (by simp [impl_isFactor.con]) impl_isFactor.keep NN (fun _ => rfl) (fun x => impl_isFactor.body NN x)
end
end Go.Ev.Tryz

namespace Go.Ev.Tryz
open Go.Proofs Go.Pl
set_option linter.unusedVariables false
noncomputable section
def impl_areGrams.con : Con := { ps := [(.val, (.int .i64))], rs := [(.val, .bool)], F := fun x => impl_areGrams.f x }
def impl_areGrams.cs : List (FuncId × Con) := [(86, impl_within.con)]
def impl_areGrams.E : Env := envOf tab impl_areGrams.cs 0 false
def impl_areGrams.keep (i : Nat) : List Nat := []
set_option maxRecDepth 100000 in
theorem impl_areGrams.body (n : Nat) (x : Int) : bodyF impl_areGrams.E impl_areGrams.keep n Tryz.f139 impl_areGrams.con x = impl_areGrams.fn n x := by
 have h : bodyF impl_areGrams.E impl_areGrams.keep n Tryz.f139 impl_areGrams.con x = impl_areGrams.top x := by kernel_rfl
 exact h
set_option maxRecDepth 100000 in
theorem impl_areGrams.good : Good Tryz.prog 139 impl_areGrams.con :=
 good_of tabok (cs := impl_areGrams.cs) ⟨impl_within.good, trivial⟩ 0 false (fn := Tryz.f139) Tryz.func139 rfl (by decide) (by simp [impl_areGrams.con]) impl_areGrams.keep NN (fun _ => rfl) (fun x => impl_areGrams.body NN x)
end
end Go.Ev.Tryz

namespace Go.Ev.Tryz
open Go.Proofs Go.Pl
set_option linter.unusedVariables false
noncomputable section
def impl_separation.st3 (p : Int) (r : Int) (q : Int) : St := ⟨[.gone, .gone, .gone, .gone, .gone, .dat (.int .i64) p, .dat (.int .i64) r, .dat (.int .i64) q, .gone, .gone, .gone, .gone, .gone, .gone, .gone, .gone, .gone, .gone, .gone, .gone, .gone, .gone, .gone, .gone, .gone, .gone, .gone, .gone, .gone, .gone, .gone, .gone, .gone, .gone], []⟩
def impl_separation.con : Con := { ps := [(.val, (.int .i64)), (.val, (.int .i64))], rs := [(.val, (.int .i64))], F := fun x => impl_separation.f x.1 x.2 }
def impl_separation.cs : List (FuncId × Con) := []
def impl_separation.E : Env := envOf tab impl_separation.cs 0 false
def impl_separation.keep (i : Nat) : List Nat := if i = 3 then [5, 6, 7] else []
def impl_separation.at3 (n : Nat) (x : Int × Int) : Code × (Ex → St → Option (Int)) := ctx impl_separation.E impl_separation.keep n [.snd, .snd, .snd, .fst, .blk] (codeOf Tryz.f140) (kEnd impl_separation.E Tryz.f140 impl_separation.con x)
def impl_separation.LN3 (n : Nat) (x : Int × Int) : Nat → St → Option (Int) := loopN (exec impl_separation.E impl_separation.keep n (bodyOf (impl_separation.at3 n x).1)) (St.norm 0 (impl_separation.keep 3)) (impl_separation.at3 n x).2
set_option maxRecDepth 100000 in
theorem impl_separation.lem3 (n : Nat) (x : Int × Int) : ∀ (k : Nat) (p : Int) (r : Int) (q : Int), impl_separation.LN3 n x k (impl_separation.st3 p r q) = impl_separation.l3 n k p r q := by
 intro k
 induction k with
 | zero => intro p r q; rfl
 | succ k ih =>
  intro p r q
  have h : impl_separation.LN3 n x (k + 1) (impl_separation.st3 p r q) = impl_separation.g3 (fun p r q => impl_separation.LN3 n x k (impl_separation.st3 p r q)) p r q := by kernel_rfl
  rw [h]
  simp only [ih]
  rfl
set_option maxRecDepth 100000 in
theorem impl_separation.body (n : Nat) (x : Int × Int) : bodyF impl_separation.E impl_separation.keep n Tryz.f140 impl_separation.con x = impl_separation.fn n x.1 x.2 := by
 have h : bodyF impl_separation.E impl_separation.keep n Tryz.f140 impl_separation.con x = impl_separation.top (fun p r q => impl_separation.LN3 n x n (impl_separation.st3 p r q)) x.1 x.2 := by kernel_rfl
 rw [h]
 simp only [impl_separation.lem3]
 rfl
set_option maxRecDepth 100000 in
theorem impl_separation.good : Good Tryz.prog 140 impl_separation.con :=
 good_of tabok (cs := impl_separation.cs) trivial 0 false (fn := Tryz.f140) Tryz.func140 rfl (by decide) (by simp [impl_separation.con]) impl_separation.keep NN (fun _ => rfl) (fun x => impl_separation.body NN x)
end
end Go.Ev.Tryz

namespace Go.Ev.Tryz
open Go.Proofs Go.Pl
set_option linter.unusedVariables false
noncomputable section
def impl_SeparationFor.con : Con := { ps := [(.val, (.int .i64)), (.val, (.int .i64))], rs := [(.val, (.int .i64)), (.val, (.int .i64))], F := fun x => impl_SeparationFor.f x.1 x.2 }
def impl_SeparationFor.cs : List (FuncId × Con) := [(138, impl_isFactor.con), (139, impl_areGrams.con), (140, impl_separation.con)]
def impl_SeparationFor.E : Env := envOf tab impl_SeparationFor.cs 0 false
def impl_SeparationFor.keep (i : Nat) : List Nat := []
set_option maxRecDepth 100000 in
theorem impl_SeparationFor.body (n : Nat) (x : Int × Int) : bodyF impl_SeparationFor.E impl_SeparationFor.keep n Tryz.f112 impl_SeparationFor.con x = impl_SeparationFor.fn n x.1 x.2 := by
 have h : bodyF impl_SeparationFor.E impl_SeparationFor.keep n Tryz.f112 impl_SeparationFor.con x = impl_SeparationFor.top x.1 x.2 := by kernel_rfl
 exact h
set_option maxRecDepth 100000 in
theorem impl_SeparationFor.good : Good Tryz.prog 112 impl_SeparationFor.con :=
 good_of tabok (cs := impl_SeparationFor.cs) ⟨impl_isFactor.good, impl_areGrams.good, impl_separation.good, trivial⟩ 0 false (fn := Tryz.f112) Tryz.func112 rfl (by decide) (by simp [impl_SeparationFor.con]) impl_SeparationFor.keep NN (fun _ => rfl) (fun x => impl_SeparationFor.body NN x)
end
end Go.Ev.Tryz

namespace Go.Ev.Tryz
open Go.Proofs Go.Pl
set_option linter.unusedVariables false
noncomputable section
def impl_padded.st2 (p : Int) (q : ByteArray) : St := ⟨[.gone, .dat (.int .i64) p, .gone, .gone, .gone, .dat .str q, .gone, .gone, .gone, .gone, .gone, .gone, .gone, .gone, .gone], []⟩
def impl_padded.con : Con := { ps := [(.val, (.int .i64)), (.val, (.int .i64))], rs := [(.val, .str)], F := fun x => impl_padded.f x.1 x.2 }
def impl_padded.cs : List (FuncId × Con) := [(64, (impl_decimal.con (fun a0 => impl_decimal.f a0)))]
def impl_padded.E : Env := envOf tab impl_padded.cs 0 false
def impl_padded.keep (i : Nat) : List Nat := if i = 2 then [1, 5] else []
def impl_padded.at2 (n : Nat) (x : Int × Int) : Code × (Ex → St → Option (ByteArray)) := ctx impl_padded.E impl_padded.keep n [.snd, .snd, .fst, .blk] (codeOf Tryz.f159) (kEnd impl_padded.E Tryz.f159 impl_padded.con x)
def impl_padded.LN2 (n : Nat) (x : Int × Int) : Nat → St → Option (ByteArray) := loopN (exec impl_padded.E impl_padded.keep n (bodyOf (impl_padded.at2 n x).1)) (St.norm 0 (impl_padded.keep 2)) (impl_padded.at2 n x).2
set_option maxRecDepth 100000 in
theorem impl_padded.lem2 (n : Nat) (x : Int × Int) : ∀ (k : Nat) (p : Int) (q : ByteArray), impl_padded.LN2 n x k (impl_padded.st2 p q) = impl_padded.l2 n k p q := by
 intro k
 induction k with
 | zero => intro p q; rfl
 | succ k ih =>
  intro p q
  have h : impl_padded.LN2 n x (k + 1) (impl_padded.st2 p q) = impl_padded.g2 (fun p q => impl_padded.LN2 n x k (impl_padded.st2 p q)) p q := by kernel_rfl
  rw [h]
  simp only [ih]
  rfl
set_option maxRecDepth 100000 in
theorem impl_padded.body (n : Nat) (x : Int × Int) : bodyF impl_padded.E impl_padded.keep n Tryz.f159 impl_padded.con x = impl_padded.fn n x.1 x.2 := by
 have h : bodyF impl_padded.E impl_padded.keep n Tryz.f159 impl_padded.con x = impl_padded.top (fun p q => impl_padded.LN2 n x n (impl_padded.st2 p q)) x.1 x.2 := by kernel_rfl
 rw [h]
 simp only [impl_padded.lem2]
 rfl
set_option maxRecDepth 100000 in
theorem impl_padded.good : Good Tryz.prog 159 impl_padded.con :=
 good_of tabok (cs := impl_padded.cs) ⟨impl_decimal.good, trivial⟩ 0 false (fn := Tryz.f159) Tryz.func159 rfl (by decide) (by simp [impl_padded.con]) impl_padded.keep NN (fun _ => rfl) (fun x => impl_padded.body NN x)
end
end Go.Ev.Tryz

namespace Go.Ev.Tryz
open Go.Proofs Go.Pl
set_option linter.unusedVariables false
noncomputable section
def impl_timeText.con : Con := { ps := [(.val, (.int .i64))], rs := [(.val, .str)], F := fun x => impl_timeText.f x }
def impl_timeText.cs : List (FuncId × Con) := [(64, (impl_decimal.con (fun a0 => impl_decimal.f a0))), (159, impl_padded.con)]
def impl_timeText.E : Env := envOf tab impl_timeText.cs 0 false
def impl_timeText.keep (i : Nat) : List Nat := []
set_option maxRecDepth 100000 in
theorem impl_timeText.body (n : Nat) (x : Int) : bodyF impl_timeText.E impl_timeText.keep n Tryz.f141 impl_timeText.con x = impl_timeText.fn n x := by
 have h : bodyF impl_timeText.E impl_timeText.keep n Tryz.f141 impl_timeText.con x = impl_timeText.top x := by kernel_rfl
 exact h
set_option maxRecDepth 100000 in
theorem impl_timeText.good : Good Tryz.prog 141 impl_timeText.con :=
 good_of tabok (cs := impl_timeText.cs) ⟨impl_decimal.good, impl_padded.good, trivial⟩ 0 false (fn := Tryz.f141) Tryz.func141 rfl (by decide) (by simp [impl_timeText.con]) impl_timeText.keep NN (fun _ => rfl) (fun x => impl_timeText.body NN x)
end
end Go.Ev.Tryz

namespace Go.Ev.Tryz
open Go.Proofs Go.Pl
set_option linter.unusedVariables false
noncomputable section
def impl_TimeText.con : Con := { ps := [(.val, (.int .i64))], rs := [(.val, .str), (.val, (.int .i64))], F := fun x => impl_TimeText.f x }
def impl_TimeText.cs : List (FuncId × Con) := [(84, impl_isTime.con), (141, impl_timeText.con)]
def impl_TimeText.E : Env := envOf tab impl_TimeText.cs 0 false
def impl_TimeText.keep (i : Nat) : List Nat := []
set_option maxRecDepth 100000 in
theorem impl_TimeText.body (n : Nat) (x : Int) : bodyF impl_TimeText.E impl_TimeText.keep n Tryz.f113 impl_TimeText.con x = impl_TimeText.fn n x := by
 have h : bodyF impl_TimeText.E impl_TimeText.keep n Tryz.f113 impl_TimeText.con x = impl_TimeText.top x := by kernel_rfl
 exact h
set_option maxRecDepth 100000 in
theorem impl_TimeText.good : Good Tryz.prog 113 impl_TimeText.con :=
 good_of tabok (cs := impl_TimeText.cs) ⟨impl_isTime.good, impl_timeText.good, trivial⟩ 0 false (fn := Tryz.f113) Tryz.func113 rfl (by decide) (by simp [impl_TimeText.con]) impl_TimeText.keep NN (fun _ => rfl) (fun x => impl_TimeText.body NN x)
end
end Go.Ev.Tryz

namespace Go.Ev.Tryz
open Go.Proofs Go.Pl
set_option linter.unusedVariables false
noncomputable section
def impl_execute.st24 (q : List YA) (r : Int) (s : Int) (d2 : YD × YE × List YA) (c3 : ByteArray × List ByteArray × List Int) (p : List ByteArray) (w4 : List YA) (w5 : List YC) (w6 : List YA) : St := ⟨[.gone, .gone, .ptr 0 [], .ptr 1 [], .ptr 2 [], .gone, .gone, .gone, .gone, .gone, .gone, .gone, .gone, .gone, .gone, .gone, .ref 3, .gone, .gone, .gone, .gone, .gone, .gone, .gone, .gone, .gone, .gone, .gone, .gone, .gone, .gone, .gone, .gone, .gone, .gone, .gone, .gone, .gone, .gone, .gone, .gone, .gone, .gone, .gone, .gone, .gone, .gone, .gone, .gone, .gone, .gone, .gone, .gone, .gone, .gone, .gone, .gone, .gone, .gone, .gone, .gone, .gone, .gone, .gone, .gone, .gone, .gone, .gone, .gone, .gone, .gone, .gone, .gone, .gone, .gone, .gone, .gone, .gone, .gone, .gone, .gone, .gone, .gone, .gone, .gone, .gone, .gone, .gone, .gone, .gone, .gone, .gone, .gone, .gone, .gone, .gone, .gone, .gone, .gone, .gone, .gone, .gone, .gone, .gone, .gone, .gone, .gone, .gone, .gone, .gone, .gone, .gone, .gone, .gone, .gone, .gone, .gone, .gone, .gone, .gone, .gone, .gone, .gone, .gone, .gone, .gone, .gone, .gone, .gone, .gone, .dat (.sl 70 (.pair (.int .i64) (.pair .str (.int .i64)))) q, .dat (.int .i64) r, .dat (.int .i64) s, .gone, .gone, .gone, .gone, .gone, .gone, .gone, .gone, .gone, .gone, .gone, .gone, .gone, .gone, .gone, .gone, .gone, .gone, .gone, .gone, .gone, .gone, .gone, .gone, .gone, .gone, .gone, .gone, .gone, .gone, .gone, .gone, .gone, .gone, .gone, .gone, .gone, .gone, .gone, .gone, .gone, .gone, .gone, .gone, .gone, .gone, .gone, .gone, .gone, .gone, .gone, .gone, .gone, .gone, .gone, .gone, .gone, .gone, .gone, .gone, .gone, .gone, .gone, .gone, .gone, .gone, .gone, .gone, .gone, .gone, .gone, .gone, .gone, .gone, .gone, .gone, .gone, .gone, .gone, .gone, .gone, .gone, .gone, .gone, .gone, .gone, .gone, .gone, .gone, .gone, .gone, .gone, .gone, .gone, .gone, .gone, .gone, .gone, .gone, .gone, .gone, .gone, .gone, .gone, .gone, .gone, .gone, .gone, .gone, .gone, .gone, .gone, .gone, .gone, .gone, .gone, .gone, .gone, .gone, .gone, .gone, .gone, .gone, .gone, .gone, .gone, .gone, .gone, .gone, .gone, .gone, .gone, .gone, .gone, .gone, .gone, .gone, .gone, .gone, .gone, .gone, .gone, .gone, .gone, .gone, .gone, .gone, .gone, .gone, .gone, .gone, .gone, .gone, .gone, .gone, .gone, .gone, .gone, .gone], [.box 35 (.pair (.sl 70 (.pair (.int .i64) (.pair .str (.int .i64)))) (.pair (.sl 72 (.pair (.int .i64) (.int .i64))) (.sl 74 (.pair (.int .i64) (.pair .str (.int .i64)))))) (.dat (.pair (.sl 70 (.pair (.int .i64) (.pair .str (.int .i64)))) (.pair (.sl 72 (.pair (.int .i64) (.int .i64))) (.sl 74 (.pair (.int .i64) (.pair .str (.int .i64)))))) d2), .box 58 (.pair .str (.pair (.sl 9 .str) (.sl 2 (.int .i64)))) (.dat (.pair .str (.pair (.sl 9 .str) (.sl 2 (.int .i64)))) c3), .box 35 (.pair (.sl 70 (.pair (.int .i64) (.pair .str (.int .i64)))) (.pair (.sl 72 (.pair (.int .i64) (.int .i64))) (.sl 74 (.pair (.int .i64) (.pair .str (.int .i64)))))) (.pr (.ref 4) (.pr (.ref 5) (.ref 6))), .row 9 .str p none, .row 70 (.pair (.int .i64) (.pair .str (.int .i64))) w4 none, .row 72 (.pair (.int .i64) (.int .i64)) w5 none, .row 74 (.pair (.int .i64) (.pair .str (.int .i64))) w6 none]⟩
def impl_execute.tr0 (d0 : YD × YE × List YA) (c1 : ByteArray × List ByteArray × List Int) : Option YR :=
 (impl_ControllerAt.f d0.2.1 (c1.2.2.getD (0 : Int).toNat 0)).bind fun r6 =>
 agree (
  (impl_stateWord.f r6.1).bind fun r7 =>
  some (d0, r7, r6.2)
 ) (
  agree (
   (impl_stateWord.f r6.1).bind fun r7 =>
   some (d0, r7, r6.2)
  ) (
   (impl_stateWord.f r6.1).bind fun r7 =>
   some (d0, r7, r6.2)
  )
 )
def impl_execute.tr1 (d0 : YD × YE × List YA) (c1 : ByteArray × List ByteArray × List Int) : Option YR :=
 agree (
  impl_execute.tr0 d0 c1
 ) (
  impl_execute.tr0 d0 c1
 )
def impl_execute.tr2 (d0 : YD × YE × List YA) (c1 : ByteArray × List ByteArray × List Int) : Option YR :=
 agree (
  impl_execute.tr1 d0 c1
 ) (
  impl_execute.tr0 d0 c1
 )
def impl_execute.tr3 (d0 : YD × YE × List YA) (c1 : ByteArray × List ByteArray × List Int) : Option YR :=
 if (0 : Int) ≤ 0 ∧ (0 : Int) < c1.2.2.length then
  impl_execute.tr0 d0 c1
 else
  none
def impl_execute.tr4 (d0 : YD × YE × List YA) (r15 : (Int × Int × Int)) (r16 : ByteArray) : Option YR :=
 (impl_decimal.f r15.2.1).bind fun r17 =>
 if (r16 ++ (⟨#[32]⟩ : ByteArray)).size + r17.size ≤ 9223372036854775807 then
  some (d0, (r16 ++ (⟨#[32]⟩ : ByteArray)) ++ r17, r15.2.2)
 else
  none
def impl_execute.topraw (I24 : YY) (d0 : YD × YE × List YA) (c1 : ByteArray × List ByteArray × List Int) : Option YR :=
 if (c1.1.toList == (⟨#[112, 101, 111, 112, 108, 101]⟩ : ByteArray).toList) = true then
  if (0 : Int) ≤ 0 ∧ (0 : Int) < c1.2.2.length then
   if (0 : Int) ≤ 0 ∧ (0 : Int) < c1.2.1.length then
    if (0 : Int) ≤ 1 ∧ (1 : Int) < c1.2.2.length then
     (impl_AddMove.f d0.1 (c1.2.2.getD (0 : Int).toNat 0, (c1.2.1.getD (0 : Int).toNat ByteArray.empty, c1.2.2.getD (1 : Int).toNat 0))).bind fun r1 =>
     some ((r1.1, d0.2), (⟨#[111, 107]⟩ : ByteArray), r1.2)
    else
     none
   else
    none
  else
   none
 else if (c1.1.toList == (⟨#[99, 108, 101, 97, 114]⟩ : ByteArray).toList) = true then
  if (0 : Int) ≤ 0 ∧ (0 : Int) < c1.2.1.length then
   if (0 : Int) ≤ 0 ∧ (0 : Int) < c1.2.2.length then
    (impl_IsClear.f d0.1 (c1.2.1.getD (0 : Int).toNat ByteArray.empty) (c1.2.2.getD (0 : Int).toNat 0)).bind fun r2 =>
    if r2.1 = true then
     some (d0, (⟨#[121, 101, 115]⟩ : ByteArray), r2.2)
    else
     some (d0, (⟨#[110, 111]⟩ : ByteArray), r2.2)
   else
    none
  else
   none
 else if (c1.1.toList == (⟨#[115, 105, 103, 110, 97, 108]⟩ : ByteArray).toList) = true then
  if (0 : Int) ≤ 0 ∧ (0 : Int) < c1.2.1.length then
   (impl_inputWords.f).bind fun r3 =>
   (impl_wordIndex.f r3 (c1.2.1.getD (0 : Int).toNat ByteArray.empty)).bind fun r4 =>
   if (decide ((r4 : Int) < 0)) = true then
    some (d0, (⟨#[]⟩ : ByteArray), 6)
   else if (0 : Int) ≤ 0 ∧ (0 : Int) < c1.2.2.length then
    (impl_AddSignal.f d0.2.1 (c1.2.2.getD (0 : Int).toNat 0, r4)).bind fun r5 =>
    some ((d0.1, (r5.1, d0.2.2)), (⟨#[111, 107]⟩ : ByteArray), r5.2)
   else
    none
  else
   none
 else if (c1.1.toList == (⟨#[115, 116, 97, 116, 101]⟩ : ByteArray).toList) = true then
  agree (
   agree (
    if (0 : Int) ≤ 0 ∧ (0 : Int) < c1.2.2.length then
     impl_execute.tr2 d0 c1
    else
     none
   ) (
    impl_execute.tr3 d0 c1
   )
  ) (
   agree (
    if (0 : Int) ≤ 0 ∧ (0 : Int) < c1.2.2.length then
     agree (
      impl_execute.tr2 d0 c1
     ) (
      agree (
       impl_execute.tr2 d0 c1
      ) (
       impl_execute.tr1 d0 c1
      )
     )
    else
     none
   ) (
    agree (
     impl_execute.tr3 d0 c1
    ) (
     if (0 : Int) ≤ 0 ∧ (0 : Int) < c1.2.2.length then
      impl_execute.tr1 d0 c1
     else
      none
    )
   )
  )
 else if (c1.1.toList == (⟨#[102, 105, 114, 101]⟩ : ByteArray).toList) = true then
  I24 d0.1 (d0.1.length : Int) 0 d0 c1 [] [] [] []
 else if (c1.1.toList == (⟨#[98, 111, 111, 107]⟩ : ByteArray).toList) = true then
  if (0 : Int) ≤ 0 ∧ (0 : Int) < c1.2.1.length then
   (impl_wordIndex.f ([(⟨#[105, 110]⟩ : ByteArray), (⟨#[102, 105, 114, 101, 100]⟩ : ByteArray), (⟨#[114, 101, 116, 117, 114, 110, 101, 100]⟩ : ByteArray), (⟨#[100, 101, 115, 116, 114, 111, 121, 101, 100]⟩ : ByteArray)]) (c1.2.1.getD (0 : Int).toNat ByteArray.empty)).bind fun r8 =>
   if (decide ((r8 : Int) < 0)) = true then
    some (d0, (⟨#[]⟩ : ByteArray), 6)
   else if (0 : Int) ≤ 1 ∧ (1 : Int) < c1.2.1.length then
    if (0 : Int) ≤ 0 ∧ (0 : Int) < c1.2.2.length then
     (impl_BookPieces.f d0.2.2 (r8, (c1.2.1.getD (1 : Int).toNat ByteArray.empty, c1.2.2.getD (0 : Int).toNat 0))).bind fun r9 =>
     some ((d0.1, (d0.2.1, r9.1)), (⟨#[111, 107]⟩ : ByteArray), r9.2)
    else
     none
   else
    none
  else
   none
 else if (c1.1.toList == (⟨#[108, 101, 102, 116]⟩ : ByteArray).toList) = true then
  if (0 : Int) ≤ 0 ∧ (0 : Int) < c1.2.1.length then
   (impl_PiecesLeft.f d0.2.2 (c1.2.1.getD (0 : Int).toNat ByteArray.empty)).bind fun r10 =>
   agree (
    (impl_decimal.f r10.1).bind fun r11 =>
    some (d0, r11, r10.2)
   ) (
    (impl_decimal.f r10.1).bind fun r11 =>
    some (d0, r11, r10.2)
   )
  else
   none
 else if (c1.1.toList == (⟨#[111, 112, 101, 110]⟩ : ByteArray).toList) = true then
  (impl_openArticles.f d0.2.2).bind fun r12 =>
  if (((r12.length : Int) : Int) == 0) = true then
   some (d0, (⟨#[45]⟩ : ByteArray), 0)
  else
   (impl_joinWith.f r12 (⟨#[44]⟩ : ByteArray)).bind fun r13 =>
   some (d0, r13, 0)
 else if (c1.1.toList == (⟨#[115, 101, 116, 116, 108, 101]⟩ : ByteArray).toList) = true then
  if (0 : Int) ≤ 0 ∧ (0 : Int) < c1.2.2.length then
   (impl_SettleAll.f d0.2.2 (c1.2.2.getD (0 : Int).toNat 0)).bind fun r14 =>
   some ((d0.1, (d0.2.1, r14.1)), (⟨#[111, 107]⟩ : ByteArray), r14.2)
  else
   none
 else if (c1.1.toList == (⟨#[116, 111, 112]⟩ : ByteArray).toList) = true then
  if (0 : Int) ≤ 0 ∧ (0 : Int) < c1.2.2.length then
   (impl_TopOf.f (c1.2.2.getD (0 : Int).toNat 0)).bind fun r15 =>
   agree (
    (impl_decimal.f r15.1).bind fun r16 =>
    if r16.size + (⟨#[32]⟩ : ByteArray).size ≤ 9223372036854775807 then
     impl_execute.tr4 d0 r15 r16
    else
     none
   ) (
    (impl_decimal.f r15.1).bind fun r16 =>
    if r16.size + (⟨#[32]⟩ : ByteArray).size ≤ 9223372036854775807 then
     agree (
      impl_execute.tr4 d0 r15 r16
     ) (
      impl_execute.tr4 d0 r15 r16
     )
    else
     none
   )
  else
   none
 else if (c1.1.toList == (⟨#[110, 101, 101, 100]⟩ : ByteArray).toList) = true then
  if (0 : Int) ≤ 0 ∧ (0 : Int) < c1.2.2.length then
   if (0 : Int) ≤ 1 ∧ (1 : Int) < c1.2.2.length then
    (impl_SeparationFor.f (c1.2.2.getD (0 : Int).toNat 0) (c1.2.2.getD (1 : Int).toNat 0)).bind fun r18 =>
    agree (
     (impl_decimal.f r18.1).bind fun r19 =>
     some (d0, r19, r18.2)
    ) (
     (impl_decimal.f r18.1).bind fun r19 =>
     some (d0, r19, r18.2)
    )
   else
    none
  else
   none
 else if (0 : Int) ≤ 0 ∧ (0 : Int) < c1.2.2.length then
  (impl_TimeText.f (c1.2.2.getD (0 : Int).toNat 0)).bind fun r20 =>
  some (d0, r20.1, r20.2)
 else
  none
theorem impl_execute.topraw_eq (I24 : YY) (d0 : YD × YE × List YA) (c1 : ByteArray × List ByteArray × List Int) : impl_execute.topraw I24 d0 c1 = impl_execute.top I24 d0 c1 := by
 unfold impl_execute.topraw impl_execute.top
 simp only [agree_self, impl_execute.tr0, impl_execute.tr1, impl_execute.tr2, impl_execute.tr3, impl_execute.tr4]
def impl_execute.con : Con := { ps := [(.val, (.pair (.sl 70 (.pair (.int .i64) (.pair .str (.int .i64)))) (.pair (.sl 72 (.pair (.int .i64) (.int .i64))) (.sl 74 (.pair (.int .i64) (.pair .str (.int .i64))))))), (.val, (.pair .str (.pair (.sl 9 .str) (.sl 2 (.int .i64)))))], rs := [(.val, (.pair (.sl 70 (.pair (.int .i64) (.pair .str (.int .i64)))) (.pair (.sl 72 (.pair (.int .i64) (.int .i64))) (.sl 74 (.pair (.int .i64) (.pair .str (.int .i64))))))), (.val, .str), (.val, (.int .i64))], F := fun x => impl_execute.f x.1 x.2 }
def impl_execute.cs : List (FuncId × Con) := [(64, (impl_decimal.con (fun a0 => impl_decimal.f a0))), (97, impl_AddMove.con), (98, impl_IsClear.con), (99, impl_wordIndex.con), (100, impl_inputWords.con), (101, impl_AddSignal.con), (102, impl_ControllerAt.con), (103, impl_stateWord.con), (104, impl_putWord.con), (105, impl_FiredSafely.con), (106, impl_BookPieces.con), (107, impl_PiecesLeft.con), (108, impl_openArticles.con), (109, impl_joinWith.con), (110, impl_SettleAll.con), (111, impl_TopOf.con), (112, impl_SeparationFor.con), (113, impl_TimeText.con)]
def impl_execute.E : Env := envOf tab impl_execute.cs 0 false
def impl_execute.keep (i : Nat) : List Nat := if i = 24 then [2, 3, 4, 16, 130, 131, 132] else []
def impl_execute.at24 (n : Nat) (x : YF × ByteArray × List ByteArray × List Int) : Code × (Ex → St → Option (YR)) := ctx impl_execute.E impl_execute.keep n [.snd, .fst, .snd, .blk, .snd, .no, .snd, .no, .snd, .no, .snd, .no, .snd, .yes, .snd, .fst, .snd, .blk] (codeOf Tryz.f65) (kEnd impl_execute.E Tryz.f65 impl_execute.con x)
def impl_execute.LN24 (n : Nat) (x : YF × ByteArray × List ByteArray × List Int) : Nat → St → Option (YR) := loopN (exec impl_execute.E impl_execute.keep n (bodyOf (impl_execute.at24 n x).1)) (St.norm 0 (impl_execute.keep 24)) (impl_execute.at24 n x).2
set_option maxRecDepth 100000 in
theorem impl_execute.lem24 (n : Nat) (x : YF × ByteArray × List ByteArray × List Int) : ∀ (k : Nat) (q : List YA) (r : Int) (s : Int) (d2 : YD × YE × List YA) (c3 : ByteArray × List ByteArray × List Int) (p : List ByteArray) (w4 : List YA) (w5 : List YC) (w6 : List YA), impl_execute.LN24 n x k (impl_execute.st24 q r s d2 c3 p w4 w5 w6) = impl_execute.l24 n k q r s d2 c3 p w4 w5 w6 := by
 intro k
 induction k with
 | zero => intro q r s d2 c3 p w4 w5 w6; rfl
 | succ k ih =>
  intro q r s d2 c3 p w4 w5 w6
  have h : impl_execute.LN24 n x (k + 1) (impl_execute.st24 q r s d2 c3 p w4 w5 w6) = impl_execute.g24 (fun q r s d2 c3 p w4 w5 w6 => impl_execute.LN24 n x k (impl_execute.st24 q r s d2 c3 p w4 w5 w6)) q r s d2 c3 p w4 w5 w6 := by kernel_rfl
  rw [h]
  simp only [ih]
  rfl
set_option maxRecDepth 100000 in
theorem impl_execute.body (n : Nat) (x : YF × ByteArray × List ByteArray × List Int) : bodyF impl_execute.E impl_execute.keep n Tryz.f65 impl_execute.con x = impl_execute.fn n x.1 x.2 := by
 have h : bodyF impl_execute.E impl_execute.keep n Tryz.f65 impl_execute.con x = impl_execute.topraw (fun q r s d2 c3 p w4 w5 w6 => impl_execute.LN24 n x n (impl_execute.st24 q r s d2 c3 p w4 w5 w6)) x.1 x.2 := by kernel_rfl
 rw [impl_execute.topraw_eq] at h
 rw [h]
 simp only [impl_execute.lem24]
 rfl
set_option maxRecDepth 100000 in
theorem impl_execute.good : Good Tryz.prog 65 impl_execute.con :=
 good_of tabok (cs := impl_execute.cs) ⟨impl_decimal.good, impl_AddMove.good, impl_IsClear.good, impl_wordIndex.good, impl_inputWords.good, impl_AddSignal.good, impl_ControllerAt.good, impl_stateWord.good, impl_putWord.good, impl_FiredSafely.good, impl_BookPieces.good, impl_PiecesLeft.good, impl_openArticles.good, impl_joinWith.good, impl_SettleAll.good, impl_TopOf.good, impl_SeparationFor.good, impl_TimeText.good, trivial⟩ 0 false (fn := Tryz.f65) Tryz.func65 rfl (by decide) (by simp [impl_execute.con]) impl_execute.keep NN (fun _ => rfl) (fun x => impl_execute.body NN x)
end
end Go.Ev.Tryz

namespace Go.Ev.Tryz
open Go.Proofs Go.Pl
set_option linter.unusedVariables false
noncomputable section
def impl_runLines.st11 (v37 : List ByteArray) (v38 : Int) (v39 : Int) (p : List ByteArray) (d7 : YD × YE × List YA) (w3 : List YA) (w4 : List YC) (w5 : List YA) : St := ⟨[.gone, .gone, .gone, .ptr 0 [], .gone, .gone, .ref 1, .ptr 2 [], .gone, .gone, .gone, .gone, .gone, .gone, .gone, .gone, .gone, .gone, .gone, .gone, .gone, .gone, .gone, .gone, .gone, .gone, .gone, .gone, .gone, .gone, .gone, .gone, .gone, .gone, .gone, .gone, .gone, .dat (.sl 9 .str) v37, .dat (.int .i64) v38, .dat (.int .i64) v39, .gone, .gone, .gone, .gone, .gone, .gone, .gone, .gone, .gone, .gone, .gone, .gone, .gone, .gone, .gone, .gone, .gone, .gone, .gone, .gone, .gone, .gone, .gone, .gone, .gone, .gone, .gone, .gone, .gone, .gone, .gone, .gone, .gone, .gone, .gone, .gone, .gone, .gone], [.box 35 (.pair (.sl 70 (.pair (.int .i64) (.pair .str (.int .i64)))) (.pair (.sl 72 (.pair (.int .i64) (.int .i64))) (.sl 74 (.pair (.int .i64) (.pair .str (.int .i64)))))) (.pr (.ref 3) (.pr (.ref 4) (.ref 5))), .row 9 .str p none, .box 35 (.pair (.sl 70 (.pair (.int .i64) (.pair .str (.int .i64)))) (.pair (.sl 72 (.pair (.int .i64) (.int .i64))) (.sl 74 (.pair (.int .i64) (.pair .str (.int .i64)))))) (.dat (.pair (.sl 70 (.pair (.int .i64) (.pair .str (.int .i64)))) (.pair (.sl 72 (.pair (.int .i64) (.int .i64))) (.sl 74 (.pair (.int .i64) (.pair .str (.int .i64)))))) d7), .row 70 (.pair (.int .i64) (.pair .str (.int .i64))) w3 none, .row 72 (.pair (.int .i64) (.int .i64)) w4 none, .row 74 (.pair (.int .i64) (.pair .str (.int .i64))) w5 none]⟩
def impl_runLines.con : Con := { ps := [(.val, .str)], rs := [(.own, (.sl 9 .str)), (.val, (.pair (.sl 70 (.pair (.int .i64) (.pair .str (.int .i64)))) (.pair (.sl 72 (.pair (.int .i64) (.int .i64))) (.sl 74 (.pair (.int .i64) (.pair .str (.int .i64))))))), (.val, (.int .i64))], F := fun x => impl_runLines.f x }
def impl_runLines.cs : List (FuncId × Con) := [(40, impl_commandOf.con), (63, impl_splitAt.con), (64, (impl_decimal.con (fun a0 => impl_decimal.f a0))), (65, impl_execute.con)]
def impl_runLines.E : Env := envOf tab impl_runLines.cs 0 false
def impl_runLines.keep (i : Nat) : List Nat := if i = 11 then [3, 6, 7, 37, 38, 39, 100037, 100007, 200007] else []
def impl_runLines.at11 (n : Nat) (x : ByteArray) : Code × (Ex → St → Option (YAF)) := ctx impl_runLines.E impl_runLines.keep n [.snd, .snd, .snd, .snd, .snd, .snd, .snd, .fst, .snd, .blk] (codeOf Tryz.f33) (kEnd impl_runLines.E Tryz.f33 impl_runLines.con x)
def impl_runLines.LN11 (n : Nat) (x : ByteArray) : Nat → St → Option (YAF) := loopN (exec impl_runLines.E impl_runLines.keep n (bodyOf (impl_runLines.at11 n x).1)) (St.norm 0 (impl_runLines.keep 11)) (impl_runLines.at11 n x).2
set_option maxRecDepth 100000 in
theorem impl_runLines.lem11 (n : Nat) (x : ByteArray) : ∀ (k : Nat) (v37 : List ByteArray) (v38 : Int) (v39 : Int) (p : List ByteArray) (d7 : YD × YE × List YA) (w3 : List YA) (w4 : List YC) (w5 : List YA), impl_runLines.LN11 n x k (impl_runLines.st11 v37 v38 v39 p d7 w3 w4 w5) = impl_runLines.l11 n k v37 v38 v39 p d7 w3 w4 w5 := by
 intro k
 induction k with
 | zero => intro v37 v38 v39 p d7 w3 w4 w5; rfl
 | succ k ih =>
  intro v37 v38 v39 p d7 w3 w4 w5
  have h : impl_runLines.LN11 n x (k + 1) (impl_runLines.st11 v37 v38 v39 p d7 w3 w4 w5) = impl_runLines.g11 (fun v37 v38 v39 p d7 w3 w4 w5 => impl_runLines.LN11 n x k (impl_runLines.st11 v37 v38 v39 p d7 w3 w4 w5)) v37 v38 v39 p d7 w3 w4 w5 := by kernel_rfl
  rw [h]
  simp only [ih]
  rfl
set_option maxRecDepth 100000 in
theorem impl_runLines.body (n : Nat) (x : ByteArray) : bodyF impl_runLines.E impl_runLines.keep n Tryz.f33 impl_runLines.con x = impl_runLines.fn n x := by
 have h : bodyF impl_runLines.E impl_runLines.keep n Tryz.f33 impl_runLines.con x = impl_runLines.top (fun v37 v38 v39 p d7 w3 w4 w5 => impl_runLines.LN11 n x n (impl_runLines.st11 v37 v38 v39 p d7 w3 w4 w5)) x := by kernel_rfl
 rw [h]
 simp only [impl_runLines.lem11]
 rfl
set_option maxRecDepth 100000 in
theorem impl_runLines.good : Good Tryz.prog 33 impl_runLines.con :=
 good_of tabok (cs := impl_runLines.cs) ⟨impl_commandOf.good, impl_splitAt.good, impl_decimal.good, impl_execute.good, trivial⟩ 0 false (fn := Tryz.f33) Tryz.func33 rfl (by decide) (by simp [impl_runLines.con]) impl_runLines.keep NN (fun _ => rfl) (fun x => impl_runLines.body NN x)
end
end Go.Ev.Tryz

namespace Go.Ev.Tryz
open Go.Proofs Go.Pl
set_option linter.unusedVariables false
noncomputable section
def impl_RunConsole.con : Con := { ps := [(.val, .str)], rs := [(.own, (.sl 9 .str)), (.val, (.int .i64))], F := fun x => impl_RunConsole.f x }
def impl_RunConsole.cs : List (FuncId × Con) := [(33, impl_runLines.con)]
def impl_RunConsole.E : Env := envOf tab impl_RunConsole.cs 0 false
def impl_RunConsole.keep (i : Nat) : List Nat := []
set_option maxRecDepth 100000 in
theorem impl_RunConsole.body (n : Nat) (x : ByteArray) : bodyF impl_RunConsole.E impl_RunConsole.keep n Tryz.f8 impl_RunConsole.con x = impl_RunConsole.fn n x := by
 have h : bodyF impl_RunConsole.E impl_RunConsole.keep n Tryz.f8 impl_RunConsole.con x = impl_RunConsole.top x := by kernel_rfl
 exact h
set_option maxRecDepth 100000 in
theorem impl_RunConsole.good : Good Tryz.prog 8 impl_RunConsole.con :=
 good_of tabok (cs := impl_RunConsole.cs) ⟨impl_runLines.good, trivial⟩ 0 false (fn := Tryz.f8) Tryz.func8 rfl (by decide) (by simp [impl_RunConsole.con]) impl_RunConsole.keep NN (fun _ => rfl) (fun x => impl_RunConsole.body NN x)
end
end Go.Ev.Tryz

namespace Go.Ev.Tryz
open Go.Proofs Go.Pl
set_option linter.unusedVariables false
noncomputable section
def laws_eqStringS.st4 (a0 : List ByteArray) (b1 : List ByteArray) (i5 : Int) : St := ⟨[.dat (.sl 9 .str) a0, .dat (.sl 9 .str) b1, .gone, .gone, .gone, .dat (.int .i64) i5, .gone, .gone, .gone, .gone, .gone, .gone, .gone, .gone, .gone, .gone, .gone, .gone, .gone, .gone, .gone, .gone, .gone, .gone, .gone, .gone], []⟩
def laws_eqStringS.con : Con := { ps := [(.val, (.sl 9 .str)), (.val, (.sl 9 .str))], rs := [(.val, .bool)], F := fun x => laws_eqStringS.f x.1 x.2 }
def laws_eqStringS.cs : List (FuncId × Con) := []
def laws_eqStringS.E : Env := envOf tab laws_eqStringS.cs 0 false
def laws_eqStringS.keep (i : Nat) : List Nat := if i = 4 then [0, 1, 5] else []
def laws_eqStringS.at4 (n : Nat) (x : List ByteArray × List ByteArray) : Code × (Ex → St → Option (Bool)) := ctx laws_eqStringS.E laws_eqStringS.keep n [.snd, .snd, .fst, .snd, .blk] (codeOf Tryz.f9) (kEnd laws_eqStringS.E Tryz.f9 laws_eqStringS.con x)
def laws_eqStringS.LN4 (n : Nat) (x : List ByteArray × List ByteArray) : Nat → St → Option (Bool) := loopN (exec laws_eqStringS.E laws_eqStringS.keep n (bodyOf (laws_eqStringS.at4 n x).1)) (St.norm 0 (laws_eqStringS.keep 4)) (laws_eqStringS.at4 n x).2
set_option maxRecDepth 100000 in
theorem laws_eqStringS.lem4 (n : Nat) (x : List ByteArray × List ByteArray) : ∀ (k : Nat) (a0 : List ByteArray) (b1 : List ByteArray) (i5 : Int), laws_eqStringS.LN4 n x k (laws_eqStringS.st4 a0 b1 i5) = laws_eqStringS.l4 n k a0 b1 i5 := by
 intro k
 induction k with
 | zero => intro a0 b1 i5; rfl
 | succ k ih =>
  intro a0 b1 i5
  have h : laws_eqStringS.LN4 n x (k + 1) (laws_eqStringS.st4 a0 b1 i5) = laws_eqStringS.g4 (fun a0 b1 i5 => laws_eqStringS.LN4 n x k (laws_eqStringS.st4 a0 b1 i5)) a0 b1 i5 := by kernel_rfl
  rw [h]
  simp only [ih]
  rfl
set_option maxRecDepth 100000 in
theorem laws_eqStringS.body (n : Nat) (x : List ByteArray × List ByteArray) : bodyF laws_eqStringS.E laws_eqStringS.keep n Tryz.f9 laws_eqStringS.con x = laws_eqStringS.fn n x.1 x.2 := by
 have h : bodyF laws_eqStringS.E laws_eqStringS.keep n Tryz.f9 laws_eqStringS.con x = laws_eqStringS.top (fun a0 b1 i5 => laws_eqStringS.LN4 n x n (laws_eqStringS.st4 a0 b1 i5)) x.1 x.2 := by kernel_rfl
 rw [h]
 simp only [laws_eqStringS.lem4]
 rfl
set_option maxRecDepth 100000 in
theorem laws_eqStringS.good : Good Tryz.prog 9 laws_eqStringS.con :=
 good_of tabok (cs := laws_eqStringS.cs) trivial 0 false (fn := Tryz.f9) Tryz.func9 rfl (by decide) (by simp [laws_eqStringS.con]) laws_eqStringS.keep NN (fun _ => rfl) (fun x => laws_eqStringS.body NN x)
end
end Go.Ev.Tryz

namespace Go.Ev.Tryz
open Go.Proofs Go.Pl
set_option linter.unusedVariables false
noncomputable section
def laws_markText.st4 (k0 : Int) (p : ByteArray) : St := ⟨[.dat (.int .i64) k0, .gone, .gone, .dat .str p, .gone, .gone, .gone, .gone, .gone, .gone, .gone, .gone, .gone, .gone, .gone, .gone, .gone, .gone, .gone, .gone], []⟩
def laws_markText.con : Con := { ps := [(.val, (.int .i64))], rs := [(.val, .str)], F := fun x => laws_markText.f x }
def laws_markText.cs : List (FuncId × Con) := []
def laws_markText.E : Env := envOf tab laws_markText.cs 0 false
def laws_markText.keep (i : Nat) : List Nat := if i = 4 then [0, 3] else []
def laws_markText.at4 (n : Nat) (x : Int) : Code × (Ex → St → Option (ByteArray)) := ctx laws_markText.E laws_markText.keep n [.snd, .snd, .snd, .fst, .blk] (codeOf Tryz.f34) (kEnd laws_markText.E Tryz.f34 laws_markText.con x)
def laws_markText.LN4 (n : Nat) (x : Int) : Nat → St → Option (ByteArray) := loopN (exec laws_markText.E laws_markText.keep n (bodyOf (laws_markText.at4 n x).1)) (St.norm 0 (laws_markText.keep 4)) (laws_markText.at4 n x).2
set_option maxRecDepth 100000 in
theorem laws_markText.lem4 (n : Nat) (x : Int) : ∀ (k : Nat) (k0 : Int) (p : ByteArray), laws_markText.LN4 n x k (laws_markText.st4 k0 p) = laws_markText.l4 n k k0 p := by
 intro k
 induction k with
 | zero => intro k0 p; rfl
 | succ k ih =>
  intro k0 p
  have h : laws_markText.LN4 n x (k + 1) (laws_markText.st4 k0 p) = laws_markText.g4 (fun k0 p => laws_markText.LN4 n x k (laws_markText.st4 k0 p)) k0 p := by kernel_rfl
  rw [h]
  simp only [ih]
  rfl
set_option maxRecDepth 100000 in
theorem laws_markText.body (n : Nat) (x : Int) : bodyF laws_markText.E laws_markText.keep n Tryz.f34 laws_markText.con x = laws_markText.fn n x := by
 have h : bodyF laws_markText.E laws_markText.keep n Tryz.f34 laws_markText.con x = laws_markText.top (fun k0 p => laws_markText.LN4 n x n (laws_markText.st4 k0 p)) x := by kernel_rfl
 rw [h]
 simp only [laws_markText.lem4]
 rfl
set_option maxRecDepth 100000 in
theorem laws_markText.good : Good Tryz.prog 34 laws_markText.con :=
 good_of tabok (cs := laws_markText.cs) trivial 0 false (fn := Tryz.f34) Tryz.func34 rfl (by decide) (by simp [laws_markText.con]) laws_markText.keep NN (fun _ => rfl) (fun x => laws_markText.body NN x)
end
end Go.Ev.Tryz

namespace Go.Ev.Tryz
open Go.Proofs Go.Pl
set_option linter.unusedVariables false
noncomputable section
def laws_markStringS.st2 (k1 : Int) (i5 : Int) (a0 : List ByteArray) : St := ⟨[.ref 0, .dat (.int .i64) k1, .gone, .gone, .gone, .dat (.int .i64) i5, .gone, .gone, .gone, .gone, .gone, .gone, .gone, .gone, .gone, .gone, .gone, .gone, .gone, .gone], [.row 9 .str a0 none]⟩
def laws_markStringS.con : Con := { ps := [(.own, (.sl 9 .str)), (.val, (.int .i64))], rs := [(.val, (.int .i64))], F := fun x => laws_markStringS.f x.1 x.2 }
def laws_markStringS.cs : List (FuncId × Con) := [(34, laws_markText.con)]
def laws_markStringS.E : Env := envOf tab laws_markStringS.cs 1 false
def laws_markStringS.keep (i : Nat) : List Nat := if i = 2 then [0, 1, 5] else []
def laws_markStringS.at2 (n : Nat) (x : List ByteArray × Int) : Code × (Ex → St → Option (YAM)) := ctx laws_markStringS.E laws_markStringS.keep n [.snd, .fst, .snd, .blk] (codeOf Tryz.f10) (kEnd laws_markStringS.E Tryz.f10 laws_markStringS.con x)
def laws_markStringS.LN2 (n : Nat) (x : List ByteArray × Int) : Nat → St → Option (YAM) := loopN (exec laws_markStringS.E laws_markStringS.keep n (bodyOf (laws_markStringS.at2 n x).1)) (St.norm 1 (laws_markStringS.keep 2)) (laws_markStringS.at2 n x).2
set_option maxRecDepth 100000 in
theorem laws_markStringS.lem2 (n : Nat) (x : List ByteArray × Int) : ∀ (k : Nat) (k1 : Int) (i5 : Int) (a0 : List ByteArray), laws_markStringS.LN2 n x k (laws_markStringS.st2 k1 i5 a0) = laws_markStringS.l2 n k k1 i5 a0 := by
 intro k
 induction k with
 | zero => intro k1 i5 a0; rfl
 | succ k ih =>
  intro k1 i5 a0
  have h : laws_markStringS.LN2 n x (k + 1) (laws_markStringS.st2 k1 i5 a0) = laws_markStringS.g2 (fun k1 i5 a0 => laws_markStringS.LN2 n x k (laws_markStringS.st2 k1 i5 a0)) k1 i5 a0 := by kernel_rfl
  rw [h]
  simp only [ih]
  rfl
set_option maxRecDepth 100000 in
theorem laws_markStringS.body (n : Nat) (x : List ByteArray × Int) : bodyF laws_markStringS.E laws_markStringS.keep n Tryz.f10 laws_markStringS.con x = laws_markStringS.fn n x.1 x.2 := by
 have h : bodyF laws_markStringS.E laws_markStringS.keep n Tryz.f10 laws_markStringS.con x = laws_markStringS.top (fun k1 i5 a0 => laws_markStringS.LN2 n x n (laws_markStringS.st2 k1 i5 a0)) x.1 x.2 := by kernel_rfl
 rw [h]
 simp only [laws_markStringS.lem2]
 rfl
set_option maxRecDepth 100000 in
theorem laws_markStringS.good : Good Tryz.prog 10 laws_markStringS.con :=
 good_of tabok (cs := laws_markStringS.cs) ⟨laws_markText.good, trivial⟩ 1 false (fn := Tryz.f10) Tryz.func10 rfl (by decide) (by simp [laws_markStringS.con]) laws_markStringS.keep NN (fun _ => rfl) (fun x => laws_markStringS.body NN x)
end
end Go.Ev.Tryz

namespace Go.Ev.Tryz
open Go.Proofs Go.Pl
set_option linter.unusedVariables false
noncomputable section
def laws_heldStringS.st2 (a0 : List ByteArray) (k1 : Int) (i5 : Int) : St := ⟨[.dat (.sl 9 .str) a0, .dat (.int .i64) k1, .gone, .gone, .gone, .dat (.int .i64) i5, .gone, .gone, .gone, .gone, .gone, .gone, .gone, .gone, .gone, .gone, .gone, .gone, .gone, .gone, .gone, .gone], []⟩
def laws_heldStringS.con : Con := { ps := [(.val, (.sl 9 .str)), (.val, (.int .i64))], rs := [(.val, (.int .i64))], F := fun x => laws_heldStringS.f x.1 x.2 }
def laws_heldStringS.cs : List (FuncId × Con) := [(34, laws_markText.con)]
def laws_heldStringS.E : Env := envOf tab laws_heldStringS.cs 0 false
def laws_heldStringS.keep (i : Nat) : List Nat := if i = 2 then [0, 1, 5] else []
def laws_heldStringS.at2 (n : Nat) (x : List ByteArray × Int) : Code × (Ex → St → Option (Int)) := ctx laws_heldStringS.E laws_heldStringS.keep n [.snd, .fst, .snd, .blk] (codeOf Tryz.f11) (kEnd laws_heldStringS.E Tryz.f11 laws_heldStringS.con x)
def laws_heldStringS.LN2 (n : Nat) (x : List ByteArray × Int) : Nat → St → Option (Int) := loopN (exec laws_heldStringS.E laws_heldStringS.keep n (bodyOf (laws_heldStringS.at2 n x).1)) (St.norm 0 (laws_heldStringS.keep 2)) (laws_heldStringS.at2 n x).2
set_option maxRecDepth 100000 in
theorem laws_heldStringS.lem2 (n : Nat) (x : List ByteArray × Int) : ∀ (k : Nat) (a0 : List ByteArray) (k1 : Int) (i5 : Int), laws_heldStringS.LN2 n x k (laws_heldStringS.st2 a0 k1 i5) = laws_heldStringS.l2 n k a0 k1 i5 := by
 intro k
 induction k with
 | zero => intro a0 k1 i5; rfl
 | succ k ih =>
  intro a0 k1 i5
  have h : laws_heldStringS.LN2 n x (k + 1) (laws_heldStringS.st2 a0 k1 i5) = laws_heldStringS.g2 (fun a0 k1 i5 => laws_heldStringS.LN2 n x k (laws_heldStringS.st2 a0 k1 i5)) a0 k1 i5 := by kernel_rfl
  rw [h]
  simp only [ih]
  rfl
set_option maxRecDepth 100000 in
theorem laws_heldStringS.body (n : Nat) (x : List ByteArray × Int) : bodyF laws_heldStringS.E laws_heldStringS.keep n Tryz.f11 laws_heldStringS.con x = laws_heldStringS.fn n x.1 x.2 := by
 have h : bodyF laws_heldStringS.E laws_heldStringS.keep n Tryz.f11 laws_heldStringS.con x = laws_heldStringS.top (fun a0 k1 i5 => laws_heldStringS.LN2 n x n (laws_heldStringS.st2 a0 k1 i5)) x.1 x.2 := by kernel_rfl
 rw [h]
 simp only [laws_heldStringS.lem2]
 rfl
set_option maxRecDepth 100000 in
theorem laws_heldStringS.good : Good Tryz.prog 11 laws_heldStringS.con :=
 good_of tabok (cs := laws_heldStringS.cs) ⟨laws_markText.good, trivial⟩ 0 false (fn := Tryz.f11) Tryz.func11 rfl (by decide) (by simp [laws_heldStringS.con]) laws_heldStringS.keep NN (fun _ => rfl) (fun x => laws_heldStringS.body NN x)
end
end Go.Ev.Tryz

namespace Go.Ev.Tryz
open Go.Proofs Go.Pl
set_option linter.unusedVariables false
noncomputable section
def laws_FnExactRunConsole.con : Con := { ps := [(.val, .str)], rs := [(.val, .bool)], F := fun x => laws_FnExactRunConsole.f x }
def laws_FnExactRunConsole.cs : List (FuncId × Con) := [(7, spec_RunConsole.con), (8, impl_RunConsole.con), (9, laws_eqStringS.con), (10, laws_markStringS.con), (11, laws_heldStringS.con)]
def laws_FnExactRunConsole.E : Env := envOf tab laws_FnExactRunConsole.cs 0 false
def laws_FnExactRunConsole.keep (i : Nat) : List Nat := []
set_option maxRecDepth 100000 in
theorem laws_FnExactRunConsole.body (n : Nat) (x : ByteArray) : bodyF laws_FnExactRunConsole.E laws_FnExactRunConsole.keep n Tryz.f3 laws_FnExactRunConsole.con x = laws_FnExactRunConsole.fn n x := by
 have h : bodyF laws_FnExactRunConsole.E laws_FnExactRunConsole.keep n Tryz.f3 laws_FnExactRunConsole.con x = laws_FnExactRunConsole.top x := by kernel_rfl
 exact h
set_option maxRecDepth 100000 in
theorem laws_FnExactRunConsole.good : Good Tryz.prog 3 laws_FnExactRunConsole.con :=
 good_of tabok (cs := laws_FnExactRunConsole.cs) ⟨spec_RunConsole.good, impl_RunConsole.good, laws_eqStringS.good, laws_markStringS.good, laws_heldStringS.good, trivial⟩ 0 false (fn := Tryz.f3) Tryz.func3 rfl (by decide) (by simp [laws_FnExactRunConsole.con]) laws_FnExactRunConsole.keep NN (fun _ => rfl) (fun x => laws_FnExactRunConsole.body NN x)
end
end Go.Ev.Tryz

namespace Go.Pl
open Go.Ev
set_option linter.unusedVariables false
set_option linter.unusedSimpArgs false
def OkBooking (x : Int × ByteArray × Int) : Prop := Rg .i64 x.1 ∧ Sm x.2.1 ∧ Rg .i64 x.2.2
end Go.Pl

namespace Go.Pl
open Go.Ev
set_option linter.unusedVariables false
set_option linter.unusedSimpArgs false
theorem laws_eqStringS_self (a : List ByteArray) (hl : a.length ≤ 140737488355328) : laws_eqStringS.f a a = some true := by
  unfold laws_eqStringS.f laws_eqStringS.fn laws_eqStringS.top
  simp only [bne_self_eq_false, Bool.false_eq_true, if_false]
  refine eqS_loop (E := fun _ => True) (fun k a b i => laws_eqStringS.l4 NN k a b i) a (fun _ _ => trivial) ?_ ?_ NN (NN_lt (by omega))
  · intro k p x r hx ha
    subst ha
    show laws_eqStringS.g4 (laws_eqStringS.l4 NN k) (p ++ x :: r) (p ++ x :: r) p.length = _
    unfold laws_eqStringS.g4
    have hm := mid_len p r x
    have c1 : (p.length : Int) < ((p ++ x :: r).length : Int) := by omega
    have c0 : (0 : Int) ≤ (p.length : Int) := by omega
    have cw := w64 (n := (p.length : Int) + 1) (by omega) (by omega)
    simp only [c0, c1, and_self, decide_true, if_true, mid_get, beq_self_eq_true, bne_self_eq_false, Option.bind_some, cw, Bool.not_true, Bool.false_eq_true, if_false]
  · intro k
    show laws_eqStringS.g4 (laws_eqStringS.l4 NN k) a a a.length = _
    unfold laws_eqStringS.g4
    simp
end Go.Pl

namespace Go.Pl
open Go.Ev
set_option linter.unusedVariables false
set_option linter.unusedSimpArgs false
theorem markText_some (n : Int) (h0 : 0 ≤ n) (h1 : n ≤ 100000000000000) : ∃ t, laws_markText.f n = some t := by
  have key : ∀ (m : Nat) (n : Int) (out : ByteArray) (k : Nat), 0 ≤ n → n ≤ m → (out.size : Int) + n ≤ 1000000000000000 → m < k → ∃ t, laws_markText.l4 NN k n out = some t := by
    intro m
    induction m with
    | zero =>
      intro n out k h0 h1 h2 hk
      obtain ⟨k, rfl⟩ : ∃ j, k = j + 1 := ⟨k - 1, by omega⟩
      obtain rfl : n = 0 := by omega
      have z : (⟨#[109]⟩ : ByteArray).size = 1 := rfl
      exact ⟨_, by
        simp only [laws_markText.l4, laws_markText.g4]
        rw [if_neg (by simp), if_pos (by omega)]⟩
    | succ m ih =>
      intro n out k h0 h1 h2 hk
      obtain ⟨k, rfl⟩ : ∃ j, k = j + 1 := ⟨k - 1, by omega⟩
      by_cases hn : 0 < n
      · have z : (bytesOf [IntKind.u8.wrap (IntKind.i64.wrap (48 + n.tmod 10))]).size = 1 := rfl
        have hd : n.tdiv 10 = n / 10 := Int.tdiv_eq_ediv_of_nonneg h0
        have hw := w64 (n := n.tdiv 10) (by omega) (by omega)
        obtain ⟨t, ht⟩ := ih (n.tdiv 10) (bytesOf [IntKind.u8.wrap (IntKind.i64.wrap (48 + n.tmod 10))] ++ out) k (by omega) (by omega) (by rw [ByteArray.size_append, z]; omega) (by omega)
        refine ⟨t, ?_⟩
        simp only [laws_markText.l4, laws_markText.g4]
        rw [if_pos (by simpa using hn), if_pos (by omega), hw]
        exact ht
      · have z : (⟨#[109]⟩ : ByteArray).size = 1 := rfl
        exact ⟨_, by
          simp only [laws_markText.l4, laws_markText.g4]
          rw [if_neg (by simpa using hn), if_pos (by omega)]⟩
  unfold laws_markText.f laws_markText.fn laws_markText.top
  by_cases hn : n ≤ 0
  · exact ⟨_, by rw [if_pos (by simpa using hn)]⟩
  · rw [if_neg (by simpa using hn)]
    exact key n.toNat n ⟨#[]⟩ NN h0 (by omega) (by rw [show (⟨#[]⟩ : ByteArray).size = 0 from rfl]; omega) (NN_lt (by omega))
end Go.Pl

namespace Go.Pl
open Go.Ev
set_option linter.unusedVariables false
set_option linter.unusedSimpArgs false
theorem laws_markStringS_ok (a : List ByteArray) (ha : Lm Sm a) (n : Int) (h0 : 0 ≤ n) (h1 : n ≤ 1000000000000) : ∃ n' a', laws_markStringS.f a n = some (n', a') ∧ laws_heldStringS.f a' n = some n' ∧ n ≤ n' ∧ n' ≤ n + 1000000 := by
  have := mark_held (Q := Sm) (fun k a n i => laws_markStringS.l2 NN k n i a) (fun k a n i => laws_heldStringS.l2 NN k a n i) 1 2000000000000 ?_ ?_ ?_ a ha n h0 (by omega) NN NN (NN_lt (by omega)) (NN_lt (by omega))
  · obtain ⟨n1, a1, e1, e2, e3, e4⟩ := this
    exact ⟨n1, a1, e1, e2, e3, by omega⟩
  · intro k p n
    show laws_markStringS.g2 (laws_markStringS.l2 NN k) n p.length p = _
    unfold laws_markStringS.g2
    simp
  · intro k p n
    show laws_heldStringS.g2 (laws_heldStringS.l2 NN k) p n p.length = _
    unfold laws_heldStringS.g2
    simp
  · intro x hx n n0 n1
    obtain ⟨t0, ht0⟩ := markText_some n (by omega) (by omega)
    have wk : ∀ i : Int, 0 ≤ i → i ≤ 3000000000000 → IntKind.i64.wrap i = i := fun i h h2 => w64 (by omega) (by omega)
    refine ⟨t0, (n + 1), by omega, by omega, fun k p r hb => ?_, fun k p r hb => ?_⟩
    · show laws_markStringS.g2 (laws_markStringS.l2 NN k) n p.length (p ++ x :: r) = _
      unfold laws_markStringS.g2
      have c1 : ∀ y, (p.length : Int) < ((p ++ y :: r).length : Int) := fun y => by have := mid_len p r y; omega
      have c0 : (0 : Int) ≤ (p.length : Int) := by omega
      have cw := w64 (n := (p.length : Int) + 1) (by omega) (by omega)
      have q0 := wk (n + 1) (by omega) (by omega)
      have u0 := wk n (by omega) (by omega)
      simp only [c0, c1, and_self, decide_true, if_true, mid_get, mid_set, cw, Option.bind_some, bne_self_eq_false, beq_self_eq_true, Bool.not_true, Bool.false_eq_true, if_false, ht0, q0, u0]
    · show laws_heldStringS.g2 (laws_heldStringS.l2 NN k) (p ++ t0 :: r) n p.length = _
      unfold laws_heldStringS.g2
      have c1 : ∀ y, (p.length : Int) < ((p ++ y :: r).length : Int) := fun y => by have := mid_len p r y; omega
      have c0 : (0 : Int) ≤ (p.length : Int) := by omega
      have cw := w64 (n := (p.length : Int) + 1) (by omega) (by omega)
      have q0 := wk (n + 1) (by omega) (by omega)
      have u0 := wk n (by omega) (by omega)
      simp only [c0, c1, and_self, decide_true, if_true, mid_get, mid_set, cw, Option.bind_some, bne_self_eq_false, beq_self_eq_true, Bool.not_true, Bool.false_eq_true, if_false, ht0, q0, u0]
end Go.Pl

namespace Go.Pl
open Go.Ev
set_option linter.unusedVariables false
set_option linter.unusedSimpArgs false
def digs (n : Nat) : List UInt8 := if h : n < 10 then [UInt8.ofNat (48 + n)] else digs (n / 10) ++ [UInt8.ofNat (48 + n % 10)]
  termination_by n
  decreasing_by omega
theorem digs_small {n : Nat} (h : n < 10) : digs n = [UInt8.ofNat (48 + n)] := by rw [digs, dif_pos h]
theorem digs_big {n : Nat} (h : ¬ n < 10) : digs n = digs (n / 10) ++ [UInt8.ofNat (48 + n % 10)] := by rw [digs, dif_neg h]
theorem digs_len : ∀ (d n : Nat), n < 10 ^ (d + 1) → (digs n).length ≤ d + 1 ∧ 1 ≤ (digs n).length := by
  intro d
  induction d with
  | zero => intro n hn; rw [digs_small (by simpa using hn)]; simp
  | succ d ih =>
    intro n hn
    by_cases h : n < 10
    · rw [digs_small h]; simp
    · rw [digs_big h]
      have := ih (n / 10) (by rw [Nat.pow_succ] at hn; omega)
      simp; omega
def decB (n : Int) : ByteArray := ob (if n < 0 then 45 :: digs (-n).toNat else digs n.toNat)
theorem decB_nat (n : Nat) : decB (n : Int) = ob (digs n) := by unfold decB; rw [if_neg (by omega), Int.toNat_natCast]
theorem bytesOf_dig {x : Nat} (h : x < 10) : bytesOf [IntKind.u8.wrap (IntKind.i64.wrap (48 + (x : Int)))] = ob [UInt8.ofNat (48 + x)] := by
  rw [w64 (n := 48 + (x : Int)) (by omega) (by omega), w8 (by omega) (by omega), bytesOf_ob]
  simp only [List.map_cons, List.map_nil]
  rfl
theorem tmod10 (x : Nat) : Int.tmod (x : Int) 10 = ((x % 10 : Nat) : Int) := (Int.ofNat_tmod x 10).symm
theorem tdiv10 (x : Nat) : Int.tdiv (x : Int) 10 = ((x / 10 : Nat) : Int) := (Int.ofNat_tdiv x 10).symm
theorem p19 : (10 : Nat) ^ (18 + 1) = 10000000000000000000 := by decide
theorem impl_decimal_l (S : Int → Option ByteArray) : ∀ (d n : Nat), n < 10 ^ (d + 1) → n ≤ 1000000000000000000 → ∀ (acc : List UInt8) (k : Nat), acc.length + d ≤ 1000 → d < k → impl_decimal.l4 S NN k (n : Int) (ob acc) = some (ob (digs n ++ acc)) := by
  intro d
  induction d with
  | zero =>
    intro n hn _ acc k ha hk
    obtain ⟨k, rfl⟩ : ∃ j, k = j + 1 := ⟨k - 1, by omega⟩
    have hn' : n < 10 := by simpa using hn
    have e0 : (ob [UInt8.ofNat (48 + n % 10)]).size + (ob acc).size ≤ 9223372036854775807 := by rw [ob_size, ob_size]; simp; omega
    have ew := w64 (n := ((n / 10 : Nat) : Int)) (by omega) (by omega)
    have ez : (((n / 10 : Nat) : Int) == 0) = true := by rw [beq_iff_eq]; omega
    simp only [impl_decimal.l4, impl_decimal.g4, tdiv10, tmod10, bytesOf_dig (show n % 10 < 10 by omega), e0, ew, ez, if_true, ob_append]
    rw [digs_small hn', Nat.mod_eq_of_lt hn']
  | succ d ih =>
    intro n hn hm acc k ha hk
    obtain ⟨k, rfl⟩ : ∃ j, k = j + 1 := ⟨k - 1, by omega⟩
    have e0 : (ob [UInt8.ofNat (48 + n % 10)]).size + (ob acc).size ≤ 9223372036854775807 := by rw [ob_size, ob_size]; simp; omega
    have ew := w64 (n := ((n / 10 : Nat) : Int)) (by omega) (by omega)
    simp only [impl_decimal.l4, impl_decimal.g4, tdiv10, tmod10, bytesOf_dig (show n % 10 < 10 by omega), e0, ew, if_true, ob_append]
    by_cases h : n < 10
    · have ez : (((n / 10 : Nat) : Int) == 0) = true := by rw [beq_iff_eq]; omega
      rw [if_pos ez, digs_small h, Nat.mod_eq_of_lt h]
    · have ez : ¬ (((n / 10 : Nat) : Int) == 0) = true := by rw [beq_iff_eq]; omega
      have hn' : n / 10 < 10 ^ (d + 1) := by rw [Nat.pow_succ] at hn; omega
      rw [if_neg ez, ih (n / 10) hn' (by omega) _ k (by simp; omega) (by omega), digs_big h, List.append_assoc]
theorem impl_decimal_fn (S : Int → Option ByteArray) (m : Nat) (h : m ≤ 1000000000000000000) : impl_decimal.fn S NN m = some (decB m) := by
  unfold impl_decimal.fn impl_decimal.top
  have hl := impl_decimal_l S 18 m (by rw [p19]; omega) h [] NN (by simp) (NN_lt (by omega))
  rw [List.append_nil] at hl
  have hn : ¬ (m : Int) < 0 := by omega
  simp only [hn, decide_false, Bool.false_eq_true, if_false]
  rw [decB_nat]; exact hl
theorem NN_succ2 : ∃ j, NN = j + 1 + 1 := ⟨NN - 2, by have := NNb; omega⟩
theorem impl_decimal_f {n : Int} (h0 : -1000000000000000000 ≤ n) (h : n ≤ 1000000000000000000) : impl_decimal.f n = some (decB n) := by
  unfold impl_decimal.f
  obtain ⟨k, hk⟩ := NN_succ2
  rw [hk]
  show impl_decimal.fn (impl_decimal.rc (k + 1)) NN n = some (decB n)
  by_cases hn : 0 ≤ n
  · obtain ⟨m, rfl⟩ : ∃ m : Nat, n = m := ⟨n.toNat, by omega⟩
    exact impl_decimal_fn _ m (by omega)
  · obtain ⟨m, hm⟩ : ∃ m : Nat, -n = m := ⟨(-n).toNat, by omega⟩
    have hl := digs_len 18 m (by rw [p19]; omega)
    have hw : IntKind.i64.wrap (0 - n) = (m : Int) := by rw [w64 (by omega) (by omega)]; omega
    have hf := impl_decimal_fn (impl_decimal.rc k) m (by omega)
    have hlt : n < 0 := by omega
    show impl_decimal.top (impl_decimal.rc (k + 1)) (impl_decimal.l4 (impl_decimal.rc (k + 1)) NN NN) n = some (decB n)
    unfold impl_decimal.top
    simp only [hlt, decide_true, if_true, hw]
    rw [show impl_decimal.rc (k + 1) (m : Int) = impl_decimal.fn (impl_decimal.rc k) NN (m : Int) from rfl, hf]
    simp only [Option.bind_some]
    rw [decB_nat, if_pos (by rw [ob_size, show (⟨#[45]⟩ : ByteArray).size = 1 from rfl]; omega), show (⟨#[45]⟩ : ByteArray) = ob [45] from rfl, ob_append]
    unfold decB; rw [if_pos hlt, hm]; rfl
theorem spec_l01Dec_nat : ∀ (d n : Nat), d ≤ 20 → n < 10 ^ (d + 1) → n ≤ 1000000000000000000 → ∀ k, d < k → spec_l01Dec.rc k (n : Int) = some (ob (digs n)) := by
  intro d
  induction d with
  | zero =>
    intro n _ hn _ k hk
    obtain ⟨k, rfl⟩ : ∃ j, k = j + 1 := ⟨k - 1, by omega⟩
    have hn' : n < 10 := by simpa using hn
    have h1 : (n : Int) < 10 := by omega
    simp only [spec_l01Dec.rc, spec_l01Dec.fn, spec_l01Dec.top, h1, decide_true, if_true, bytesOf_dig hn', digs_small hn']
  | succ d ih =>
    intro n hd hn hm k hk
    obtain ⟨k, rfl⟩ : ∃ j, k = j + 1 := ⟨k - 1, by omega⟩
    by_cases h : n < 10
    · have h1 : (n : Int) < 10 := by omega
      simp only [spec_l01Dec.rc, spec_l01Dec.fn, spec_l01Dec.top, h1, decide_true, if_true, bytesOf_dig h, digs_small h]
    · have hn' : n / 10 < 10 ^ (d + 1) := by rw [Nat.pow_succ] at hn; omega
      have hl := digs_len d (n / 10) hn'
      have h1 : ¬ (n : Int) < 10 := by omega
      have ew := w64 (n := ((n / 10 : Nat) : Int)) (by omega) (by omega)
      have e0 : (ob (digs (n / 10))).size + (ob [UInt8.ofNat (48 + n % 10)]).size ≤ 9223372036854775807 := by rw [ob_size, ob_size]; simp; omega
      simp only [spec_l01Dec.rc, spec_l01Dec.fn, spec_l01Dec.top, h1, decide_false, Bool.false_eq_true, if_false, tdiv10, tmod10, ew, ih (n / 10) (by omega) hn' (by omega) k (by omega), Option.bind_some, bytesOf_dig (show n % 10 < 10 by omega), e0, if_true, ob_append, digs_big h]
theorem spec_l01Dec_f {n : Int} (h0 : 0 ≤ n) (h : n ≤ 1000000000000000000) : spec_l01Dec.f n = some (decB n) := by
  obtain ⟨m, rfl⟩ : ∃ m : Nat, n = m := ⟨n.toNat, by omega⟩
  rw [decB_nat]
  exact spec_l01Dec_nat 18 m (by omega) (by rw [p19]; omega) (by omega) NN (NN_lt (by omega))
theorem decB_size {n : Int} (h0 : -1000000000000000000 ≤ n) (h : n ≤ 1000000000000000000) : (decB n).size ≤ 20 := by
  have hl := digs_len 18 n.toNat (by rw [p19]; omega)
  have hl2 := digs_len 18 (-n).toNat (by rw [p19]; omega)
  unfold decB; rw [ob_size]; split
  · rw [List.length_cons]; omega
  · omega
end Go.Pl

namespace Go.Pl
open Go.Ev
set_option linter.unusedVariables false
set_option linter.unusedSimpArgs false
def isDig (c : UInt8) : Bool := decide (48 ≤ (c.toNat : Int) ∧ (c.toNat : Int) ≤ 57)
def valL : List UInt8 → Nat → Nat
  | [], a => a
  | c :: r, a => valL r (10 * a + (c.toNat - 48))
theorem head_app {α : Type} {p r : List α} (h : p ≠ []) : (p ++ r).head? = p.head? := by
  cases p with
  | nil => exact absurd rfl h
  | cons => rfl
theorem isDig_iff {c : UInt8} : isDig c = true ↔ 48 ≤ c.toNat ∧ c.toNat ≤ 57 := by unfold isDig; rw [decide_eq_true_eq]; omega
theorem valL_append (l r : List UInt8) (a : Nat) : valL (l ++ r) a = valL r (valL l a) := by
  induction l generalizing a with
  | nil => rfl
  | cons c l ih => simp only [List.cons_append, valL]; exact ih _
theorem valL_lt : ∀ (l : List UInt8) (a : Nat), (∀ c ∈ l, isDig c = true) → valL l a < (a + 1) * 10 ^ l.length := by
  intro l
  induction l with
  | nil => intro a _; simp [valL]
  | cons c r ih =>
    intro a h
    have hc := isDig_iff.1 (h c (by simp))
    have := ih (10 * a + (c.toNat - 48)) (fun x hx => h x (by simp [hx]))
    simp only [valL, List.length_cons]
    have h2 : (10 * a + (c.toNat - 48) + 1) * 10 ^ r.length ≤ ((a + 1) * 10) * 10 ^ r.length := Nat.mul_le_mul_right _ (by omega)
    have h3 : ((a + 1) * 10) * 10 ^ r.length = (a + 1) * 10 ^ (r.length + 1) := by rw [Nat.mul_assoc, ← Nat.pow_succ']
    omega
theorem digs_ne (n : Nat) : digs n ≠ [] := by
  by_cases h : n < 10
  · rw [digs_small h]; simp
  · rw [digs_big h]; simp
theorem digs_head {n : Nat} (h : n ≠ 0) : ∀ c, (digs n).head? = some c → c ≠ 48 := by
  induction n using Nat.strongRecOn with
  | _ n ih =>
    by_cases hn : n < 10
    · rw [digs_small hn]
      intro c hc
      simp only [List.head?_cons, Option.some.injEq] at hc
      subst hc
      intro e
      have := congrArg UInt8.toNat e
      rw [UInt8.toNat_ofNat'] at this
      have e2 : (48 : UInt8).toNat = 48 := rfl
      omega
    · rw [digs_big hn]
      intro c hc
      have h1 := digs_ne (n / 10)
      rw [head_app h1] at hc
      exact ih (n / 10) (by omega) (by omega) c hc
theorem digs_valL : ∀ (l : List UInt8), l ≠ [] → (∀ c ∈ l, isDig c = true) → (l.length = 1 ∨ l.head? ≠ some 48) → digs (valL l 0) = l := by
  have key : ∀ (k : Nat) (l : List UInt8), l.length = k → l ≠ [] → (∀ c ∈ l, isDig c = true) → (l.length = 1 ∨ l.head? ≠ some 48) → digs (valL l 0) = l := by
    intro k
    induction k with
    | zero => intro l hl hne; exact absurd (List.length_eq_zero_iff.1 hl) hne
    | succ k ih =>
      intro l hl hne hd hz
      obtain ⟨p, c, rfl⟩ : ∃ p c, l = p ++ [c] := ⟨l.dropLast, l.getLast hne, (List.dropLast_concat_getLast hne).symm⟩
      have hc := isDig_iff.1 (hd c (by simp))
      have ec : UInt8.ofNat (48 + (c.toNat - 48)) = c := by
        apply UInt8.toNat_inj.1; rw [UInt8.toNat_ofNat']; omega
      simp only [List.length_append, List.length_cons, List.length_nil] at hl
      rw [valL_append]
      simp only [valL]
      by_cases hp : p = []
      · subst hp
        simp only [valL, List.nil_append]
        rw [Nat.mul_zero, Nat.zero_add, digs_small (by omega), ec]
      · have hpl : p.length ≠ 0 := fun e => hp (List.length_eq_zero_iff.1 e)
        have hp0 : p.head? ≠ some 48 := by
          rcases hz with hz | hz
          · rw [List.length_append, List.length_cons, List.length_nil] at hz; omega
          · rw [head_app hp] at hz; exact hz
        have ihp := ih p (by omega) hp (fun x hx => hd x (by simp [hx])) (.inr hp0)
        have hv : valL p 0 ≠ 0 := by
          intro e
          rw [e] at ihp
          rw [digs_small (by omega)] at ihp
          rw [← ihp] at hp0
          exact hp0 rfl
        rw [digs_big (by omega), show (10 * valL p 0 + (c.toNat - 48)) / 10 = valL p 0 by omega, ihp, show (10 * valL p 0 + (c.toNat - 48)) % 10 = c.toNat - 48 by omega, ec]
  intro l
  exact key l.length l rfl
theorem u8_sub48 {c : UInt8} (h : isDig c = true) : IntKind.i64.wrap (IntKind.u8.wrap ((c.toNat : Int) - 48)) = ((c.toNat - 48 : Nat) : Int) := by
  have := isDig_iff.1 h
  rw [w8 (by omega) (by omega), w64 (by omega) (by omega)]; omega
theorem p18 : (10 : Nat) ^ 18 = 1000000000000000000 := by decide
theorem pow_le18 {a : Nat} (h : a ≤ 18) : (10 : Nat) ^ a ≤ 1000000000000000000 := by
  have := Nat.pow_le_pow_right (n := 10) (by omega) h
  rw [p18] at this; exact this
theorem impl_readDecimal_l (s : ByteArray) : ∀ (r p : List UInt8) (a k : Nat), p.length + r.length ≤ 18 → r.length < k → a < 10 ^ p.length →
    impl_readDecimal.l8 NN k s (ob (p ++ r)) (a : Int) (p.length : Int) = if r.all isDig = true then (if (((p ++ r).length : Nat) : Int) < (s.size : Int) then some (-((valL r a : Nat) : Int), true) else some (((valL r a : Nat) : Int), true)) else some (0, false) := by
  intro r
  induction r with
  | nil =>
    intro p a k hb hk ha
    obtain ⟨k, rfl⟩ : ∃ j, k = j + 1 := ⟨k - 1, by omega⟩
    have h18 := pow_le18 (a := p.length) (by simpa using hb)
    rw [List.append_nil]
    have c1 : ¬ (p.length : Int) < (p.length : Int) := by omega
    have cw := w64 (n := 0 - (a : Int)) (by omega) (by omega)
    simp only [impl_readDecimal.l8, impl_readDecimal.g8, ob_size, c1, cw, and_self, and_true, true_and, decide_true, decide_false, if_true, if_false, mid_get, mid_set, mid_getn, mid_setn, bt_mid, Option.bind_some, Bool.not_true, Bool.not_false, Bool.false_eq_true, Bool.true_eq_false, beq_self_eq_true, bne_self_eq_false, Int.toNat_natCast, decide_eq_true_eq, List.all_nil, valL]
    rw [show 0 - (a : Int) = -(a : Int) by omega]
  | cons c r ih =>
    intro p a k hb hk ha
    simp only [List.length_cons] at hb hk
    obtain ⟨k, rfl⟩ : ∃ j, k = j + 1 := ⟨k - 1, by omega⟩
    have h17 : (10 : Nat) ^ p.length ≤ 10 ^ 17 := Nat.pow_le_pow_right (by omega) (by omega)
    have e17 : (10 : Nat) ^ 17 = 100000000000000000 := by decide
    have c0 : (0 : Int) ≤ (p.length : Int) := by omega
    have hm := mid_len p r c
    have c1 : (p.length : Int) < ((ob (p ++ c :: r)).size : Int) := by rw [ob_size]; omega
    have cw := w64 (n := (p.length : Int) + 1) (by omega) (by omega)
    simp only [impl_readDecimal.l8, impl_readDecimal.g8, c0, c1, cw, and_self, and_true, true_and, decide_true, decide_false, if_true, if_false, mid_get, mid_set, mid_getn, mid_setn, bt_mid, Option.bind_some, Bool.not_true, Bool.not_false, Bool.false_eq_true, Bool.true_eq_false, beq_self_eq_true, bne_self_eq_false, Int.toNat_natCast, List.all_cons]
    by_cases hd : isDig c = true
    · have h2 := isDig_iff.1 hd
      have n1 : ¬ (c.toNat : Int) < 48 := by omega
      have n2 : ¬ (57 : Int) < (c.toNat : Int) := by omega
      have e1 := w64 (n := 10 * (a : Int)) (by omega) (by omega)
      have e2 := w64 (n := 10 * (a : Int) + ((c.toNat - 48 : Nat) : Int)) (by omega) (by omega)
      have := ih (p ++ [c]) (10 * a + (c.toNat - 48)) k (by simp; omega) (by omega) (by rw [List.length_append, List.length_singleton, Nat.pow_succ]; omega)
      rw [mid_snoc, snoc_len, show ((10 * a + (c.toNat - 48) : Nat) : Int) = 10 * (a : Int) + ((c.toNat - 48 : Nat) : Int) by omega] at this
      simp only [n1, n2, and_self, and_true, true_and, decide_true, decide_false, if_true, if_false, mid_get, mid_set, mid_getn, mid_setn, bt_mid, Option.bind_some, Bool.not_true, Bool.not_false, Bool.false_eq_true, Bool.true_eq_false, beq_self_eq_true, bne_self_eq_false, Int.toNat_natCast, u8_sub48 hd, e1, e2, hd, this, valL]
      rfl
    · have hd' : isDig c = false := by simpa using hd
      by_cases h1 : (c.toNat : Int) < 48
      · simp [h1, hd']
      · have h3 : (57 : Int) < (c.toNat : Int) := by
          have : ¬ (48 ≤ c.toNat ∧ c.toNat ≤ 57) := fun e => hd (isDig_iff.2 e)
          omega
        simp [h1, h3, hd']
def okDigs (l : List UInt8) (m : Nat) (neg : Bool) : Bool := decide (l ≠ [] ∧ l.length ≤ m ∧ (l.head? ≠ some 48 ∨ (l.length = 1 ∧ neg = false))) && l.all isDig
theorem okDigs_long {l : List UInt8} {m : Nat} {neg : Bool} (h : m < l.length) : okDigs l m neg = false := by
  unfold okDigs
  rw [decide_eq_false (fun h' => by have := h'.2.1; omega), Bool.false_and]
theorem okDigs_short {c : UInt8} {r : List UInt8} {m : Nat} {neg : Bool} (h : (c :: r).length ≤ m) : okDigs (c :: r) m neg = ((decide (c ≠ 48) || (decide (r = []) && !neg)) && (c :: r).all isDig) := by
  unfold okDigs
  congr 1
  rw [Bool.eq_iff_iff]
  simp only [decide_eq_true_eq, Bool.or_eq_true, Bool.and_eq_true, Bool.not_eq_true', List.head?_cons, ne_eq, Option.some.injEq, List.length_cons]
  constructor
  · rintro ⟨_, _, h1 | ⟨h1, h2⟩⟩
    · exact .inl h1
    · exact .inr ⟨List.length_eq_zero_iff.1 (by omega), h2⟩
  · rintro (h1 | ⟨h1, h2⟩)
    · exact ⟨by simp, by simpa using h, .inl h1⟩
    · exact ⟨by simp, by simpa using h, .inr ⟨by rw [h1]; rfl, h2⟩⟩
def rdD (s : ByteArray) : Int × Bool :=
  if (bl s).head? = some 45 then (if okDigs (bl s).tail 18 true then (-((valL (bl s).tail 0 : Nat) : Int), true) else (0, false))
  else (if okDigs (bl s) 18 false then (((valL (bl s) 0 : Nat) : Int), true) else (0, false))
theorem bt0_ob (c : UInt8) (r : List UInt8) : bt (ob (c :: r)) 0 = (c.toNat : Int) := rfl
theorem impl_readDecimal_f (s : ByteArray) (hs : s.size ≤ 1000000) : impl_readDecimal.f s = some (rdD s) := by
  revert hs
  refine ob_all (P := fun s => s.size ≤ 1000000 → impl_readDecimal.f s = some (rdD s)) ?_ s
  intro l hs
  rw [ob_size] at hs
  unfold impl_readDecimal.f impl_readDecimal.fn impl_readDecimal.top rdD
  rw [bl_ob, ob_size]
  cases l with
  | nil => simp [okDigs]
  | cons c r =>
    simp only [List.length_cons] at hs
    have c0 : (0 : Int) < ((c :: r).length : Int) := by simp only [List.length_cons]; omega
    have cz : (((c :: r).length : Int) == 0) = false := by rw [beq_eq_false_iff_ne]; omega
    simp only [c0, cz, bt0_ob, and_self, and_true, true_and, decide_true, decide_false, if_true, if_false, mid_get, mid_set, mid_getn, mid_setn, bt_mid, Option.bind_some, Bool.not_true, Bool.not_false, Bool.false_eq_true, Bool.true_eq_false, beq_self_eq_true, bne_self_eq_false, Int.toNat_natCast, Int.le_refl, List.head?_cons, Option.some.injEq, List.tail_cons]
    by_cases hc : c = 45
    · subst hc
      have e45 : (((45 : UInt8).toNat : Int) == 45) = true := rfl
      have c1 : (1 : Int) ≤ ((45 :: r : List UInt8).length : Int) := by simp only [List.length_cons]; omega
      have ex : (ob (45 :: r)).extract (1 : Int).toNat (45 :: r : List UInt8).length = ob r := by
        rw [ob_extract, List.take_of_length_le (by omega)]; rfl
      simp only [e45, c1, ex, ob_size, and_self, and_true, true_and, decide_true, decide_false, if_true, if_false, mid_get, mid_set, mid_getn, mid_setn, bt_mid, Option.bind_some, Bool.not_true, Bool.not_false, Bool.false_eq_true, Bool.true_eq_false, beq_self_eq_true, bne_self_eq_false, Int.toNat_natCast, show (0 : Int) ≤ 1 from by omega]
      cases r with
      | nil => simp [okDigs]
      | cons d r =>
        have d0 : (0 : Int) < ((d :: r).length : Int) := by simp only [List.length_cons]; omega
        have dz : (((d :: r).length : Int) == 0) = false := by rw [beq_eq_false_iff_ne]; omega
        have d1 : (1 : Int) < ((45 :: d :: r : List UInt8).length : Int) := by simp only [List.length_cons]; omega
        simp only [d0, dz, d1, bt0_ob, and_self, and_true, true_and, decide_true, decide_false, if_true, if_false, mid_get, mid_set, mid_getn, mid_setn, bt_mid, Option.bind_some, Bool.not_true, Bool.not_false, Bool.false_eq_true, Bool.true_eq_false, beq_self_eq_true, bne_self_eq_false, Int.toNat_natCast]
        by_cases h18 : (18 : Int) < ((d :: r).length : Int)
        · simp only [okDigs_long (show 18 < (d :: r).length by omega), h18, and_self, and_true, true_and, decide_true, decide_false, if_true, if_false, mid_get, mid_set, mid_getn, mid_setn, bt_mid, Option.bind_some, Bool.not_true, Bool.not_false, Bool.false_eq_true, Bool.true_eq_false, beq_self_eq_true, bne_self_eq_false, Int.toNat_natCast]
        · have h18' : (d :: r).length ≤ 18 := by omega
          have hl := impl_readDecimal_l (ob (45 :: d :: r)) (d :: r) [] 0 NN (by simpa using h18') (NN_lt (by omega)) (by simp)
          simp only [List.nil_append, List.length_nil, ob_size] at hl
          have d2 : ((d :: r).length : Int) < ((45 :: d :: r : List UInt8).length : Int) := by simp only [List.length_cons]; omega
          rw [show ((0 : Nat) : Int) = 0 from rfl] at hl
          simp only [d2, if_true] at hl
          simp only [okDigs_short h18', h18, hl, and_self, and_true, true_and, decide_true, decide_false, if_true, if_false, mid_get, mid_set, mid_getn, mid_setn, bt_mid, Option.bind_some, Bool.not_true, Bool.not_false, Bool.false_eq_true, Bool.true_eq_false, beq_self_eq_true, bne_self_eq_false, Int.toNat_natCast]
          by_cases hd : d = 48
          · subst hd
            simp
          · have : ((d.toNat : Int) == 48) = false := by rw [beq_eq_false_iff_ne]; intro e; exact hd ((u8_eq (n := 48) (by omega)).mp (by omega))
            simp only [this, and_self, and_true, true_and, decide_true, decide_false, if_true, if_false, mid_get, mid_set, mid_getn, mid_setn, bt_mid, Option.bind_some, Bool.not_true, Bool.not_false, Bool.false_eq_true, Bool.true_eq_false, beq_self_eq_true, bne_self_eq_false, Int.toNat_natCast]
            cases ha : (d :: r).all isDig <;> simp [hd]
    · have e45 : ((c.toNat : Int) == 45) = false := by rw [beq_eq_false_iff_ne]; intro e; exact hc ((u8_eq (n := 45) (by omega)).mp (by omega))
      simp only [e45, hc, and_self, and_true, true_and, decide_true, decide_false, if_true, if_false, mid_get, mid_set, mid_getn, mid_setn, bt_mid, Option.bind_some, Bool.not_true, Bool.not_false, Bool.false_eq_true, Bool.true_eq_false, beq_self_eq_true, bne_self_eq_false, Int.toNat_natCast]
      by_cases h18 : (18 : Int) < ((c :: r).length : Int)
      · simp only [okDigs_long (show 18 < (c :: r).length by omega), h18, and_self, and_true, true_and, decide_true, decide_false, if_true, if_false, mid_get, mid_set, mid_getn, mid_setn, bt_mid, Option.bind_some, Bool.not_true, Bool.not_false, Bool.false_eq_true, Bool.true_eq_false, beq_self_eq_true, bne_self_eq_false, Int.toNat_natCast]
      · have h18' : (c :: r).length ≤ 18 := by omega
        have hl := impl_readDecimal_l (ob (c :: r)) (c :: r) [] 0 NN (by simpa using h18') (NN_lt (by omega)) (by simp)
        simp only [List.nil_append, List.length_nil, ob_size, Int.lt_irrefl, if_false] at hl
        rw [show ((0 : Nat) : Int) = 0 from rfl] at hl
        simp only [okDigs_short h18', h18, hl, and_self, and_true, true_and, decide_true, decide_false, if_true, if_false, mid_get, mid_set, mid_getn, mid_setn, bt_mid, Option.bind_some, Bool.not_true, Bool.not_false, Bool.false_eq_true, Bool.true_eq_false, beq_self_eq_true, bne_self_eq_false, Int.toNat_natCast]
        by_cases hd : c = 48
        · subst hd
          have e48 : (((48 : UInt8).toNat : Int) == 48) = true := rfl
          simp only [e48, and_self, and_true, true_and, decide_true, decide_false, if_true, if_false, mid_get, mid_set, mid_getn, mid_setn, bt_mid, Option.bind_some, Bool.not_true, Bool.not_false, Bool.false_eq_true, Bool.true_eq_false, beq_self_eq_true, bne_self_eq_false, Int.toNat_natCast]
          cases r with
          | nil =>
            simp only [List.length_cons, List.length_nil]
            cases ha : ([48] : List UInt8).all isDig <;> simp
          | cons d r =>
            have h1 : (1 : Int) < ((48 :: d :: r : List UInt8).length : Int) := by simp only [List.length_cons]; omega
            simp only [h1, and_self, and_true, true_and, decide_true, decide_false, if_true, if_false, mid_get, mid_set, mid_getn, mid_setn, bt_mid, Option.bind_some, Bool.not_true, Bool.not_false, Bool.false_eq_true, Bool.true_eq_false, beq_self_eq_true, bne_self_eq_false, Int.toNat_natCast]
            simp
        · have : ((c.toNat : Int) == 48) = false := by rw [beq_eq_false_iff_ne]; intro e; exact hd ((u8_eq (n := 48) (by omega)).mp (by omega))
          simp only [this, and_self, and_true, true_and, decide_true, decide_false, if_true, if_false, mid_get, mid_set, mid_getn, mid_setn, bt_mid, Option.bind_some, Bool.not_true, Bool.not_false, Bool.false_eq_true, Bool.true_eq_false, beq_self_eq_true, bne_self_eq_false, Int.toNat_natCast]
          cases ha : (c :: r).all isDig <;> simp [hd]
theorem spec_l01Value_l : ∀ (r p : List UInt8) (a k : Nat), p.length + r.length ≤ 13 → r.length < k → a < 10 ^ p.length →
    spec_l01Value.l5 NN k (ob (p ++ r)) (a : Int) (p.length : Int) = if r.all isDig = true then some (((valL r a : Nat) : Int), decide (ob (digs (valL r a)) = ob (p ++ r))) else some (0, false) := by
  intro r
  induction r with
  | nil =>
    intro p a k hb hk ha
    obtain ⟨k, rfl⟩ : ∃ j, k = j + 1 := ⟨k - 1, by omega⟩
    have h18 := pow_le18 (a := p.length) (by simp at hb; omega)
    rw [List.append_nil]
    have c1 : ¬ (p.length : Int) < (p.length : Int) := by omega
    simp only [spec_l01Value.l5, spec_l01Value.g5, ob_size, c1, and_self, and_true, true_and, decide_true, decide_false, if_true, if_false, mid_get, mid_set, mid_getn, mid_setn, bt_mid, Option.bind_some, Bool.not_true, Bool.not_false, Bool.false_eq_true, Bool.true_eq_false, beq_self_eq_true, bne_self_eq_false, Int.toNat_natCast, spec_l01Dec_f (show (0 : Int) ≤ (a : Int) by omega) (show (a : Int) ≤ 1000000000000000000 by omega), decB_nat, ba_beq, List.all_nil, valL]
    rfl
  | cons c r ih =>
    intro p a k hb hk ha
    simp only [List.length_cons] at hb hk
    obtain ⟨k, rfl⟩ : ∃ j, k = j + 1 := ⟨k - 1, by omega⟩
    have h17 : (10 : Nat) ^ p.length ≤ 10 ^ 17 := Nat.pow_le_pow_right (by omega) (by omega)
    have e17 : (10 : Nat) ^ 17 = 100000000000000000 := by decide
    have c0 : (0 : Int) ≤ (p.length : Int) := by omega
    have hm := mid_len p r c
    have c1 : (p.length : Int) < ((ob (p ++ c :: r)).size : Int) := by rw [ob_size]; omega
    have cw := w64 (n := (p.length : Int) + 1) (by omega) (by omega)
    simp only [spec_l01Value.l5, spec_l01Value.g5, c0, c1, cw, and_self, and_true, true_and, decide_true, decide_false, if_true, if_false, mid_get, mid_set, mid_getn, mid_setn, bt_mid, Option.bind_some, Bool.not_true, Bool.not_false, Bool.false_eq_true, Bool.true_eq_false, beq_self_eq_true, bne_self_eq_false, Int.toNat_natCast, List.all_cons]
    by_cases hd : isDig c = true
    · have h2 := isDig_iff.1 hd
      have n1 : ¬ (c.toNat : Int) < 48 := by omega
      have n2 : ¬ (57 : Int) < (c.toNat : Int) := by omega
      have e1 := w64 (n := 10 * (a : Int)) (by omega) (by omega)
      have e2 := w64 (n := 10 * (a : Int) + ((c.toNat - 48 : Nat) : Int)) (by omega) (by omega)
      have := ih (p ++ [c]) (10 * a + (c.toNat - 48)) k (by simp; omega) (by omega) (by rw [List.length_append, List.length_singleton, Nat.pow_succ]; omega)
      rw [mid_snoc, snoc_len, show ((10 * a + (c.toNat - 48) : Nat) : Int) = 10 * (a : Int) + ((c.toNat - 48 : Nat) : Int) by omega] at this
      simp only [n1, n2, and_self, and_true, true_and, decide_true, decide_false, if_true, if_false, mid_get, mid_set, mid_getn, mid_setn, bt_mid, Option.bind_some, Bool.not_true, Bool.not_false, Bool.false_eq_true, Bool.true_eq_false, beq_self_eq_true, bne_self_eq_false, Int.toNat_natCast, u8_sub48 hd, e1, e2, hd, this, valL]
      rfl
    · have hd' : isDig c = false := by simpa using hd
      by_cases h1 : (c.toNat : Int) < 48
      · simp [h1, hd']
      · have h3 : (57 : Int) < (c.toNat : Int) := by
          have : ¬ (48 ≤ c.toNat ∧ c.toNat ≤ 57) := fun e => hd (isDig_iff.2 e)
          omega
        simp [h1, h3, hd']
def rdV (s : ByteArray) : Int × Bool := if 1 ≤ s.size ∧ s.size ≤ 13 ∧ (bl s).all isDig = true then (((valL (bl s) 0 : Nat) : Int), decide (digs (valL (bl s) 0) = bl s)) else (0, false)
theorem spec_l01Value_f (s : ByteArray) (hs : s.size ≤ 1000000) : spec_l01Value.f s = some (rdV s) := by
  unfold spec_l01Value.f spec_l01Value.fn spec_l01Value.top rdV
  by_cases h1 : (s.size : Int) < 1
  · have : ¬ 1 ≤ s.size := by omega
    simp [h1, this]
  · by_cases h13 : (13 : Int) < (s.size : Int)
    · have : ¬ s.size ≤ 13 := by omega
      simp [h1, h13, this]
    · have e1 : 1 ≤ s.size := by omega
      have e2 : s.size ≤ 13 := by omega
      have := spec_l01Value_l (bl s) [] 0 NN (by simpa [bl_length] using e2) (by rw [bl_length]; exact NN_lt (by omega)) (by simp)
      simp only [List.nil_append, ob_bl, List.length_nil] at this
      rw [show ((0 : Nat) : Int) = 0 from rfl] at this
      simp only [h1, h13, this, e1, e2, and_self, and_true, true_and, decide_true, decide_false, if_true, if_false, mid_get, mid_set, mid_getn, mid_setn, bt_mid, Option.bind_some, Bool.not_true, Bool.not_false, Bool.false_eq_true, Bool.true_eq_false, beq_self_eq_true, bne_self_eq_false, Int.toNat_natCast]
      have e3 : decide (ob (digs (valL (bl s) 0)) = s) = decide (digs (valL (bl s) 0) = bl s) := by
        congr 1
        exact propext ⟨fun h => by have := congrArg bl h; rwa [bl_ob] at this, fun h => by rw [h, ob_bl]⟩
      cases ha : (bl s).all isDig
      · simp
      · simp only [if_true]
        congr 2
theorem rdV_rdD {s : ByteArray} (h : (rdV s).2 = true) : rdD s = rdV s := by
  unfold rdV at h ⊢
  split at h
  · rename_i hc
    rw [if_pos hc]
    obtain ⟨h1, h2, h3⟩ := hc
    simp only [decide_eq_true_eq] at h
    have hne : bl s ≠ [] := by intro e; have := bl_length s; rw [e] at this; simp at this; omega
    obtain ⟨c, r, e⟩ : ∃ c r, bl s = c :: r := by
      cases hb : bl s with
      | nil => exact absurd hb hne
      | cons c r => exact ⟨c, r, rfl⟩
    have hd : isDig c = true := by rw [e] at h3; simp at h3; exact h3.1
    have hdi := isDig_iff.1 hd
    have h45 : ¬ (bl s).head? = some 45 := by
      rw [e]; simp only [List.head?_cons, Option.some.injEq]
      intro hc; subst hc
      have : (45 : UInt8).toNat = 45 := rfl
      omega
    have hz : (bl s).head? ≠ some 48 ∨ ((bl s).length = 1 ∧ false = false) := by
      by_cases hv : valL (bl s) 0 = 0
      · right
        rw [hv, digs_small (by omega)] at h
        rw [← h]; exact ⟨rfl, rfl⟩
      · left
        intro hh
        rw [← h] at hh
        exact digs_head hv 48 hh rfl
    have hok : okDigs (bl s) 18 false = true := by
      unfold okDigs
      rw [h3, Bool.and_true]
      exact decide_eq_true ⟨hne, by rw [bl_length]; omega, hz⟩
    unfold rdD
    rw [if_neg h45, if_pos hok, decide_eq_true h]
  · cases h
end Go.Pl

namespace Go.Pl
open Go.Ev
set_option linter.unusedVariables false
set_option linter.unusedSimpArgs false
noncomputable def numI (s : ByteArray) : Option Int := if (rdV s).2 = true then some (rdV s).1 else none
noncomputable def numJ (s : ByteArray) : Option Int := if (bl s).head? = some 45 then (match numI (ob (bl s).tail) with | some n => if 0 < n then some (-n) else none | none => none) else numI s
theorem rdV_ok {s : ByteArray} (h : (rdV s).2 = true) : 1 ≤ s.size ∧ s.size ≤ 13 ∧ (bl s).all isDig = true ∧ digs (valL (bl s) 0) = bl s ∧ (rdV s).1 = ((valL (bl s) 0 : Nat) : Int) := by
  unfold rdV at h ⊢
  split at h
  · rename_i h1
    rw [if_pos h1]
    exact ⟨h1.1, h1.2.1, h1.2.2, by simpa using h, rfl⟩
  · simp at h
theorem rdV_mk {s : ByteArray} (h1 : 1 ≤ s.size) (h2 : s.size ≤ 13) (h3 : (bl s).all isDig = true) (h4 : digs (valL (bl s) 0) = bl s) : rdV s = (((valL (bl s) 0 : Nat) : Int), true) := by
  unfold rdV
  rw [if_pos ⟨h1, h2, h3⟩, h4]; simp
theorem okDigs_iff {l : List UInt8} {m : Nat} {neg : Bool} : okDigs l m neg = true ↔ (l ≠ [] ∧ l.length ≤ m ∧ (l.head? ≠ some 48 ∨ (l.length = 1 ∧ neg = false))) ∧ l.all isDig = true := by
  unfold okDigs; simp only [Bool.and_eq_true, decide_eq_true_eq]
theorem rdD_pos {s : ByteArray} (h : (bl s).head? ≠ some 45) : rdD s = if okDigs (bl s) 18 false then (((valL (bl s) 0 : Nat) : Int), true) else (0, false) := by
  unfold rdD; rw [if_neg h]
theorem rdD_neg {s : ByteArray} (h : (bl s).head? = some 45) : rdD s = if okDigs (bl s).tail 18 true then (-((valL (bl s).tail 0 : Nat) : Int), true) else (0, false) := by
  unfold rdD; rw [if_pos h]
theorem okDigs_val {l : List UInt8} {m : Nat} {neg : Bool} (h : okDigs l m neg = true) : digs (valL l 0) = l := by
  obtain ⟨⟨h1, h2, h3⟩, h4⟩ := okDigs_iff.1 h
  refine digs_valL l h1 (fun c hc => List.all_eq_true.1 h4 c hc) ?_
  rcases h3 with h3 | h3
  · exact .inr h3
  · exact .inl h3.1
theorem okDigs_neg_pos {l : List UInt8} {m : Nat} (h : okDigs l m true = true) : 0 < valL l 0 := by
  have hv := okDigs_val h
  obtain ⟨⟨h1, h2, h3⟩, h4⟩ := okDigs_iff.1 h
  rcases Nat.eq_zero_or_pos (valL l 0) with h0 | h0
  · rw [h0, digs_small (by omega)] at hv
    rcases h3 with h3 | h3
    · exact absurd (by rw [← hv]; rfl) h3
    · exact absurd h3.2 (by decide)
  · exact h0
theorem size_bl (s : ByteArray) : s.size = (bl s).length := (bl_length s).symm
theorem numI_eq (s : ByteArray) : numI s = if (rdD s).2 = true ∧ 0 ≤ (rdD s).1 ∧ s.size ≤ 13 then some (rdD s).1 else none := by
  unfold numI
  by_cases h : (rdV s).2 = true
  · obtain ⟨h1, h2, h3, h4, h5⟩ := rdV_ok h
    have e := rdV_rdD h
    rw [if_pos h, e, if_pos ⟨h, by rw [h5]; omega, h2⟩]
  · rw [if_neg h]
    by_cases q : (rdD s).2 = true ∧ 0 ≤ (rdD s).1 ∧ s.size ≤ 13
    · exfalso
      obtain ⟨q1, q2, q3⟩ := q
      by_cases hh : (bl s).head? = some 45
      · have e := rdD_neg hh
        by_cases ho : okDigs (bl s).tail 18 true = true
        · rw [if_pos ho] at e
          have := okDigs_neg_pos ho
          rw [e] at q2
          simp only at q2; omega
        · rw [if_neg ho] at e
          rw [e] at q1; simp at q1
      · have e := rdD_pos hh
        by_cases ho : okDigs (bl s) 18 false = true
        · obtain ⟨⟨o1, o2, o3⟩, o4⟩ := okDigs_iff.1 ho
          have hl : 1 ≤ (bl s).length := List.length_pos_iff.2 o1
          have := rdV_mk (s := s) (by rw [size_bl]; exact hl) q3 o4 (okDigs_val ho)
          rw [this] at h; simp at h
        · rw [if_neg ho] at e
          rw [e] at q1; simp at q1
    · rw [if_neg q]
theorem numJ_eq (s : ByteArray) : numJ s = if (rdD s).2 = true ∧ ((rdD s).1 < 0 → s.size ≤ 14) ∧ (0 ≤ (rdD s).1 → s.size ≤ 13) then some (rdD s).1 else none := by
  unfold numJ
  by_cases hh : (bl s).head? = some 45
  · rw [if_pos hh]
    have hs : s.size = (bl s).tail.length + 1 := by
      rw [size_bl]
      cases hb : bl s with
      | nil => rw [hb] at hh; simp at hh
      | cons a r => simp
    have e := rdD_neg hh
    by_cases ho : okDigs (bl s).tail 18 true = true
    · have hp := okDigs_neg_pos ho
      have hv := okDigs_val ho
      obtain ⟨⟨o1, o2, o3⟩, o4⟩ := okDigs_iff.1 ho
      have hl : 1 ≤ (bl s).tail.length := List.length_pos_iff.2 o1
      rw [if_pos ho] at e
      rw [e]
      by_cases h13 : (bl s).tail.length ≤ 13
      · have hm := rdV_mk (s := ob (bl s).tail) (by rw [ob_size]; exact hl) (by rw [ob_size]; exact h13) (by rw [bl_ob]; exact o4) (by rw [bl_ob]; exact hv)
        rw [bl_ob] at hm
        have hn : numI (ob (bl s).tail) = some ((valL (bl s).tail 0 : Nat) : Int) := by unfold numI; rw [hm]; rfl
        rw [hn, if_pos ⟨rfl, fun _ => by omega, fun h => by simp only at h; omega⟩]
        simp only
        rw [if_pos (by omega)]
      · have hn : numI (ob (bl s).tail) = none := by
          unfold numI rdV
          rw [ob_size]
          have hq : ¬ (1 ≤ (bl s).tail.length ∧ (bl s).tail.length ≤ 13 ∧ (bl (ob (bl s).tail)).all isDig = true) := fun h => by omega
          rw [if_neg hq]; rfl
        rw [hn, if_neg]
        rintro ⟨_, h, _⟩
        have := h (show -((valL (bl s).tail 0 : Nat) : Int) < 0 by omega)
        omega
    · rw [if_neg ho] at e
      rw [e, if_neg (by simp)]
      cases hn : numI (ob (bl s).tail) with
      | none => rfl
      | some n =>
        simp only
        by_cases h0 : 0 < n
        · exfalso
          unfold numI at hn
          split at hn
          · rename_i hr
            obtain ⟨r1, r2, r3, r4, r5⟩ := rdV_ok hr
            rw [ob_size] at r1 r2
            rw [bl_ob] at r3 r4 r5
            have hn' := Option.some.inj hn
            have hval : valL (bl s).tail 0 ≠ 0 := by
              intro h; rw [h] at r5; omega
            apply ho
            refine okDigs_iff.2 ⟨⟨List.length_pos_iff.1 r1, by omega, .inl ?_⟩, r3⟩
            intro hc
            have := digs_head hval 48 (by rw [r4]; exact hc)
            exact this rfl
          · cases hn
        · rw [if_neg h0]
  · rw [if_neg hh, numI_eq]
    have hn0 : 0 ≤ (rdD s).1 := by
      rw [rdD_pos hh]
      split <;> simp only <;> omega
    by_cases q : (rdD s).2 = true ∧ 0 ≤ (rdD s).1 ∧ s.size ≤ 13
    · rw [if_pos q, if_pos ⟨q.1, fun h => by omega, fun _ => q.2.2⟩]
    · rw [if_neg q, if_neg]
      rintro ⟨a, b, c⟩
      exact q ⟨a, hn0, c hn0⟩
theorem numI_bd {s : ByteArray} {n : Int} (h : numI s = some n) : 0 ≤ n ∧ n ≤ 10000000000000 := by
  unfold numI at h
  split at h
  · rename_i hr
    obtain ⟨r1, r2, r3, r4, r5⟩ := rdV_ok hr
    rw [← Option.some.inj h, r5]
    have hl := valL_lt (bl s) 0 (fun c hc => List.all_eq_true.1 r3 c hc)
    have hp : (10 : Nat) ^ (bl s).length ≤ 10 ^ 13 := Nat.pow_le_pow_right (by omega) (by rw [← size_bl]; exact r2)
    have e : (10 : Nat) ^ 13 = 10000000000000 := by decide
    omega
  · cases h
theorem spec_l01Signed_f (s : ByteArray) (hs : s.size ≤ 1000000) : ∃ n b, spec_l01Signed.f s = some (n, b) ∧ numJ s = if b = true then some n else none := by
  revert hs
  refine ob_all (P := fun s => s.size ≤ 1000000 → ∃ n b, spec_l01Signed.f s = some (n, b) ∧ numJ s = if b = true then some n else none) ?_ s
  intro l hs
  unfold spec_l01Signed.f spec_l01Signed.fn spec_l01Signed.top numJ
  rw [bl_ob]
  cases l with
  | nil =>
    rw [if_neg (by simp [ob_size]), spec_l01Value_f _ hs]
    exact ⟨(rdV (ob [])).1, (rdV (ob [])).2, rfl, by rw [if_neg (by simp)]; rfl⟩
  | cons a r =>
    rw [ob_size] at hs
    simp only [List.length_cons] at hs
    rw [if_pos (by simp [ob_size] <;> omega), if_pos ⟨by omega, by simp [ob_size] <;> omega⟩]
    have e0 : bt (ob (a :: r)) 0 = (a.toNat : Int) := rfl
    rw [e0]
    by_cases h : a = 45
    · subst h
      have ex : (ob (45 :: r)).extract (1 : Int).toNat (ob (45 :: r)).size = ob r := by
        apply bl_inj
        rw [bl_ob, ob_size]
        simp [bl, ob]
      have e1 : ((((45 : UInt8).toNat : Int) == 45) = true) := by decide
      rw [if_pos e1, if_pos ⟨by omega, by simp [ob_size] <;> omega⟩, ex, spec_l01Value_f _ (by rw [ob_size]; omega), Option.bind_some, if_pos (show ((45 : UInt8) :: r).head? = some 45 from rfl)]
      simp only [List.tail_cons]
      unfold numI
      by_cases hr : (rdV (ob r)).2 = true
      · obtain ⟨r1, r2, r3, r4, r5⟩ := rdV_ok hr
        have hb := numI_bd (s := ob r) (n := (rdV (ob r)).1) (by unfold numI; rw [if_pos hr])
        have w := w64 (n := 0 - (rdV (ob r)).1) (by omega) (by omega)
        rw [if_pos hr, if_pos hr, w]
        refine ⟨_, _, rfl, ?_⟩
        simp only [decide_eq_true_eq]
        rw [show 0 - (rdV (ob r)).1 = -(rdV (ob r)).1 by omega]
      · rw [if_neg hr, if_neg hr]
        exact ⟨_, _, rfl, by simp⟩
    · have e1 : ¬ ((a.toNat : Int) == 45) = true := by
        intro q
        apply h
        have : (a.toNat : Int) = 45 := by simpa using q
        apply UInt8.toNat.inj
        show a.toNat = 45
        omega
      rw [if_neg e1, spec_l01Value_f _ (by rw [ob_size]; simp; omega), if_neg (by simpa using h)]
      exact ⟨_, _, rfl, rfl⟩
end Go.Pl

namespace Go.Pl
open Go.Ev
set_option linter.unusedVariables false
set_option linter.unusedSimpArgs false
def joinF (sep : ByteArray) (i : Nat) (out s : ByteArray) : ByteArray := if 0 < i then (out ++ sep) ++ s else out ++ s
def joinB (sep : ByteArray) (xs : List ByteArray) : ByteArray := foldi (joinF sep) 0 ⟨#[]⟩ xs
theorem impl_joinWith_f (xs : List ByteArray) (sep : ByteArray) (hx : ∀ s ∈ xs, s.size ≤ 1000000) (hl : xs.length ≤ 1000000) (hs : sep.size ≤ 1000000) : impl_joinWith.f xs sep = some (joinB sep xs) ∧ (joinB sep xs).size ≤ 2000000 * xs.length := by
  have := fold_fix (E := fun s : ByteArray => s.size ≤ 1000000) (fun p st => st.size ≤ 2000000 * p.length) (joinF sep) some (fun k i st => impl_joinWith.l3 NN k sep st xs xs.length i) xs ?_ ?_ (⟨#[]⟩ : ByteArray) hx (by simp; rfl) (by omega) NN (NN_lt (by omega))
  · exact ⟨this.2, this.1⟩
  · intro k st _
    simp [impl_joinWith.l3, impl_joinWith.g3]
  · intro k p b r st hxs hb hI c0 c1 c2 cw g
    have z1 : (st ++ sep).size = st.size + sep.size := ByteArray.size_append
    have z2 : (st ++ sep ++ b).size = st.size + sep.size + b.size := by rw [ByteArray.size_append, z1]
    have z3 : (st ++ b).size = st.size + b.size := ByteArray.size_append
    have hp : p.length ≤ 1000000 := by omega
    refine ⟨?_, ?_⟩
    · unfold joinF; rw [List.length_append, List.length_singleton]; split <;> omega
    · have d1 : st.size + sep.size ≤ 9223372036854775807 := by omega
      have d2 : (st ++ sep).size + b.size ≤ 9223372036854775807 := by omega
      have d3 : st.size + b.size ≤ 9223372036854775807 := by omega
      simp only [impl_joinWith.l3, impl_joinWith.g3, c0, c1, cw, and_self, and_true, true_and, decide_true, decide_false, if_true, if_false, mid_get, mid_set, mid_getn, mid_setn, bt_mid, Option.bind_some, Bool.not_true, Bool.not_false, Bool.false_eq_true, Bool.true_eq_false, beq_self_eq_true, bne_self_eq_false, Int.toNat_natCast, g, d1, d2, d3, decide_eq_true_eq]
      unfold joinF
      by_cases h : 0 < p.length
      · have : (0 : Int) < (p.length : Int) := by omega
        simp [h, this]
      · have : ¬ (0 : Int) < (p.length : Int) := by omega
        simp [h, this]
theorem spec_l01Words_f (xs : List ByteArray) (sep : ByteArray) (hx : ∀ s ∈ xs, s.size ≤ 1000000) (hl : xs.length ≤ 1000000) (hs : sep.size ≤ 1000000) : spec_l01Words.f xs sep = some (joinB sep xs) ∧ (joinB sep xs).size ≤ 2000000 * xs.length := by
  have := fold_fix (E := fun s : ByteArray => s.size ≤ 1000000) (fun p st => st.size ≤ 2000000 * p.length) (joinF sep) some (fun k i st => spec_l01Words.l3 NN k xs sep st i) xs ?_ ?_ (⟨#[]⟩ : ByteArray) hx (by simp; rfl) (by omega) NN (NN_lt (by omega))
  · exact ⟨this.2, this.1⟩
  · intro k st _
    simp [spec_l01Words.l3, spec_l01Words.g3]
  · intro k p b r st hxs hb hI c0 c1 c2 cw g
    have z1 : (st ++ sep).size = st.size + sep.size := ByteArray.size_append
    have z2 : (st ++ sep ++ b).size = st.size + sep.size + b.size := by rw [ByteArray.size_append, z1]
    have z3 : (st ++ b).size = st.size + b.size := ByteArray.size_append
    have hp : p.length ≤ 1000000 := by omega
    refine ⟨?_, ?_⟩
    · unfold joinF; rw [List.length_append, List.length_singleton]; split <;> omega
    · have d1 : st.size + sep.size ≤ 9223372036854775807 := by omega
      have d2 : (st ++ sep).size + b.size ≤ 9223372036854775807 := by omega
      have d3 : st.size + b.size ≤ 9223372036854775807 := by omega
      simp only [spec_l01Words.l3, spec_l01Words.g3, c0, c1, cw, and_self, and_true, true_and, decide_true, decide_false, if_true, if_false, mid_get, mid_set, mid_getn, mid_setn, bt_mid, Option.bind_some, Bool.not_true, Bool.not_false, Bool.false_eq_true, Bool.true_eq_false, beq_self_eq_true, bne_self_eq_false, Int.toNat_natCast, g, d1, d2, d3, decide_eq_true_eq]
      unfold joinF
      by_cases h : 0 < p.length
      · have : (0 : Int) < (p.length : Int) := by omega
        simp [h, this]
      · have : ¬ (0 : Int) < (p.length : Int) := by omega
        simp [h, this]
end Go.Pl

namespace Go.Pl
open Go.Ev
set_option linter.unusedVariables false
set_option linter.unusedSimpArgs false
def glue (p : List UInt8) : List (List UInt8) → List (List UInt8)
  | [] => [p]
  | x :: xs => (p ++ x) :: xs
def splitL (b : UInt8) : List UInt8 → List (List UInt8)
  | [] => [[]]
  | c :: r => if c = b then [] :: splitL b r else glue [c] (splitL b r)
theorem splitL_ne (b : UInt8) (l : List UInt8) : splitL b l ≠ [] := by
  cases l with
  | nil => simp [splitL]
  | cons c r => simp only [splitL]; split
                · simp
                · cases splitL b r <;> simp [glue]
theorem glue_nil {x : List (List UInt8)} (h : x ≠ []) : glue [] x = x := by
  cases x with
  | nil => exact absurd rfl h
  | cons => rfl
theorem glue_glue (p q : List UInt8) (x : List (List UInt8)) : glue p (glue q x) = glue (p ++ q) x := by
  cases x <;> simp [glue]
theorem splitL_length (b : UInt8) (l : List UInt8) : (splitL b l).length ≤ l.length + 1 := by
  induction l with
  | nil => simp [splitL]
  | cons c r ih =>
    simp only [splitL]
    split
    · simp; omega
    · cases e : splitL b r with
      | nil => simp [glue]
      | cons y ys => rw [e] at ih; simp [glue] at ih ⊢; omega
theorem room_small {α : Type} (out : List α) (x : α) (h : out.length ≤ 2000000) : out.length + [x].length < room 16 := by rw [room16]; simp; omega
theorem ext_mid (q t r : List UInt8) : (ob (q ++ t ++ r)).extract q.length (q ++ t).length = ob t := by
  rw [ob_extract, List.take_left' rfl, List.drop_left' rfl]
theorem impl_splitAt_l (b : UInt8) : ∀ (r q t : List UInt8) (out : List ByteArray) (k : Nat), (q ++ t).length + r.length ≤ 1000000 → r.length < k → out.length ≤ (q ++ t).length →
    impl_splitAt.l4 NN k (ob (q ++ t ++ r)) (b.toNat : Int) (q.length : Int) ((q ++ t).length : Int) out = some (out ++ (glue t (splitL b r)).map ob) := by
  intro r
  induction r with
  | nil =>
    intro q t out k hb hk ho
    obtain ⟨k, rfl⟩ : ∃ j, k = j + 1 := ⟨k - 1, by omega⟩
    have hb' : q.length + t.length ≤ 1000000 := by simpa using hb
    rw [List.append_nil]
    have c1 : ¬ ((q ++ t).length : Int) < ((ob (q ++ t)).size : Int) := by rw [ob_size]; omega
    have c2 : (0 : Int) ≤ (q.length : Int) := by omega
    have c3 : (q.length : Int) ≤ ((ob (q ++ t)).size : Int) := by rw [ob_size, List.length_append]; omega
    have e : (ob (q ++ t)).extract q.length (ob (q ++ t)).size = ob t := by
      have := ext_mid q t []
      rw [List.append_nil] at this
      rw [ob_size]; exact this
    simp only [impl_splitAt.l4, impl_splitAt.g4, c1, c2, c3, and_self, and_true, true_and, decide_true, decide_false, if_true, if_false, mid_get, mid_set, mid_getn, mid_setn, bt_mid, Option.bind_some, Bool.not_true, Bool.not_false, Bool.false_eq_true, Bool.true_eq_false, beq_self_eq_true, bne_self_eq_false, Int.toNat_natCast, e]
    rw [if_pos (room_small _ _ (by simp at ho; omega))]
    simp [splitL, glue]
  | cons c r ih =>
    intro q t out k hb hk ho
    simp only [List.length_cons] at hb hk
    obtain ⟨k, rfl⟩ : ∃ j, k = j + 1 := ⟨k - 1, by omega⟩
    have hm := mid_len (q ++ t) r c
    have c0 : (0 : Int) ≤ ((q ++ t).length : Int) := by omega
    have c1 : ((q ++ t).length : Int) < ((ob (q ++ t ++ c :: r)).size : Int) := by rw [ob_size]; omega
    have c2 : (0 : Int) ≤ (q.length : Int) := by omega
    have c3 : (q.length : Int) ≤ ((q ++ t).length : Int) := by rw [List.length_append]; omega
    have c4 : ((q ++ t).length : Int) ≤ ((ob (q ++ t ++ c :: r)).size : Int) := by rw [ob_size]; omega
    have cw := w64 (n := ((q ++ t).length : Int) + 1) (by omega) (by omega)
    simp only [impl_splitAt.l4, impl_splitAt.g4, c0, c1, c2, c3, c4, cw, and_self, and_true, true_and, decide_true, decide_false, if_true, if_false, mid_get, mid_set, mid_getn, mid_setn, bt_mid, Option.bind_some, Bool.not_true, Bool.not_false, Bool.false_eq_true, Bool.true_eq_false, beq_self_eq_true, bne_self_eq_false, Int.toNat_natCast]
    by_cases hc : c = b
    · subst hc
      simp only [and_self, and_true, true_and, decide_true, decide_false, if_true, if_false, mid_get, mid_set, mid_getn, mid_setn, bt_mid, Option.bind_some, Bool.not_true, Bool.not_false, Bool.false_eq_true, Bool.true_eq_false, beq_self_eq_true, bne_self_eq_false, Int.toNat_natCast]
      rw [if_pos (room_small _ _ (by rw [List.length_append] at ho hb; omega)), ext_mid]
      have := ih (q ++ t ++ [c]) [] (out ++ [ob t]) k (by simp at hb ⊢; omega) (by omega) (by simp at ho ⊢; omega)
      rw [List.append_nil, show (q ++ t ++ [c]) ++ r = q ++ t ++ c :: r by simp, snoc_len] at this
      rw [this, glue_nil (splitL_ne c r)]
      simp [splitL, glue]
    · have hne : (((c.toNat : Int)) == (b.toNat : Int)) = false := by
        rw [beq_eq_false_iff_ne]; intro e; exact hc (UInt8.toNat_inj.mp (by omega))
      simp only [hne, and_self, and_true, true_and, decide_true, decide_false, if_true, if_false, mid_get, mid_set, mid_getn, mid_setn, bt_mid, Option.bind_some, Bool.not_true, Bool.not_false, Bool.false_eq_true, Bool.true_eq_false, beq_self_eq_true, bne_self_eq_false, Int.toNat_natCast]
      have := ih q (t ++ [c]) out k (by simp at hb ⊢; omega) (by omega) (by simp at ho ⊢; omega)
      rw [show q ++ (t ++ [c]) ++ r = q ++ t ++ c :: r by simp, show ((q ++ (t ++ [c])).length : Int) = ((q ++ t).length : Int) + 1 by simp; omega] at this
      rw [this]
      simp only [splitL, if_neg hc, glue_glue]
theorem impl_splitAt_f (s : ByteArray) (b : UInt8) (hs : s.size ≤ 1000000) : impl_splitAt.f s (b.toNat : Int) = some ((splitL b (bl s)).map ob) := by
  have := impl_splitAt_l b (bl s) [] [] [] NN (by simp [bl_length]; exact hs) (by rw [bl_length]; exact NN_lt (by omega)) (by simp)
  unfold impl_splitAt.f impl_splitAt.fn impl_splitAt.top
  simp only [List.nil_append, ob_bl, List.length_nil] at this
  rw [glue_nil (splitL_ne _ _)] at this
  exact this
theorem spec_l01Split_l (b : UInt8) : ∀ (r q t : List UInt8) (out : List ByteArray) (k : Nat), (q ++ t).length + r.length ≤ 1000000 → r.length + 1 < k → out.length ≤ (q ++ t).length →
    spec_l01Split.l4 NN k (ob (q ++ t ++ r)) (b.toNat : Int) (q.length : Int) ((q ++ t).length : Int) out = some (out ++ (glue t (splitL b r)).map ob) := by
  intro r
  induction r with
  | nil =>
    intro q t out k hb hk ho
    obtain ⟨k, rfl⟩ : ∃ j, k = j + 1 + 1 := ⟨k - 2, by simp at hk; omega⟩
    have hb' : q.length + t.length ≤ 1000000 := by simpa using hb
    have c1 : ((q ++ t).length : Int) ≤ ((ob (q ++ t ++ [])).size : Int) := by rw [ob_size, List.append_nil]; omega
    have c1e : (((q ++ t).length : Int) == ((ob (q ++ t ++ [])).size : Int)) = true := by rw [ob_size, List.append_nil]; simp
    have c2 : (0 : Int) ≤ (q.length : Int) := by omega
    have c3 : (q.length : Int) ≤ ((q ++ t).length : Int) := by rw [List.length_append]; omega
    have cw := w64 (n := ((q ++ t).length : Int) + 1) (by omega) (by omega)
    have c4 : ¬ ((q ++ t).length : Int) + 1 ≤ ((ob (q ++ t ++ [])).size : Int) := by rw [ob_size, List.append_nil]; omega
    simp only [spec_l01Split.l4, spec_l01Split.g4, c1, c1e, c2, c3, c4, cw, and_self, and_true, true_and, decide_true, decide_false, if_true, if_false, mid_get, mid_set, mid_getn, mid_setn, bt_mid, Option.bind_some, Bool.not_true, Bool.not_false, Bool.false_eq_true, Bool.true_eq_false, beq_self_eq_true, bne_self_eq_false, Int.toNat_natCast, ext_mid]
    rw [if_pos (room_small _ _ (by simp at ho; omega))]
    simp [splitL, glue]
  | cons c r ih =>
    intro q t out k hb hk ho
    simp only [List.length_cons] at hb hk
    obtain ⟨k, rfl⟩ : ∃ j, k = j + 1 := ⟨k - 1, by omega⟩
    have hm := mid_len (q ++ t) r c
    have c0 : (0 : Int) ≤ ((q ++ t).length : Int) := by omega
    have c1 : ((q ++ t).length : Int) < ((ob (q ++ t ++ c :: r)).size : Int) := by rw [ob_size]; omega
    have c2 : (0 : Int) ≤ (q.length : Int) := by omega
    have c3 : (q.length : Int) ≤ ((q ++ t).length : Int) := by rw [List.length_append]; omega
    have c4 : ((q ++ t).length : Int) ≤ ((ob (q ++ t ++ c :: r)).size : Int) := by rw [ob_size]; omega
    have c5 : (((q ++ t).length : Int) == ((ob (q ++ t ++ c :: r)).size : Int)) = false := by rw [beq_eq_false_iff_ne]; omega
    have cw := w64 (n := ((q ++ t).length : Int) + 1) (by omega) (by omega)
    simp only [spec_l01Split.l4, spec_l01Split.g4, c0, c1, c2, c3, c4, c5, cw, and_self, and_true, true_and, decide_true, decide_false, if_true, if_false, mid_get, mid_set, mid_getn, mid_setn, bt_mid, Option.bind_some, Bool.not_true, Bool.not_false, Bool.false_eq_true, Bool.true_eq_false, beq_self_eq_true, bne_self_eq_false, Int.toNat_natCast]
    by_cases hc : c = b
    · subst hc
      simp only [and_self, and_true, true_and, decide_true, decide_false, if_true, if_false, mid_get, mid_set, mid_getn, mid_setn, bt_mid, Option.bind_some, Bool.not_true, Bool.not_false, Bool.false_eq_true, Bool.true_eq_false, beq_self_eq_true, bne_self_eq_false, Int.toNat_natCast]
      rw [if_pos (room_small _ _ (by rw [List.length_append] at ho hb; omega)), ext_mid]
      have := ih (q ++ t ++ [c]) [] (out ++ [ob t]) k (by simp at hb ⊢; omega) (by omega) (by simp at ho ⊢; omega)
      rw [List.append_nil, show (q ++ t ++ [c]) ++ r = q ++ t ++ c :: r by simp, snoc_len] at this
      rw [this, glue_nil (splitL_ne c r)]
      simp [splitL, glue]
    · have hne : (((c.toNat : Int)) == (b.toNat : Int)) = false := by
        rw [beq_eq_false_iff_ne]; intro e; exact hc (UInt8.toNat_inj.mp (by omega))
      simp only [hne, and_self, and_true, true_and, decide_true, decide_false, if_true, if_false, mid_get, mid_set, mid_getn, mid_setn, bt_mid, Option.bind_some, Bool.not_true, Bool.not_false, Bool.false_eq_true, Bool.true_eq_false, beq_self_eq_true, bne_self_eq_false, Int.toNat_natCast]
      have := ih q (t ++ [c]) out k (by simp at hb ⊢; omega) (by omega) (by simp at ho ⊢; omega)
      rw [show q ++ (t ++ [c]) ++ r = q ++ t ++ c :: r by simp, show ((q ++ (t ++ [c])).length : Int) = ((q ++ t).length : Int) + 1 by simp; omega] at this
      rw [this]
      simp only [splitL, if_neg hc, glue_glue]
theorem spec_l01Split_f (s : ByteArray) (b : UInt8) (hs : s.size ≤ 1000000) : spec_l01Split.f s (b.toNat : Int) = some ((splitL b (bl s)).map ob) := by
  have := spec_l01Split_l b (bl s) [] [] [] NN (by simp [bl_length]; exact hs) (by rw [bl_length]; exact NN_lt (by omega)) (by simp)
  unfold spec_l01Split.f spec_l01Split.fn spec_l01Split.top
  simp only [List.nil_append, ob_bl, List.length_nil] at this
  rw [glue_nil (splitL_ne _ _)] at this
  exact this
theorem splitL_size (b : UInt8) (l : List UInt8) : ∀ x ∈ splitL b l, x.length ≤ l.length := by
  induction l with
  | nil => simp [splitL]
  | cons c r ih =>
    simp only [splitL]
    split
    · intro x hx
      rcases List.mem_cons.1 hx with rfl | hx
      · simp
      · have := ih x hx; simp; omega
    · intro x hx
      cases e : splitL b r with
      | nil => exact absurd e (splitL_ne b r)
      | cons y ys =>
        rw [e] at hx ih
        rcases List.mem_cons.1 hx with rfl | hx
        · have := ih y (by simp); simp; omega
        · have := ih x (by simp [hx]); simp; omega
end Go.Pl

namespace Go.Pl
open Go.Ev
set_option linter.unusedVariables false
set_option linter.unusedSimpArgs false
def wPeople : ByteArray := ⟨#[112, 101, 111, 112, 108, 101]⟩
def wClear : ByteArray := ⟨#[99, 108, 101, 97, 114]⟩
def wSignal : ByteArray := ⟨#[115, 105, 103, 110, 97, 108]⟩
def wState : ByteArray := ⟨#[115, 116, 97, 116, 101]⟩
def wFire : ByteArray := ⟨#[102, 105, 114, 101]⟩
def wSettle : ByteArray := ⟨#[115, 101, 116, 116, 108, 101]⟩
def wTop : ByteArray := ⟨#[116, 111, 112]⟩
def wTime : ByteArray := ⟨#[116, 105, 109, 101]⟩
def wBook : ByteArray := ⟨#[98, 111, 111, 107]⟩
def wLeft : ByteArray := ⟨#[108, 101, 102, 116]⟩
def wOpen : ByteArray := ⟨#[111, 112, 101, 110]⟩
def wNeed : ByteArray := ⟨#[110, 101, 101, 100]⟩
def shpL (w : ByteArray) : Option (List UInt8) :=
  if w = wPeople then some [116, 105, 106]
  else if w = wClear then some [116, 105]
  else if w = wSignal then some [116, 105]
  else if w = wState then some [105]
  else if w = wFire then some [105]
  else if w = wSettle then some [105]
  else if w = wTop then some [105]
  else if w = wTime then some [105]
  else if w = wBook then some [116, 116, 105]
  else if w = wLeft then some [116]
  else if w = wOpen then some []
  else if w = wNeed then some [105, 105]
  else none
def upK (c : UInt8) : UInt8 := if c = 116 then 84 else if c = 105 then 73 else 74
theorem nbeq {a b : ByteArray} (h : ¬ a = b) : (a.toList == b.toList) = false := by rw [ba_beq]; simpa using h
theorem shape_cases (w : ByteArray) : (w = wPeople ∨ w = wClear ∨ w = wSignal ∨ w = wState ∨ w = wFire ∨ w = wSettle ∨ w = wTop ∨ w = wTime ∨ w = wBook ∨ w = wLeft ∨ w = wOpen ∨ w = wNeed) ∨ (shpL w = none ∧ impl_commandShape.f w = some (⟨#[]⟩, false) ∧ spec_l34Kind.f w = some ⟨#[45]⟩) := by
  by_cases h1 : w = wPeople
  · simp [h1]
  by_cases h2 : w = wClear
  · simp [h2]
  by_cases h3 : w = wSignal
  · simp [h3]
  by_cases h4 : w = wState
  · simp [h4]
  by_cases h5 : w = wFire
  · simp [h5]
  by_cases h6 : w = wSettle
  · simp [h6]
  by_cases h7 : w = wTop
  · simp [h7]
  by_cases h8 : w = wTime
  · simp [h8]
  by_cases h9 : w = wBook
  · simp [h9]
  by_cases h10 : w = wLeft
  · simp [h10]
  by_cases h11 : w = wOpen
  · simp [h11]
  by_cases h12 : w = wNeed
  · simp [h12]
  right
  have b1 := nbeq h1
  have b2 := nbeq h2
  have b3 := nbeq h3
  have b4 := nbeq h4
  have b5 := nbeq h5
  have b6 := nbeq h6
  have b7 := nbeq h7
  have b8 := nbeq h8
  have b9 := nbeq h9
  have b10 := nbeq h10
  have b11 := nbeq h11
  have b12 := nbeq h12
  unfold wPeople at b1
  unfold wClear at b2
  unfold wSignal at b3
  unfold wState at b4
  unfold wFire at b5
  unfold wSettle at b6
  unfold wTop at b7
  unfold wTime at b8
  unfold wBook at b9
  unfold wLeft at b10
  unfold wOpen at b11
  unfold wNeed at b12
  refine ⟨?_, ?_, ?_⟩
  · unfold shpL
    rw [if_neg h1, if_neg h2, if_neg h3, if_neg h4, if_neg h5, if_neg h6, if_neg h7, if_neg h8, if_neg h9, if_neg h10, if_neg h11, if_neg h12]
  · unfold impl_commandShape.f impl_commandShape.fn impl_commandShape.top
    simp only [b1, b2, b3, b4, b5, b6, b7, b8, b9, b10, b11, b12, Bool.false_eq_true, if_false]
  · unfold spec_l34Kind.f spec_l34Kind.fn spec_l34Kind.top
    simp only [b1, b2, b3, b4, b5, b6, b7, b8, b9, b10, b11, b12, Bool.false_eq_true, if_false]
theorem shape_some {w : ByteArray} {l : List UInt8} (h : shpL w = some l) : impl_commandShape.f w = some (ob l, true) ∧ spec_l34Kind.f w = some (ob (l.map upK)) ∧ (∀ c ∈ l, c = 116 ∨ c = 105 ∨ c = 106) ∧ l.length ≤ 3 := by
  rcases shape_cases w with (rfl | rfl | rfl | rfl | rfl | rfl | rfl | rfl | rfl | rfl | rfl | rfl) | ⟨h1, _⟩
  all_goals first
    | (rw [h1] at h; cases h)
    | (have hl := Option.some.inj h; subst hl; exact ⟨by decide +kernel, by decide +kernel, by decide, by decide⟩)
theorem shape_none {w : ByteArray} (h : shpL w = none) : impl_commandShape.f w = some (⟨#[]⟩, false) ∧ spec_l34Kind.f w = some ⟨#[45]⟩ := by
  rcases shape_cases w with (rfl | rfl | rfl | rfl | rfl | rfl | rfl | rfl | rfl | rfl | rfl | rfl) | ⟨h1, h2⟩
  all_goals first
    | exact h2
    | (exfalso; revert h; decide +kernel)
end Go.Pl
