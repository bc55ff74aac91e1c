/- Part 7 of what the law FnCovered stands on: an evaluator of the model's code, proved sound; the functions as plain texts; their contracts. -/
import Derived.Test.YtfedipldlkncnaaChecked
import Derived.Test.YtfedipldlkncnaaProg
import Derived.Test.YtfedipldlkncnaaRows
import Derived.Below
import Derived.Calls
import Derived.Carry
import Derived.ChangeArms
import Derived.ChangeKeysEq
import Derived.ChangeOld
import Derived.Deep.Quiet
import Derived.KernelRfl
import Derived.Laws.Append
import Derived.Laws.BytesString
import Derived.Laws.MakeOwn
import Derived.Laws.Strings
import Derived.Laws.StructEq
import Derived.OpenShut
import Derived.OrdersHeld
import Derived.ProofKit
import Derived.ShutString
import Derived.SizedLaws
import Derived.Tactics
import Derived.WalkKit
import Derived.WideShapes
import Derived.Test.YtfedipldlkncnaaEvCovered6
/- Words for the plain laws. -/
namespace Go.Pl
open Go.Ev
set_option linter.unusedVariables false

theorem wf64 {n : Int} : (Lit.int .i64 n).wf = true ↔ (-9223372036854775808 ≤ n ∧ n ≤ 9223372036854775807) := by
  simp only [Lit.wf, Bool.and_eq_true, decide_eq_true_eq]
  have e1 : IntKind.i64.min = -9223372036854775808 := by decide
  have e2 : IntKind.i64.max = 9223372036854775807 := by decide
  omega
theorem wf8 {n : Int} : (Lit.int .u8 n).wf = true ↔ (0 ≤ n ∧ n ≤ 255) := by
  simp only [Lit.wf, Bool.and_eq_true, decide_eq_true_eq]
  have e1 : IntKind.u8.min = 0 := by decide
  have e2 : IntKind.u8.max = 255 := by decide
  omega
theorem w8 {n : Int} (h1 : 0 ≤ n) (h2 : n < 256) : IntKind.u8.wrap n = n := by
  simp only [IntKind.wrap, IntKind.bits, IntKind.signed]
  simp
  omega
theorem w8_range (n : Int) : 0 ≤ IntKind.u8.wrap n ∧ IntKind.u8.wrap n < 256 := by
  simp only [IntKind.wrap, IntKind.bits, IntKind.signed]
  simp
  omega

/-! Rows, taken apart where a loop stands. -/
theorem mid_get {α : Type} (p r : List α) (x z : α) : (p ++ x :: r).getD (p.length : Int).toNat z = x := by simp
theorem mid_set {α : Type} (p r : List α) (x y : α) : (p ++ x :: r).set (p.length : Int).toNat y = p ++ y :: r := by simp
theorem mid_getn {α : Type} (p r : List α) (x z : α) : (p ++ x :: r).getD p.length z = x := by simp
theorem mid_setn {α : Type} (p r : List α) (x y : α) : (p ++ x :: r).set p.length y = p ++ y :: r := by simp
theorem mid_len {α : Type} (p r : List α) (x : α) : ((p ++ x :: r).length : Int) = (p.length : Int) + r.length + 1 := by simp; omega
theorem mid_nil {α : Type} (p : List α) : p ++ [] = p := by simp
theorem mid_snoc {α : Type} (p r : List α) (x : α) : (p ++ [x]) ++ r = p ++ x :: r := by simp
theorem snoc_len {α : Type} (p : List α) (x : α) : ((p ++ [x]).length : Int) = (p.length : Int) + 1 := by simp
/-- A loop over a row: l stands for its rounds, f for what it comes to. -/
theorem loop_mid {α ρ σ : Type} {B : Nat} (l : Nat → List α → Int → σ → Option ρ) (f : List α → List α → σ → Option ρ)
    (hnil : ∀ k pre st, pre.length ≤ B → l (k + 1) pre (pre.length : Int) st = f pre [] st)
    (hcons : ∀ k pre a r st, pre.length + r.length + 1 ≤ B → (∀ st', l k (pre ++ a :: r) ((pre.length : Int) + 1) st' = f (pre ++ [a]) r st') → l (k + 1) (pre ++ a :: r) (pre.length : Int) st = f pre (a :: r) st) :
    ∀ r pre k st, pre.length + r.length ≤ B → r.length < k → l k (pre ++ r) (pre.length : Int) st = f pre r st := by
  intro r
  induction r with
  | nil =>
    intro pre k st h1 h2
    obtain ⟨k, rfl⟩ : ∃ j, k = j + 1 := ⟨k - 1, by omega⟩
    rw [List.append_nil]
    exact hnil k pre st (by simpa using h1)
  | cons a r ih =>
    intro pre k st h1 h2
    simp only [List.length_cons] at h1 h2
    obtain ⟨k, rfl⟩ : ∃ j, k = j + 1 := ⟨k - 1, by omega⟩
    refine hcons k pre a r st (by omega) fun st' => ?_
    have := ih (pre ++ [a]) k st' (by simp; omega) (by omega)
    rw [mid_snoc, snoc_len] at this
    exact this
/-- The same, where the row itself is written. -/
theorem loop_mid0 {α ρ σ : Type} {B : Nat} (l : Nat → List α → Int → σ → Option ρ) (f : List α → List α → σ → Option ρ)
    (hnil : ∀ k pre st, pre.length ≤ B → l (k + 1) pre (pre.length : Int) st = f pre [] st)
    (hcons : ∀ k pre a r st, pre.length + r.length + 1 ≤ B → (∀ st', l k (pre ++ a :: r) ((pre.length : Int) + 1) st' = f (pre ++ [a]) r st') → l (k + 1) (pre ++ a :: r) (pre.length : Int) st = f pre (a :: r) st)
    (xs : List α) (k : Nat) (st : σ) (h1 : xs.length ≤ B) (h2 : xs.length < k) : l k xs 0 st = f [] xs st := by
  have := loop_mid l f hnil hcons xs [] k st (by simpa using h1) h2
  simpa using this
/-- A loop by a measure. -/
theorem loop_by {ρ σ : Type} (l : Nat → σ → Option ρ) (μ : σ → Nat) (Q : σ → Option ρ → Prop)
    (h : ∀ k st, (∀ st', μ st' < μ st → Q st' (l k st')) → Q st (l (k + 1) st)) : ∀ k st, μ st < k → Q st (l k st) := by
  intro k
  induction k with
  | zero => intro st h; omega
  | succ k ih => intro st hk; exact h k st fun st' h' => ih st' (by omega)

/-! Bytes. -/
theorem ba_toList {a b : ByteArray} : a.toList = b.toList ↔ a = b := by
  rw [ByteArray.toList_eq, ByteArray.toList_eq]
  exact ⟨fun h => ByteArray.ext (Array.toList_inj.mp h), fun h => by rw [h]⟩
theorem ba_beq (a b : ByteArray) : (a.toList == b.toList) = decide (a = b) := by
  by_cases h : a = b
  · subst h; simp
  · rw [decide_eq_false h, beq_eq_false_iff_ne]; exact fun e => h (ba_toList.1 e)
def bl (s : ByteArray) : List UInt8 := s.data.toList
def ob (l : List UInt8) : ByteArray := ⟨l.toArray⟩
theorem bl_ob (l : List UInt8) : bl (ob l) = l := by simp [bl, ob]
theorem ob_bl (s : ByteArray) : ob (bl s) = s := by simp [bl, ob]
theorem bl_inj {a b : ByteArray} (h : bl a = bl b) : a = b := by rw [← ob_bl a, h, ob_bl]
theorem ob_inj {a b : List UInt8} (h : ob a = ob b) : a = b := by rw [← bl_ob a, h, bl_ob]
theorem bl_length (s : ByteArray) : (bl s).length = s.size := by simp only [bl, Array.length_toList]; rfl
theorem ob_size (l : List UInt8) : (ob l).size = l.length := by rw [← bl_length, bl_ob]
theorem bl_append (a b : ByteArray) : bl (a ++ b) = bl a ++ bl b := by simp [bl]
theorem ob_append (a b : List UInt8) : ob a ++ ob b = ob (a ++ b) := by apply bl_inj; rw [bl_append, bl_ob, bl_ob, bl_ob]
theorem bl_lit (a : Array UInt8) : bl (⟨a⟩ : ByteArray) = a.toList := rfl
theorem lit_ob (l : List UInt8) : (⟨l.toArray⟩ : ByteArray) = ob l := rfl
theorem bl_extract (s : ByteArray) (i j : Nat) : bl (s.extract i j) = ((bl s).take j).drop i := by
  simp only [bl, ByteArray.data_extract, Array.toList_extract, List.extract]
  rw [List.drop_take]
theorem ob_extract (l : List UInt8) (i j : Nat) : (ob l).extract i j = ob ((l.take j).drop i) := by apply bl_inj; rw [bl_extract, bl_ob, bl_ob]
theorem ob_toList (l : List UInt8) : (ob l).toList = l := by rw [ByteArray.toList_eq]; rfl
theorem ba_bl (s : ByteArray) : s.toList = bl s := by rw [ByteArray.toList_eq]; rfl
theorem bt_ob (l : List UInt8) (i : Int) : bt (ob l) i = ((l.getD i.toNat 0).toNat : Int) := rfl
theorem bt_mid (p r : List UInt8) (c : UInt8) : bt (ob (p ++ c :: r)) (p.length : Int) = (c.toNat : Int) := by rw [bt_ob, mid_get]
theorem bt_range (s : ByteArray) (i : Int) : 0 ≤ bt s i ∧ bt s i ≤ 255 := by
  unfold bt
  have := UInt8.toNat_lt ((s.data.toList.getD i.toNat 0))
  omega
theorem u8_lt (c : UInt8) : c.toNat < 256 := UInt8.toNat_lt c
theorem u8_eq {a : UInt8} {n : Nat} (h : n < 256) : ((a.toNat : Int) = (n : Int)) ↔ a = UInt8.ofNat n := by
  constructor
  · intro e
    apply UInt8.toNat_inj.mp
    rw [UInt8.toNat_ofNat']; omega
  · rintro rfl
    rw [UInt8.toNat_ofNat']; omega
theorem bytesOf_ob (l : List Int) : bytesOf l = ob (l.map fun n => UInt8.ofNat n.toNat) := rfl
/-- Every string is of bytes. -/
theorem ob_all {P : ByteArray → Prop} (h : ∀ l, P (ob l)) (s : ByteArray) : P s := by rw [← ob_bl s]; exact h _
/-- A loop over a string's bytes. -/
theorem loop_str0 {ρ σ : Type} {B : Nat} (l : Nat → ByteArray → Int → σ → Option ρ) (f : List UInt8 → List UInt8 → σ → Option ρ)
    (hnil : ∀ k pre st, pre.length ≤ B → l (k + 1) (ob pre) (pre.length : Int) st = f pre [] st)
    (hcons : ∀ k pre a r st, pre.length + r.length + 1 ≤ B → (∀ st', l k (ob (pre ++ a :: r)) ((pre.length : Int) + 1) st' = f (pre ++ [a]) r st') → l (k + 1) (ob (pre ++ a :: r)) (pre.length : Int) st = f pre (a :: r) st)
    (s : ByteArray) (k : Nat) (st : σ) (h1 : s.size ≤ B) (h2 : s.size < k) : l k s 0 st = f [] (bl s) st := by
  have := loop_mid0 (fun k xs i st => l k (ob xs) i st) f hnil hcons (bl s) k st (by rw [bl_length]; exact h1) (by rw [bl_length]; exact h2)
  rw [ob_bl] at this
  exact this
theorem room1 : room 1 = 140737488355328 := by decide
theorem room8 : room 8 = 17592186044416 := by decide
theorem room16 : room 16 = 8796093022208 := by decide
theorem room24 : room 24 = 5864062014805 := by decide
theorem room32 : room 32 = 4398046511104 := by decide
theorem room40 : room 40 = 3518437208883 := by decide
theorem NNb : (1000000000000 : Nat) < NN := by rw [NN_eq]; omega
theorem NN_lt {n : Nat} (h : n < 1152921504606846976) : n < NN := by rw [NN_eq]; omega
theorem some_iff {b c : Bool} (h : b = true ↔ c = true) : some b = some c := by
  congr 1; exact Bool.eq_iff_iff.mpr h
end Go.Pl

/- A law's row: what its arguments are, in plain words. -/
namespace Go.Ev
set_option linter.unusedVariables false
set_option linter.unusedSimpArgs false
open Go.RowKit Go.WideShapes Go.ChangeShapes Go.ChangeAt
variable {P : Program}

def Rg (k : IntKind) (n : Int) : Prop := (Lit.int k n).wf = true
def Sz (s : ByteArray) : Prop := s.size ≤ 140737488355328
def Ls {α : Type} (Q : α → Prop) (xs : List α) : Prop := xs.length ≤ 140737488355328 ∧ ∀ x ∈ xs, Q x
def Plain : (t : Ty) → t.I → Prop
  | .int k, n => Rg k n
  | .bool, _ => True
  | .str, s => Sz s
  | .sl _ t, xs => Ls (Plain t) xs
  | .slb _ _, _ => True
  | .pair a b, x => Plain a x.1 ∧ Plain b x.2
  | .arr n t, xs => xs.length = n ∧ ∀ x ∈ xs, Plain t x
def PlainAll : (ts : List Ty) → Tup ts → Prop
  | [], _ => True
  | [t], x => Plain t x
  | t :: u :: r, x => Plain t x.1 ∧ PlainAll (u :: r) x.2
def okE (B : TypeId → Nat) : Ty → Bool
  | .sl e t => decide (1 ≤ B e) && okE B t
  | .slb e t => decide (1 ≤ B e) && okE B t
  | .pair a b => okE B a && okE B b
  | .arr _ t => okE B t
  | _ => true
theorem reach_lt : reachBytes ≤ 140737488355328 := by decide
theorem fit_plain {B : TypeId → Nat} : ∀ (t : Ty) (x : t.I), okE B t = true → Fit B t x → Plain t x := by
  intro t
  induction t with
  | int k => intro x _ h; exact h
  | bool => intro x _ h; trivial
  | str => intro x _ h; exact Nat.le_trans h reach_lt
  | sl e t ih =>
    intro x ho h
    simp only [okE, Bool.and_eq_true, decide_eq_true_eq] at ho
    refine ⟨?_, fun y hy => ih y ho.2 (h.2 y hy)⟩
    have h1 : x.length * 1 ≤ x.length * B e := Nat.mul_le_mul_left _ ho.1
    have h2 := h.1
    have h3 := reach_lt
    omega
  | slb e t ih => intro x ho h; trivial
  | pair a b iha ihb =>
    intro x ho h
    simp only [okE, Bool.and_eq_true] at ho
    exact ⟨iha _ ho.1 h.1, ihb _ ho.2 h.2⟩
  | arr n t ih => intro x ho h; exact ⟨h.1, fun y hy => ih y ho (h.2 y hy)⟩
theorem fit_plainAll {B : TypeId → Nat} : ∀ (ts : List Ty) (x : Tup ts), ts.all (okE B) = true → FitAll B ts x → PlainAll ts x := by
  intro ts
  induction ts with
  | nil => intro x _ _; trivial
  | cons t r ih =>
    intro x ho h
    simp only [List.all_cons, Bool.and_eq_true] at ho
    cases r with
    | nil => exact fit_plain t x ho.1 h
    | cons u r => exact ⟨fit_plain t x.1 ho.1 h.1, ih x.2 ho.2 h.2⟩
theorem ok_all {tab : List TRow} (h : okB P tab = true) : tab.all (rowB P tab) = true := by
  unfold okB at h; simp only [Bool.and_eq_true] at h; exact h.2.2
theorem bytes_sound {tab : List TRow} (h : okB P tab = true) : ∀ t x, tabT tab t = some x → P.bytesOf t = tabB tab t := by
  intro t x ht
  have hs := tab_sound (ok_all h)
  obtain ⟨ty, n⟩ := x
  obtain ⟨i, h1, h2⟩ := (hs.1 t ty n ht).info
  unfold Program.bytesOf
  rw [h1]
  exact hs.2 t _ ht i h1
section
variable {H : Type} {enc : TypeId × Value → H} {w : World} {base : Nat} {spare : Nat → Bool} {held : Bool}
theorem law_row {tab : List TRow} (hok : okB P tab = true) (hpos : posB tab = true) {f : FuncId} {c : Con} (hg : Good P f c) (hps : (c.ps.map (·.2)).map ((Kn.val, ·)) = c.ps) (hE : (c.ps.map (·.2)).all (okE (tabB tab)) = true)
    (hlaw : ∀ x, PlainAll (c.ps.map (·.2)) x → ∃ r, c.F x = some r ∧ kds' c.rs (dats _ r) = [(.val, ⟨.bool, true⟩)])
    {r : Reach} {b0 : Nat} {ts : List TypeId} {args : Array Value} {ds : List (DataW H)} {p : List MemPlace} (hts : tysOf (tabT tab) ts = some (c.ps.map (·.2))) (h : DataW.TrodAll enc P w base spare held ts args.toList ds p)
    (hval : ∀ (j : Nat) t v, ts[j]? = some t → args[j]? = some v → Value.okWide P w r b0 t v) {vt : List TypeId} {gs : List (DataW H)} (hgs : vt = [] ∨ gs = []) (hw : (DataW.weightsEach P (ts ++ vt) (ds ++ gs)).all (· ≤ reachBytes) = true) (hl : ts.length = ds.length) :
    Calls P f args w fun e w' => e = .returned (.bool true) ∧ Below w.heap.size w w' := by
  refine law_calls (tab_sound (ok_all hok)).1 (bytes_sound hok) (posB_sound hpos) hg hps (fun x hx => hlaw x (fit_plainAll _ x hE hx)) hts h (fun j t v hj hv => hval j t v hj (by simpa using hv)) ?_
  have key : ∀ (ts : List TypeId) (ds : List (DataW H)), ts.length = ds.length → ∀ m ∈ DataW.weightsEach P ts ds, m ∈ DataW.weightsEach P (ts ++ vt) (ds ++ gs) := by
    intro ts
    induction ts with
    | nil => intro ds hl m hm; cases ds <;> simp [DataW.weightsEach] at hm
    | cons t ts ih =>
      intro ds hl m hm
      cases ds with
      | nil => simp [DataW.weightsEach] at hm
      | cons d ds =>
        simp only [List.cons_append, DataW.weightsEach, List.mem_append] at hm ⊢
        rcases hm with hm | hm
        · exact .inl hm
        · exact .inr (ih ds (by simpa using hl) m hm)
  intro m hm
  have := List.all_eq_true.1 hw m (key ts ds hl m hm)
  simpa using this
end
end Go.Ev

/- What the laws' own helpers do, loop by loop: sizes, copies, comparisons, marks. -/
namespace Go.Pl
open Go.Ev
set_option linter.unusedVariables false

def Sm (s : ByteArray) : Prop := s.size ≤ 1000000
def Lm {α : Type} (Q : α → Prop) (xs : List α) : Prop := xs.length ≤ 1000000 ∧ ∀ x ∈ xs, Q x

theorem eqS_loop {α : Type} {E : α → Prop} (l : Nat → List α → List α → Int → Option Bool) (a : List α) (hE : ∀ x ∈ a, E x)
    (hs : ∀ k p x r, E x → a = p ++ x :: r → l (k + 1) a a p.length = l k a a ((p.length : Int) + 1)) (he : ∀ k, l (k + 1) a a a.length = some true) :
    ∀ k, a.length < k → l k a a 0 = some true := by
  have key : ∀ (r p : List α) (k : Nat), a = p ++ r → r.length < k → l k a a p.length = some true := by
    intro r
    induction r with
    | nil =>
      intro p k h hk
      obtain ⟨k, rfl⟩ : ∃ j, k = j + 1 := ⟨k - 1, by omega⟩
      rw [List.append_nil] at h
      rw [← h]; exact he k
    | cons x r ih =>
      intro p k h hk
      simp only [List.length_cons] at hk
      obtain ⟨k, rfl⟩ : ∃ j, k = j + 1 := ⟨k - 1, by omega⟩
      rw [hs k p x r (hE x (by rw [h]; simp)) h]
      have := ih (p ++ [x]) k (by rw [h]; simp) (by omega)
      rw [snoc_len] at this
      exact this
  intro k hk
  have := key a [] k (by simp) hk
  simpa using this

theorem szS_loop {α : Type} {Q R : α → Prop} (l : Nat → List α → Int → Int → Option Int)
    (he : ∀ k p left, l (k + 1) p left p.length = some left)
    (hs : ∀ x, Q x → ∀ left, -1000000000000000 ≤ left → left ≤ 1000000 → ∃ s, s ≤ 1000000 ∧ (0 ≤ s → s ≤ left ∧ R x) ∧ ∀ k p r, p.length + r.length + 1 ≤ 140737488355328 → l (k + 1) (p ++ x :: r) left p.length = if s < 0 then some (-1) else l k (p ++ x :: r) s ((p.length : Int) + 1))
    (a : List α) (k : Nat) (left : Int) (h0 : -1000000000000000 ≤ left) (h1 : left ≤ 1000000) (ha : Ls Q a) (hk : a.length < k) : ∃ s, l k a left 0 = some s ∧ s ≤ 1000000 ∧ (0 ≤ s → s ≤ left ∧ ∀ x ∈ a, R x) := by
  have key : ∀ (r p : List α) (k : Nat) (left : Int), p.length + r.length ≤ 140737488355328 → (∀ x ∈ r, Q x) → -1000000000000000 ≤ left → left ≤ 1000000 → r.length < k → ∃ s, l k (p ++ r) left p.length = some s ∧ s ≤ 1000000 ∧ (0 ≤ s → s ≤ left ∧ ∀ x ∈ r, R x) := by
    intro r
    induction r with
    | nil =>
      intro p k left _ _ _ _ hk
      obtain ⟨k, rfl⟩ : ∃ j, k = j + 1 := ⟨k - 1, by omega⟩
      rw [List.append_nil]
      exact ⟨left, he k p left, by omega, fun _ => ⟨by omega, fun x hx => by cases hx⟩⟩
    | cons x r ih =>
      intro p k left hb hq h0 h1 hk
      simp only [List.length_cons] at hk hb
      obtain ⟨k, rfl⟩ : ∃ j, k = j + 1 := ⟨k - 1, by omega⟩
      obtain ⟨s, s1, s2, s3⟩ := hs x (hq x (by simp)) left h0 h1
      rw [s3 k p r (by omega)]
      by_cases hn : s < 0
      · rw [if_pos hn]; exact ⟨-1, rfl, by omega, by omega⟩
      · rw [if_neg hn]
        obtain ⟨u, u1, u2, u3⟩ := ih (p ++ [x]) k s (by simp; omega) (fun y hy => hq y (by simp [hy])) (by omega) (by omega) (by omega)
        rw [mid_snoc, snoc_len] at u1
        refine ⟨u, u1, by omega, fun h => ⟨by have := (u3 h).1; have := (s2 (by omega)).1; omega, fun y hy => ?_⟩⟩
        rcases List.mem_cons.1 hy with rfl | hy
        · exact (s2 (by omega)).2
        · exact (u3 h).2 y hy
  have := key a [] k left (by simpa using ha.1) ha.2 h0 h1 hk
  simpa using this

theorem toS_loop {α : Type} {Z R : α → Prop} (l5 l9 : Nat → List α → Int → List α → Option (List α × List α))
    (he9 : ∀ k a (out : List α), (a.length : Int) ≤ out.length → l9 (k + 1) a out.length out = some (out.take a.length, out.drop a.length))
    (hs9 : ∀ k a (i : Nat) (out : List α), i < out.length → out.length ≤ 140737488355328 → ∃ z, Z z ∧ l9 (k + 1) a i out = l9 k a ((i : Int) + 1) (out.set i z))
    (he5 : ∀ k a (out : List α), l5 (k + 1) a a.length out = l9 NN a a.length out)
    (hs5 : ∀ k (p r : List α) x (q s : List α) y, R x → p.length = q.length → p.length + r.length + 1 ≤ 140737488355328 → p.length + s.length + 1 ≤ 140737488355328 → l5 (k + 1) (p ++ x :: r) p.length (q ++ y :: s) = l5 k (p ++ x :: r) ((p.length : Int) + 1) (q ++ x :: s))
    (a : List α) (out : List α) (k : Nat) (ha : ∀ x ∈ a, R x) (h : a.length ≤ out.length) (hb : out.length ≤ 140737488355328) (hk : a.length < k) :
    ∃ fil, l5 k a 0 out = some (a, fil) ∧ fil.length = out.length - a.length ∧ ∀ x ∈ fil, Z x := by
  have hN : 140737488355328 < NN := NN_lt (by omega)
  have k9 : ∀ (d : Nat) (k : Nat) (i : Nat) (out : List α), out.length ≤ 140737488355328 → i + d = out.length → d < k → a.length ≤ i → out.take a.length = a → (∀ j x, a.length ≤ j → j < i → out[j]? = some x → Z x) →
      ∃ fil, l9 k a i out = some (a, fil) ∧ fil.length = out.length - a.length ∧ ∀ x ∈ fil, Z x := by
    intro d
    induction d with
    | zero =>
      intro k i out hb hi hk ha ht hz
      obtain ⟨k, rfl⟩ : ∃ j, k = j + 1 := ⟨k - 1, by omega⟩
      obtain rfl : i = out.length := by omega
      refine ⟨_, by rw [he9 k a out (by omega), ht], by simp, fun x hx => ?_⟩
      obtain ⟨m, hm⟩ := List.mem_iff_getElem?.1 hx
      rw [List.getElem?_drop] at hm
      exact hz _ x (by omega) (List.getElem?_eq_some_iff.1 hm).1 hm
    | succ d ih =>
      intro k i out hb hi hk ha ht hz
      obtain ⟨k, rfl⟩ : ∃ j, k = j + 1 := ⟨k - 1, by omega⟩
      obtain ⟨z, z1, z2⟩ := hs9 k a i out (by omega) hb
      rw [z2]
      obtain ⟨fil, f1, f2, f3⟩ := ih k (i + 1) (out.set i z) (by simpa using hb) (by simp; omega) (by omega) (by omega) (by rw [List.take_set_of_le ha]; exact ht) (fun j x h1 h2 h3 => by
        by_cases hj : i = j
        · subst hj
          rw [List.getElem?_set_self (by omega)] at h3
          cases h3; exact z1
        · rw [List.getElem?_set_ne hj] at h3
          exact hz j x h1 (by omega) h3)
      exact ⟨fil, f1, by simpa using f2, f3⟩
  have k5 : ∀ (r p : List α) (s : List α) (k : Nat), p ++ r = a → p.length + s.length ≤ 140737488355328 → r.length ≤ s.length → r.length < k → (∀ x ∈ r, R x) →
      ∃ fil, l5 k a p.length (p ++ s) = some (a, fil) ∧ fil.length = p.length + s.length - a.length ∧ ∀ x ∈ fil, Z x := by
    intro r
    induction r with
    | nil =>
      intro p s k h3 h4 h5 hk _
      obtain ⟨k, rfl⟩ : ∃ j, k = j + 1 := ⟨k - 1, by omega⟩
      rw [List.append_nil] at h3
      subst h3
      rw [he5]
      obtain ⟨fil, f1, f2, f3⟩ := k9 s.length NN p.length (p ++ s) (by simp; omega) (by simp) (by omega) (by omega) (by rw [List.take_left' rfl]) (fun j x h1 h2 => by omega)
      exact ⟨fil, f1, by rw [f2]; simp, f3⟩
    | cons x r ih =>
      intro p s k h3 h4 h5 hk hR
      simp only [List.length_cons] at h5 hk
      obtain ⟨k, rfl⟩ : ∃ j, k = j + 1 := ⟨k - 1, by omega⟩
      cases s with
      | nil => simp at h5
      | cons y s =>
        have hs := hs5 k p r x p s y (hR x (by simp)) rfl (by simp only [List.length_cons] at h4 h5; omega) (by simp only [List.length_cons] at h4; omega)
        rw [h3] at hs
        rw [hs]
        obtain ⟨fil, f1, f2, f3⟩ := ih (p ++ [x]) s k (by rw [← h3]; simp) (by simp only [List.length_append, List.length_cons, List.length_nil] at h4 ⊢; omega) (by simp only [List.length_cons] at h5; omega) (by omega) (fun z hz => hR z (by simp [hz]))
        rw [mid_snoc, snoc_len] at f1
        exact ⟨fil, f1, by rw [f2]; simp only [List.length_append, List.length_cons, List.length_nil]; omega, f3⟩
  obtain ⟨fil, f1, f2, f3⟩ := k5 a [] out k rfl (by simpa using hb) h hk ha
  exact ⟨fil, by simpa using f1, by simpa using f2, f3⟩

/-- Rows that are marked, and looked at afterwards. -/
theorem mark_held {α : Type} {Q : α → Prop} (l : Nat → List α → Int → Int → Option (Int × List α)) (lh : Nat → List α → Int → Int → Option Int) (C : Nat) (K : Int)
    (he : ∀ k p n, l (k + 1) p n p.length = some (n, p)) (heh : ∀ k p n, lh (k + 1) p n p.length = some n)
    (hs : ∀ x, Q x → ∀ n, 0 ≤ n → n ≤ K → ∃ x' n', n ≤ n' ∧ n' ≤ n + C ∧ (∀ k p r, p.length + r.length + 1 ≤ 1000000 → l (k + 1) (p ++ x :: r) n p.length = l k (p ++ x' :: r) n' ((p.length : Int) + 1))
      ∧ (∀ k p r, p.length + r.length + 1 ≤ 1000000 → lh (k + 1) (p ++ x' :: r) n p.length = lh k (p ++ x' :: r) n' ((p.length : Int) + 1)))
    (a : List α) (ha : Lm Q a) (n : Int) (h0 : 0 ≤ n) (h1 : n + (1000000 * C : Nat) ≤ K) (k kh : Nat) (hk : 1000000 < k) (hkh : 1000000 < kh) :
    ∃ n' a', l k a n 0 = some (n', a') ∧ lh kh a' n 0 = some n' ∧ n ≤ n' ∧ n' ≤ n + (1000000 * C : Nat) := by
  have key : ∀ (r p : List α) (k : Nat) (n : Int), p.length + r.length ≤ 1000000 → (∀ x ∈ r, Q x) → 0 ≤ n → n + ((r.length * C : Nat) : Int) ≤ K → r.length < k →
      ∃ n' r', l k (p ++ r) n p.length = some (n', p ++ r') ∧ r'.length = r.length ∧ n ≤ n' ∧ n' ≤ n + ((r.length * C : Nat) : Int) ∧ (∀ (q : List α) kh, q.length = p.length → r.length < kh → lh kh (q ++ r') n q.length = some n') := by
    intro r
    induction r with
    | nil =>
      intro p k n _ _ h0 _ hk
      obtain ⟨k, rfl⟩ : ∃ j, k = j + 1 := ⟨k - 1, by omega⟩
      refine ⟨n, [], by rw [List.append_nil]; exact he k p n, rfl, by omega, by simp, fun q kh _ hkh => ?_⟩
      obtain ⟨kh, rfl⟩ : ∃ j, kh = j + 1 := ⟨kh - 1, by simp at hkh; omega⟩
      rw [List.append_nil]; exact heh kh q n
    | cons x r ih =>
      intro p k n hb hq h0 hK hk
      simp only [List.length_cons] at hk hb hK
      obtain ⟨k, rfl⟩ : ∃ j, k = j + 1 := ⟨k - 1, by omega⟩
      have hm : (r.length + 1) * C = r.length * C + C := by rw [Nat.add_mul, Nat.one_mul]
      rw [hm] at hK
      obtain ⟨x', n1, a1, a2, a3, a4⟩ := hs x (hq x (by simp)) n h0 (by omega)
      rw [a3 k p r (by omega)]
      obtain ⟨n', r', b1, b2, b3, b4, b5⟩ := ih (p ++ [x']) k n1 (by simp; omega) (fun y hy => hq y (by simp [hy])) (by omega) (by omega) (by omega)
      rw [mid_snoc, snoc_len] at b1
      refine ⟨n', x' :: r', by rw [b1]; simp, by simp [b2], by omega, by simp only [List.length_cons]; rw [hm]; omega, fun q kh hq' hkh => ?_⟩
      simp only [List.length_cons] at hkh
      obtain ⟨kh, rfl⟩ : ∃ j, kh = j + 1 := ⟨kh - 1, by omega⟩
      rw [a4 kh q r' (by omega)]
      have := b5 (q ++ [x']) kh (by simp [hq']) (by omega)
      rw [mid_snoc, snoc_len] at this
      exact this
  have hle : ((a.length * C : Nat) : Int) ≤ ((1000000 * C : Nat) : Int) := Int.ofNat_le.2 (Nat.mul_le_mul_right _ ha.1)
  obtain ⟨n', r', b1, b2, b3, b4, b5⟩ := key a [] k n (by simpa using ha.1) ha.2 h0 (by omega) (by have := ha.1; omega)
  have := b5 [] kh rfl (by have := ha.1; omega)
  exact ⟨n', r', by simpa using b1, by simpa using this, b3, by omega⟩
theorem mem_mid {α : Type} {a p r : List α} {x : α} (h : a = p ++ x :: r) : x ∈ a := by rw [h]; simp
end Go.Pl

/- Loops of a few sorts, and what they come to. -/
namespace Go.Pl
open Go.Ev
set_option linter.unusedVariables false

/-- false at the first element that fails -/
theorem all_loop {α : Type} {E : α → Prop} (P : α → Bool) (fin : List α → Option Bool) (l : Nat → List α → Int → Option Bool)
    (hn : ∀ k p, l (k + 1) p p.length = fin p)
    (hc : ∀ k p a r, E a → (0 : Int) ≤ (p.length : Int) → (p.length : Int) < ((p ++ a :: r).length : Int) → IntKind.i64.wrap ((p.length : Int) + 1) = (p.length : Int) + 1 → l (k + 1) (p ++ a :: r) p.length = if P a = true then l k (p ++ a :: r) ((p.length : Int) + 1) else some false)
    (xs : List α) (hE : ∀ x ∈ xs, E x) (hB : xs.length ≤ 140737488355328) (k : Nat) (hk : xs.length < k) : l k xs 0 = if xs.all P = true then fin xs else some false := by
  have key : ∀ (r p : List α) (k : Nat), p.length + r.length ≤ 140737488355328 → (∀ x ∈ r, E x) → r.length < k → l k (p ++ r) p.length = if r.all P = true then fin (p ++ r) else some false := by
    intro r
    induction r with
    | nil =>
      intro p k _ _ hk
      obtain ⟨k, rfl⟩ : ∃ j, k = j + 1 := ⟨k - 1, by omega⟩
      rw [List.append_nil, hn]; simp
    | cons a r ih =>
      intro p k hb he hk
      simp only [List.length_cons] at hk hb
      obtain ⟨k, rfl⟩ : ∃ j, k = j + 1 := ⟨k - 1, by omega⟩
      have hm := mid_len p r a
      rw [hc k p a r (he a (by simp)) (by omega) (by omega) (w64 (by omega) (by omega))]
      have := ih (p ++ [a]) k (by simp; omega) (fun y hy => he y (by simp [hy])) (by omega)
      rw [mid_snoc, snoc_len] at this
      rw [this]
      cases h : P a <;> simp [h]
  have := key xs [] k (by simpa using hB) hE hk
  simpa using this
/-- the same over a string's bytes -/
theorem all_loop_str (P : UInt8 → Bool) (fin : ByteArray → Option Bool) (l : Nat → ByteArray → Int → Option Bool)
    (hn : ∀ k p, l (k + 1) (ob p) p.length = fin (ob p))
    (hc : ∀ k p a r, (0 : Int) ≤ (p.length : Int) → (p.length : Int) < ((ob (p ++ a :: r)).size : Int) → IntKind.i64.wrap ((p.length : Int) + 1) = (p.length : Int) + 1 → l (k + 1) (ob (p ++ a :: r)) p.length = if P a = true then l k (ob (p ++ a :: r)) ((p.length : Int) + 1) else some false)
    (s : ByteArray) (hB : s.size ≤ 140737488355328) (k : Nat) (hk : s.size < k) : l k s 0 = if (bl s).all P = true then fin s else some false := by
  have := all_loop (E := fun _ => True) P (fun x => fin (ob x)) (fun k x i => l k (ob x) i) hn (fun k p a r _ h1 h2 h3 => hc k p a r h1 (by rw [ob_size]; exact h2) h3) (bl s) (fun _ _ => trivial) (by rw [bl_length]; exact hB) k (by rw [bl_length]; exact hk)
  rw [ob_bl] at this
  exact this

def foldi {α σ : Type} (f : Nat → σ → α → σ) : Nat → σ → List α → σ
  | _, st, [] => st
  | i, st, a :: r => foldi f (i + 1) (f i st a) r
theorem foldi_foldl {α σ : Type} (f : σ → α → σ) : ∀ (xs : List α) (i : Nat) (st : σ), foldi (fun _ => f) i st xs = xs.foldl f st := by
  intro xs
  induction xs with
  | nil => intro i st; rfl
  | cons a r ih => intro i st; exact ih _ _
theorem foldi_append {α σ : Type} (f : Nat → σ → α → σ) : ∀ (xs ys : List α) (i : Nat) (st : σ), foldi f i st (xs ++ ys) = foldi f (i + xs.length) (foldi f i st xs) ys := by
  intro xs
  induction xs with
  | nil => intro ys i st; rfl
  | cons a r ih => intro ys i st; simp only [List.cons_append, foldi, List.length_cons]; rw [ih, show i + 1 + r.length = i + (r.length + 1) by omega]
/-- a state that goes from element to element; I: what holds of it behind a part of the row -/
theorem fold_loop {α σ ρ : Type} {E : α → Prop} (I : List α → σ → Prop) (f : Nat → σ → α → σ) (fin : List α → σ → Option ρ) (l : Nat → List α → Int → σ → Option ρ)
    (hn : ∀ k p st, I p st → l (k + 1) p p.length st = fin p st)
    (hc : ∀ k p a r st, E a → I p st → (0 : Int) ≤ (p.length : Int) → (p.length : Int) < ((p ++ a :: r).length : Int) → p.length < 140737488355328 → IntKind.i64.wrap ((p.length : Int) + 1) = (p.length : Int) + 1 →
      I (p ++ [a]) (f p.length st a) ∧ l (k + 1) (p ++ a :: r) p.length st = l k (p ++ a :: r) ((p.length : Int) + 1) (f p.length st a))
    (xs : List α) (st : σ) (hE : ∀ x ∈ xs, E x) (hI : I [] st) (hB : xs.length ≤ 140737488355328) (k : Nat) (hk : xs.length < k) :
    I xs (foldi f 0 st xs) ∧ l k xs 0 st = fin xs (foldi f 0 st xs) := by
  have key : ∀ (r p : List α) (k : Nat) (st : σ), p.length + r.length ≤ 140737488355328 → (∀ x ∈ r, E x) → I p st → r.length < k → I (p ++ r) (foldi f p.length st r) ∧ l k (p ++ r) p.length st = fin (p ++ r) (foldi f p.length st r) := by
    intro r
    induction r with
    | nil =>
      intro p k st _ _ hI hk
      obtain ⟨k, rfl⟩ : ∃ j, k = j + 1 := ⟨k - 1, by omega⟩
      rw [List.append_nil]; exact ⟨hI, hn k p st hI⟩
    | cons a r ih =>
      intro p k st hb he hI hk
      simp only [List.length_cons] at hk hb
      obtain ⟨k, rfl⟩ : ∃ j, k = j + 1 := ⟨k - 1, by omega⟩
      have hm := mid_len p r a
      obtain ⟨h1, h2⟩ := hc k p a r st (he a (by simp)) hI (by omega) (by omega) (by omega) (w64 (by omega) (by omega))
      have := ih (p ++ [a]) k (f p.length st a) (by simp; omega) (fun y hy => he y (by simp [hy])) h1 (by omega)
      rw [mid_snoc, snoc_len] at this
      rw [h2]
      simpa [foldi] using this
  have := key xs [] k st (by simpa using hB) hE hI hk
  simpa using this
/-- the same over a string's bytes -/
theorem fold_loop_str {σ ρ : Type} (I : List UInt8 → σ → Prop) (f : Nat → σ → UInt8 → σ) (fin : ByteArray → σ → Option ρ) (l : Nat → ByteArray → Int → σ → Option ρ)
    (hn : ∀ k p st, I p st → l (k + 1) (ob p) p.length st = fin (ob p) st)
    (hc : ∀ k p a r st, I p st → (0 : Int) ≤ (p.length : Int) → (p.length : Int) < ((ob (p ++ a :: r)).size : Int) → p.length < 140737488355328 → IntKind.i64.wrap ((p.length : Int) + 1) = (p.length : Int) + 1 →
      I (p ++ [a]) (f p.length st a) ∧ l (k + 1) (ob (p ++ a :: r)) p.length st = l k (ob (p ++ a :: r)) ((p.length : Int) + 1) (f p.length st a))
    (s : ByteArray) (st : σ) (hI : I [] st) (hB : s.size ≤ 140737488355328) (k : Nat) (hk : s.size < k) :
    I (bl s) (foldi f 0 st (bl s)) ∧ l k s 0 st = fin s (foldi f 0 st (bl s)) := by
  have := fold_loop (E := fun _ => True) I f (fun x => fin (ob x)) (fun k x i st => l k (ob x) i st) hn (fun k p a r st _ hI h1 h2 h3 h4 => hc k p a r st hI h1 (by rw [ob_size]; exact h2) h3 h4) (bl s) st (fun _ _ => trivial) hI (by rw [bl_length]; exact hB) k (by rw [bl_length]; exact hk)
  rw [ob_bl] at this
  exact this
/-- fold_loop, of one row: the rounds may look at it as a whole -/
theorem fold_fix {α σ ρ : Type} {E : α → Prop} (I : List α → σ → Prop) (f : Nat → σ → α → σ) (fin : σ → Option ρ) (l : Nat → Int → σ → Option ρ) (xs : List α)
    (hn : ∀ k st, I xs st → l (k + 1) xs.length st = fin st)
    (hc : ∀ k p a r st, xs = p ++ a :: r → E a → I p st → (0 : Int) ≤ (p.length : Int) → (p.length : Int) < (xs.length : Int) → p.length < 140737488355328 → IntKind.i64.wrap ((p.length : Int) + 1) = (p.length : Int) + 1 → (∀ z, xs.getD p.length z = a) →
      I (p ++ [a]) (f p.length st a) ∧ l (k + 1) p.length st = l k ((p.length : Int) + 1) (f p.length st a))
    (st : σ) (hE : ∀ x ∈ xs, E x) (hI : I [] st) (hB : xs.length ≤ 140737488355328) (k : Nat) (hk : xs.length < k) :
    I xs (foldi f 0 st xs) ∧ l k 0 st = fin (foldi f 0 st xs) := by
  have key : ∀ (r p : List α) (k : Nat) (st : σ), xs = p ++ r → (∀ x ∈ r, E x) → I p st → r.length < k → I xs (foldi f p.length st r) ∧ l k p.length st = fin (foldi f p.length st r) := by
    intro r
    induction r with
    | nil =>
      intro p k st hx _ hI hk
      obtain ⟨k, rfl⟩ : ∃ j, k = j + 1 := ⟨k - 1, by omega⟩
      rw [List.append_nil] at hx
      subst hx; exact ⟨hI, hn k st hI⟩
    | cons a r ih =>
      intro p k st hx he hI hk
      simp only [List.length_cons] at hk
      obtain ⟨k, rfl⟩ : ∃ j, k = j + 1 := ⟨k - 1, by omega⟩
      have hm := mid_len p r a
      have hxl : (xs.length : Int) = ((p ++ a :: r).length : Int) := by rw [hx]
      obtain ⟨h1, h2⟩ := hc k p a r st hx (he a (by simp)) hI (by omega) (by omega) (by omega) (w64 (by omega) (by omega)) (fun z => by rw [hx, mid_getn])
      have := ih (p ++ [a]) k (f p.length st a) (by rw [hx]; simp) (fun y hy => he y (by simp [hy])) h1 (by omega)
      rw [snoc_len] at this
      rw [h2]
      simpa [foldi] using this
  have := key xs [] k st (by simp) hE hI hk
  simpa using this
/-- the first element that is looked for, and its number -/
def firstOf {α : Type} (P : α → Bool) : Nat → List α → Option (Nat × α)
  | _, [] => none
  | i, a :: r => if P a = true then some (i, a) else firstOf P (i + 1) r
theorem find_loop {α ρ : Type} {E : α → Prop} (P : α → Bool) (hit : Nat → α → Option ρ) (fin : List α → Option ρ) (l : Nat → List α → Int → Option ρ)
    (hn : ∀ k p, l (k + 1) p p.length = fin p)
    (hc : ∀ k p a r, E a → (0 : Int) ≤ (p.length : Int) → (p.length : Int) < ((p ++ a :: r).length : Int) → p.length < 140737488355328 → IntKind.i64.wrap ((p.length : Int) + 1) = (p.length : Int) + 1 → l (k + 1) (p ++ a :: r) p.length = if P a = true then hit p.length a else l k (p ++ a :: r) ((p.length : Int) + 1))
    (xs : List α) (hE : ∀ x ∈ xs, E x) (hB : xs.length ≤ 140737488355328) (k : Nat) (hk : xs.length < k) : l k xs 0 = (firstOf P 0 xs).elim (fin xs) (fun x => hit x.1 x.2) := by
  have key : ∀ (r p : List α) (k : Nat), p.length + r.length ≤ 140737488355328 → (∀ x ∈ r, E x) → r.length < k → l k (p ++ r) p.length = (firstOf P p.length r).elim (fin (p ++ r)) (fun x => hit x.1 x.2) := by
    intro r
    induction r with
    | nil =>
      intro p k _ _ hk
      obtain ⟨k, rfl⟩ : ∃ j, k = j + 1 := ⟨k - 1, by omega⟩
      rw [List.append_nil, hn]; rfl
    | cons a r ih =>
      intro p k hb he hk
      simp only [List.length_cons] at hk hb
      obtain ⟨k, rfl⟩ : ∃ j, k = j + 1 := ⟨k - 1, by omega⟩
      have hm := mid_len p r a
      rw [hc k p a r (he a (by simp)) (by omega) (by omega) (by omega) (w64 (by omega) (by omega))]
      have := ih (p ++ [a]) k (by simp; omega) (fun y hy => he y (by simp [hy])) (by omega)
      rw [mid_snoc, snoc_len] at this
      rw [this]
      cases h : P a <;> simp [h, firstOf]
  have := key xs [] k (by simpa using hB) hE hk
  simpa using this
end Go.Pl

namespace Go.Pl
open Go.Ev
set_option linter.unusedVariables false
noncomputable section
def impl_IsWord.g4 (L4 : ByteArray → Int → Option Bool) (s0 : ByteArray) (i3 : Int) : Option Bool :=
  if (decide ((i3 : Int) < (s0.size : Int))) = true then
    if (0 : Int) ≤ i3 ∧ (i3 : Int) < s0.size then
      if (decide (((bt s0 i3) : Int) < 97)) = false then
        if (0 : Int) ≤ i3 ∧ (i3 : Int) < s0.size then
          if (decide ((122 : Int) < (bt s0 i3))) = true then
            some false
          else
            L4 s0 (IntKind.i64.wrap (i3 + 1))
        else
          none
      else
        some false
    else
      none
  else
    some true
def impl_IsWord.l4 (n : Nat) : Nat → ByteArray → Int → Option Bool
  | 0 => fun _ _ => none
  | k + 1 => impl_IsWord.g4 (impl_IsWord.l4 n k)
def impl_IsWord.top (I4 : ByteArray → Int → Option Bool) (s0 : ByteArray) : Option Bool :=
  if (decide (((s0.size : Int) : Int) < 1)) = false then
    if (decide ((16 : Int) < (s0.size : Int))) = true then
      some false
    else
      I4 s0 0
  else
    some false
def impl_IsWord.fn (n : Nat) (s0 : ByteArray) : Option Bool := impl_IsWord.top (impl_IsWord.l4 n n) s0
def impl_IsWord.f (s0 : ByteArray) : Option Bool := impl_IsWord.fn NN s0
end
end Go.Pl

namespace Go.Pl
open Go.Ev
set_option linter.unusedVariables false
noncomputable section
def spec_IsWord.g2 (L2 : ByteArray → Int → Option Bool) (s0 : ByteArray) (i3 : Int) : Option Bool :=
  if (decide ((i3 : Int) < (s0.size : Int))) = true then
    if (0 : Int) ≤ i3 ∧ (i3 : Int) < s0.size then
      if (decide (((bt s0 i3) : Int) < 97)) = false then
        if (0 : Int) ≤ i3 ∧ (i3 : Int) < s0.size then
          if (decide ((122 : Int) < (bt s0 i3))) = true then
            some false
          else
            L2 s0 (IntKind.i64.wrap (i3 + 1))
        else
          none
      else
        some false
    else
      none
  else
    (spec_l01In.f (s0.size : Int) 1 16).bind fun r1 =>
    some r1
def spec_IsWord.l2 (n : Nat) : Nat → ByteArray → Int → Option Bool
  | 0 => fun _ _ => none
  | k + 1 => spec_IsWord.g2 (spec_IsWord.l2 n k)
def spec_IsWord.top (I2 : ByteArray → Int → Option Bool) (s0 : ByteArray) : Option Bool :=
  I2 s0 0
def spec_IsWord.fn (n : Nat) (s0 : ByteArray) : Option Bool := spec_IsWord.top (spec_IsWord.l2 n n) s0
def spec_IsWord.f (s0 : ByteArray) : Option Bool := spec_IsWord.fn NN s0
end
end Go.Pl

namespace Go.Pl
open Go.Ev
set_option linter.unusedVariables false
set_option linter.unusedSimpArgs false
def inB (n lo hi : Int) : Bool := decide (lo ≤ n) && decide (n ≤ hi)
theorem inB_iff {n lo hi : Int} : inB n lo hi = true ↔ lo ≤ n ∧ n ≤ hi := by unfold inB; simp
theorem impl_within_f (n lo hi : Int) : impl_within.f n lo hi = some (inB n lo hi) := by
  unfold impl_within.f impl_within.fn impl_within.top inB
  by_cases h : lo ≤ n <;> simp [h]
theorem spec_l01In_f (n lo hi : Int) : spec_l01In.f n lo hi = some (inB n lo hi) := by
  unfold spec_l01In.f spec_l01In.fn spec_l01In.top inB
  by_cases h : lo ≤ n <;> simp [h]
/-- a letter -/
def letB (c : UInt8) : Bool := !(decide ((c.toNat : Int) < 97)) && !(decide (122 < (c.toNat : Int)))
def wordB (s : ByteArray) : Bool := decide (1 ≤ s.size) && decide (s.size ≤ 16) && (bl s).all letB
theorem wordB_size {s : ByteArray} (h : wordB s = true) : 1 ≤ s.size ∧ s.size ≤ 16 := by
  unfold wordB at h; simp at h; exact h.1
theorem impl_IsWord_loop (s : ByteArray) (h : s.size ≤ 140737488355328) : impl_IsWord.l4 NN NN s 0 = if (bl s).all letB = true then some true else some false := by
  refine all_loop_str letB (fun s => some true) (fun k s i => impl_IsWord.l4 NN k s i) ?_ ?_ s h NN (NN_lt (by omega))
  · intro k p
    show impl_IsWord.g4 _ (ob p) p.length = _
    simp [impl_IsWord.g4, ob_size, spec_l01In_f]
  · intro k p a r c0 c1 cw
    show impl_IsWord.g4 (impl_IsWord.l4 NN k) (ob (p ++ a :: r)) p.length = _
    simp only [impl_IsWord.g4, c0, c1, cw, and_self, and_true, true_and, decide_true, decide_false, if_true, if_false, mid_get, mid_set, mid_getn, mid_setn, bt_mid, Option.bind_some, Bool.not_true, Bool.not_false, Bool.false_eq_true, Bool.true_eq_false, beq_self_eq_true, bne_self_eq_false, Int.toNat_natCast]
    unfold letB
    by_cases h1 : (a.toNat : Int) < 97 <;> by_cases h2 : (122 : Int) < (a.toNat : Int) <;> simp [h1, h2]
theorem spec_IsWord_loop (s : ByteArray) (h : s.size ≤ 140737488355328) : spec_IsWord.l2 NN NN s 0 = if (bl s).all letB = true then some (inB s.size 1 16) else some false := by
  refine all_loop_str letB (fun s => some (inB s.size 1 16)) (fun k s i => spec_IsWord.l2 NN k s i) ?_ ?_ s h NN (NN_lt (by omega))
  · intro k p
    show spec_IsWord.g2 _ (ob p) p.length = _
    simp [spec_IsWord.g2, ob_size, spec_l01In_f]
  · intro k p a r c0 c1 cw
    show spec_IsWord.g2 (spec_IsWord.l2 NN k) (ob (p ++ a :: r)) p.length = _
    simp only [spec_IsWord.g2, c0, c1, cw, and_self, and_true, true_and, decide_true, decide_false, if_true, if_false, mid_get, mid_set, mid_getn, mid_setn, bt_mid, Option.bind_some, Bool.not_true, Bool.not_false, Bool.false_eq_true, Bool.true_eq_false, beq_self_eq_true, bne_self_eq_false, Int.toNat_natCast]
    unfold letB
    by_cases h1 : (a.toNat : Int) < 97 <;> by_cases h2 : (122 : Int) < (a.toNat : Int) <;> simp [h1, h2]
theorem impl_IsWord_f (s : ByteArray) (h : s.size ≤ 140737488355328) : impl_IsWord.f s = some (wordB s) := by
  unfold impl_IsWord.f impl_IsWord.fn impl_IsWord.top
  rw [impl_IsWord_loop s h]
  unfold wordB
  by_cases h1 : (s.size : Int) < 1
  · have : ¬ 1 ≤ s.size := by omega
    simp [h1, this]
  · have e1 : 1 ≤ s.size := by omega
    by_cases h2 : (16 : Int) < s.size
    · have : ¬ s.size ≤ 16 := by omega
      simp [h1, h2, this]
    · have : s.size ≤ 16 := by omega
      cases h3 : (bl s).all letB <;> simp [h1, h2, this, h3, e1]
theorem spec_IsWord_f (s : ByteArray) (h : s.size ≤ 140737488355328) : spec_IsWord.f s = some (wordB s) := by
  unfold spec_IsWord.f spec_IsWord.fn spec_IsWord.top
  rw [spec_IsWord_loop s h]
  unfold wordB inB
  have e1 : decide ((1 : Int) ≤ s.size) = decide (1 ≤ s.size) := by congr 1; simp; omega
  have e2 : decide ((s.size : Int) ≤ 16) = decide (s.size ≤ 16) := by congr 1; simp; omega
  rw [e1, e2]
  cases h3 : (bl s).all letB <;> simp
end Go.Pl

namespace Go.Pl
open Go.Ev
set_option linter.unusedVariables false
set_option linter.unusedSimpArgs false
def PlRatio (x : Int × Int) : Prop := Rg .i64 x.1 ∧ Rg .i64 x.2
def OkRatio (x : Int × Int) : Prop := Rg .i64 x.1 ∧ Rg .i64 x.2
def PlArticle (x : ByteArray × Int × Int × Int × Int × Int × Int × Int × Int) : Prop := Sz x.1 ∧ Rg .i64 x.2.1 ∧ Rg .i64 x.2.2.1 ∧ Rg .i64 x.2.2.2.1 ∧ Rg .i64 x.2.2.2.2.1 ∧ Rg .i64 x.2.2.2.2.2.1 ∧ Rg .i64 x.2.2.2.2.2.2.1 ∧ Rg .i64 x.2.2.2.2.2.2.2.1 ∧ Rg .i64 x.2.2.2.2.2.2.2.2
def OkArticle (x : ByteArray × Int × Int × Int × Int × Int × Int × Int × Int) : Prop := Sm x.1 ∧ Rg .i64 x.2.1 ∧ Rg .i64 x.2.2.1 ∧ Rg .i64 x.2.2.2.1 ∧ Rg .i64 x.2.2.2.2.1 ∧ Rg .i64 x.2.2.2.2.2.1 ∧ Rg .i64 x.2.2.2.2.2.2.1 ∧ Rg .i64 x.2.2.2.2.2.2.2.1 ∧ Rg .i64 x.2.2.2.2.2.2.2.2
def PlLayer (x : Int × Int × Int) : Prop := Rg .i64 x.1 ∧ Rg .i64 x.2.1 ∧ Rg .i64 x.2.2
def OkLayer (x : Int × Int × Int) : Prop := Rg .i64 x.1 ∧ Rg .i64 x.2.1 ∧ Rg .i64 x.2.2
def PlShot (x : Int × Int × Int × Int) : Prop := Rg .i64 x.1 ∧ Rg .i64 x.2.1 ∧ Rg .i64 x.2.2.1 ∧ Rg .i64 x.2.2.2
def OkShot (x : Int × Int × Int × Int) : Prop := Rg .i64 x.1 ∧ Rg .i64 x.2.1 ∧ Rg .i64 x.2.2.1 ∧ Rg .i64 x.2.2.2
def PlBar (x : Int × Int) : Prop := Rg .i64 x.1 ∧ Rg .i64 x.2
def OkBar (x : Int × Int) : Prop := Rg .i64 x.1 ∧ Rg .i64 x.2
def PlCue (x : Int × Int × ByteArray × Int) : Prop := Rg .i64 x.1 ∧ Rg .i64 x.2.1 ∧ Sz x.2.2.1 ∧ Rg .i64 x.2.2.2
def OkCue (x : Int × Int × ByteArray × Int) : Prop := Rg .i64 x.1 ∧ Rg .i64 x.2.1 ∧ Sm x.2.2.1 ∧ Rg .i64 x.2.2.2
def PlShow (x : (List (Int × Int)) × (List (ByteArray × Int × Int × Int × Int × Int × Int × Int × Int)) × (List (Int × Int × ByteArray × Int))) : Prop := Ls PlBar x.1 ∧ Ls PlArticle x.2.1 ∧ Ls PlCue x.2.2
def OkShow (x : (List (Int × Int)) × (List (ByteArray × Int × Int × Int × Int × Int × Int × Int × Int)) × (List (Int × Int × ByteArray × Int))) : Prop := Lm OkBar x.1 ∧ Lm OkArticle x.2.1 ∧ Lm OkCue x.2.2
def PlFuse (x : Int × Int × Int × Int) : Prop := Rg .i64 x.1 ∧ Rg .i64 x.2.1 ∧ Rg .i64 x.2.2.1 ∧ Rg .i64 x.2.2.2
def OkFuse (x : Int × Int × Int × Int) : Prop := Rg .i64 x.1 ∧ Rg .i64 x.2.1 ∧ Rg .i64 x.2.2.1 ∧ Rg .i64 x.2.2.2
def PlLink (x : Int × Int) : Prop := Rg .i64 x.1 ∧ Rg .i64 x.2
def OkLink (x : Int × Int) : Prop := Rg .i64 x.1 ∧ Rg .i64 x.2
def PlModule (x : Int × Int) : Prop := Rg .i64 x.1 ∧ Rg .i64 x.2
def OkModule (x : Int × Int) : Prop := Rg .i64 x.1 ∧ Rg .i64 x.2
def PlWire (x : Int × Int × Int) : Prop := Rg .i64 x.1 ∧ Rg .i64 x.2.1 ∧ Rg .i64 x.2.2
def OkWire (x : Int × Int × Int) : Prop := Rg .i64 x.1 ∧ Rg .i64 x.2.1 ∧ Rg .i64 x.2.2
def PlCircuit (x : Int × List Int) : Prop := Rg .i64 x.1 ∧ Ls (Rg .i64) x.2
def OkCircuit (x : Int × List Int) : Prop := Rg .i64 x.1 ∧ Lm (Rg .i64) x.2
def PlArea (x : Int × Int × Int × Int × Int) : Prop := Rg .i64 x.1 ∧ Rg .i64 x.2.1 ∧ Rg .i64 x.2.2.1 ∧ Rg .i64 x.2.2.2.1 ∧ Rg .i64 x.2.2.2.2
def OkArea (x : Int × Int × Int × Int × Int) : Prop := Rg .i64 x.1 ∧ Rg .i64 x.2.1 ∧ Rg .i64 x.2.2.1 ∧ Rg .i64 x.2.2.2.1 ∧ Rg .i64 x.2.2.2.2
def PlDemand (x : Int × Int × Int) : Prop := Rg .i64 x.1 ∧ Rg .i64 x.2.1 ∧ Rg .i64 x.2.2
def OkDemand (x : Int × Int × Int) : Prop := Rg .i64 x.1 ∧ Rg .i64 x.2.1 ∧ Rg .i64 x.2.2
def PlRack (x : Int × Int × List Int × List ByteArray) : Prop := Rg .i64 x.1 ∧ Rg .i64 x.2.1 ∧ Ls (Rg .i64) x.2.2.1 ∧ Ls Sz x.2.2.2
def OkRack (x : Int × Int × List Int × List ByteArray) : Prop := Rg .i64 x.1 ∧ Rg .i64 x.2.1 ∧ Lm (Rg .i64) x.2.2.1 ∧ Lm Sm x.2.2.2
def PlField (x : (List (Int × Int × Int)) × (List (Int × Int × Int × Int × Int)) × List Int × List Int × List Int × Int) : Prop := Ls PlDemand x.1 ∧ Ls PlArea x.2.1 ∧ Ls (Rg .i64) x.2.2.1 ∧ Ls (Rg .i64) x.2.2.2.1 ∧ Ls (Rg .i64) x.2.2.2.2.1 ∧ Rg .i64 x.2.2.2.2.2
def OkField (x : (List (Int × Int × Int)) × (List (Int × Int × Int × Int × Int)) × List Int × List Int × List Int × Int) : Prop := Lm OkDemand x.1 ∧ Lm OkArea x.2.1 ∧ Lm (Rg .i64) x.2.2.1 ∧ Lm (Rg .i64) x.2.2.2.1 ∧ Lm (Rg .i64) x.2.2.2.2.1 ∧ Rg .i64 x.2.2.2.2.2
def PlMove (x : Int × ByteArray × Int) : Prop := Rg .i64 x.1 ∧ Sz x.2.1 ∧ Rg .i64 x.2.2
def OkMove (x : Int × ByteArray × Int) : Prop := Rg .i64 x.1 ∧ Sm x.2.1 ∧ Rg .i64 x.2.2
def PlController (x : Bool × Bool × Bool × Bool × Bool × Int) : Prop := True ∧ True ∧ True ∧ True ∧ True ∧ Rg .i64 x.2.2.2.2.2
def OkController (x : Bool × Bool × Bool × Bool × Bool × Int) : Prop := True ∧ True ∧ True ∧ True ∧ True ∧ Rg .i64 x.2.2.2.2.2
def PlSignal (x : Int × Int) : Prop := Rg .i64 x.1 ∧ Rg .i64 x.2
def OkSignal (x : Int × Int) : Prop := Rg .i64 x.1 ∧ Rg .i64 x.2
def PlTry (x : Int × Int × Bool) : Prop := Rg .i64 x.1 ∧ Rg .i64 x.2.1 ∧ True
def OkTry (x : Int × Int × Bool) : Prop := Rg .i64 x.1 ∧ Rg .i64 x.2.1 ∧ True
def PlMagazine (x : Int × List Int) : Prop := Rg .i64 x.1 ∧ Ls (Rg .i64) x.2
def OkMagazine (x : Int × List Int) : Prop := Rg .i64 x.1 ∧ Lm (Rg .i64) x.2
def PlDepot (x : Int × Int × Int) : Prop := Rg .i64 x.1 ∧ Rg .i64 x.2.1 ∧ Rg .i64 x.2.2
def OkDepot (x : Int × Int × Int) : Prop := Rg .i64 x.1 ∧ Rg .i64 x.2.1 ∧ Rg .i64 x.2.2
def PlBox (x : Int × Int) : Prop := Rg .i64 x.1 ∧ Rg .i64 x.2
def OkBox (x : Int × Int) : Prop := Rg .i64 x.1 ∧ Rg .i64 x.2
def PlLine (x : ByteArray × Int) : Prop := Sz x.1 ∧ Rg .i64 x.2
def OkLine (x : ByteArray × Int) : Prop := Sm x.1 ∧ Rg .i64 x.2
def PlPaper (x : ByteArray × Int × (List (ByteArray × Int))) : Prop := Sz x.1 ∧ Rg .i64 x.2.1 ∧ Ls PlLine x.2.2
def OkPaper (x : ByteArray × Int × (List (ByteArray × Int))) : Prop := Sm x.1 ∧ Rg .i64 x.2.1 ∧ Lm OkLine x.2.2
def PlPermit (x : Int × Int × Int × Int × List Int × Int) : Prop := Rg .i64 x.1 ∧ Rg .i64 x.2.1 ∧ Rg .i64 x.2.2.1 ∧ Rg .i64 x.2.2.2.1 ∧ Ls (Rg .i64) x.2.2.2.2.1 ∧ Rg .i64 x.2.2.2.2.2
def OkPermit (x : Int × Int × Int × Int × List Int × Int) : Prop := Rg .i64 x.1 ∧ Rg .i64 x.2.1 ∧ Rg .i64 x.2.2.1 ∧ Rg .i64 x.2.2.2.1 ∧ Lm (Rg .i64) x.2.2.2.2.1 ∧ Rg .i64 x.2.2.2.2.2
def PlGrid (x : Int × Int × List Bool) : Prop := Rg .i64 x.1 ∧ Rg .i64 x.2.1 ∧ Ls (fun _ => True) x.2.2
def OkGrid (x : Int × Int × List Bool) : Prop := Rg .i64 x.1 ∧ Rg .i64 x.2.1 ∧ Lm (fun _ => True) x.2.2
def PlBooking (x : Int × ByteArray × Int) : Prop := Rg .i64 x.1 ∧ Sz x.2.1 ∧ Rg .i64 x.2.2
def OkBooking (x : Int × ByteArray × Int) : Prop := Rg .i64 x.1 ∧ Sm x.2.1 ∧ Rg .i64 x.2.2
def PlEntry (x : Int × ByteArray) : Prop := Rg .u8 x.1 ∧ Sz x.2
def OkEntry (x : Int × ByteArray) : Prop := Rg .u8 x.1 ∧ Sm x.2
def PlDesk (x : (List (Int × ByteArray × Int)) × (List (Int × Int)) × (List (Int × ByteArray × Int))) : Prop := Ls PlMove x.1 ∧ Ls PlSignal x.2.1 ∧ Ls PlBooking x.2.2
def OkDesk (x : (List (Int × ByteArray × Int)) × (List (Int × Int)) × (List (Int × ByteArray × Int))) : Prop := Lm OkMove x.1 ∧ Lm OkSignal x.2.1 ∧ Lm OkBooking x.2.2
end Go.Pl

namespace Go.Pl
open Go.Ev
set_option linter.unusedVariables false
set_option linter.unusedSimpArgs false
theorem impl_isDay_f (n : Int) : impl_isDay.f n = some (inB n 0 100000) := by
  unfold impl_isDay.f impl_isDay.fn impl_isDay.top
  rw [impl_within_f]; rfl
theorem impl_isCalibre_f (n : Int) : impl_isCalibre.f n = some (inB n 20 300) := by
  unfold impl_isCalibre.f impl_isCalibre.fn impl_isCalibre.top
  rw [impl_within_f]; rfl
theorem impl_allWithin_f (xs : List Int) (lo hi : Int) (h : xs.length ≤ 140737488355328) : impl_allWithin.f xs lo hi = some (xs.all (inB · lo hi)) := by
  have := all_loop (E := fun _ => True) (inB · lo hi) (fun _ => some true) (fun k xs i => impl_allWithin.l2 NN k lo hi xs xs.length i) ?_ ?_ xs (fun _ _ => trivial) h NN (NN_lt (by omega))
  · unfold impl_allWithin.f impl_allWithin.fn impl_allWithin.top
    refine this.trans ?_
    cases xs.all (inB · lo hi) <;> simp
  · intro k p
    simp [impl_allWithin.l2, impl_allWithin.g2]
  · intro k p a r _ c0 c1 cw
    simp only [impl_allWithin.l2, impl_allWithin.g2, c0, c1, cw, and_self, and_true, true_and, decide_true, decide_false, if_true, if_false, mid_get, mid_set, mid_getn, mid_setn, bt_mid, Option.bind_some, Bool.not_true, Bool.not_false, Bool.false_eq_true, Bool.true_eq_false, beq_self_eq_true, bne_self_eq_false, Int.toNat_natCast, impl_within_f]
    cases inB a lo hi <;> simp
/-- strictly rising -/
def risB : List Int → Bool
  | [] => true
  | [_] => true
  | a :: b :: r => decide (a < b) && risB (b :: r)
theorem risB_snoc : ∀ (p : List Int) (a b : Int), risB (p ++ [a, b]) = (risB (p ++ [a]) && decide (a < b)) := by
  intro p
  induction p with
  | nil => intro a b; simp [risB]
  | cons x p ih =>
    intro a b
    cases p with
    | nil => simp [risB]
    | cons y p =>
      have := ih a b
      simp only [List.cons_append] at this ⊢
      simp only [risB, this, Bool.and_assoc]
/-- rises, looked at from its second element on -/
def risF : Int → List Int → Bool
  | _, [] => true
  | a, b :: r => decide (a < b) && risF b r
theorem risB_cons (a : Int) (r : List Int) : risB (a :: r) = risF a r := by
  induction r generalizing a with
  | nil => rfl
  | cons b r ih => simp only [risB, risF, ih]
theorem snoc_getl (p r : List Int) (x a z : Int) : (p ++ [x] ++ a :: r).getD p.length z = x := by simp
theorem impl_IsPermit_loop (f t n c g : Int) : ∀ (r p : List Int) (x : Int) (k : Nat), p.length + r.length + 1 ≤ 140737488355328 → r.length < k →
    impl_IsPermit.l4 NN k ((p.length : Int) + 1) (f, t, n, c, p ++ [x] ++ r, g) = some (risF x r) := by
  intro r
  induction r with
  | nil =>
    intro p x k _ hk
    obtain ⟨k, rfl⟩ : ∃ j, k = j + 1 := ⟨k - 1, by omega⟩
    simp [impl_IsPermit.l4, impl_IsPermit.g4, risF]
  | cons a r ih =>
    intro p x k hb hk
    simp only [List.length_cons] at hb hk
    obtain ⟨k, rfl⟩ : ∃ j, k = j + 1 := ⟨k - 1, by omega⟩
    have hl : ((p ++ [x] ++ a :: r).length : Int) = p.length + r.length + 2 := by simp; omega
    have w1 := w64 (n := (p.length : Int) + 1 - 1) (by omega) (by omega)
    have w2 := w64 (n := (p.length : Int) + 1 + 1) (by omega) (by omega)
    have c1 : (p.length : Int) + 1 < ((p ++ [x] ++ a :: r).length : Int) := by omega
    have c2 : (0 : Int) ≤ (p.length : Int) + 1 - 1 := by omega
    have c3 : (p.length : Int) + 1 - 1 < ((p ++ [x] ++ a :: r).length : Int) := by omega
    have c4 : (0 : Int) ≤ (p.length : Int) + 1 := by omega
    have g1 : (p ++ [x] ++ a :: r).getD ((p.length : Int) + 1).toNat 0 = a := by
      rw [show ((p.length : Int) + 1).toNat = (p ++ [x]).length by simp, mid_getn]
    have g2 : (p ++ [x] ++ a :: r).getD ((p.length : Int) + 1 - 1).toNat 0 = x := by
      rw [show ((p.length : Int) + 1 - 1).toNat = p.length by omega, snoc_getl]
    simp only [impl_IsPermit.l4, impl_IsPermit.g4, w1, w2, c1, c2, c3, c4, g1, g2, and_self, decide_true, if_true, decide_eq_true_eq, risF]
    have := ih (p ++ [x]) a k (by simp; omega) (by omega)
    by_cases h : a ≤ x
    · have h' : ¬ x < a := by omega
      simp [h, h']
    · have h' : x < a := by omega
      simp only [h, h', if_false, decide_true, Bool.true_and]
      rw [← this]
      simp
theorem spec_l01Rises_loop (n : Int) (hn : Rg .i64 (n - 1)) : ∀ (r p : List Int) (x : Int) (k : Nat), p.length + r.length + 1 ≤ 140737488355328 → r.length < k →
    spec_l01Rises.l2 NN k (p ++ [x] ++ r) n ((p.length : Int) + 1) = some (r.all (inB · 0 (n - 1)) && risF x r) := by
  intro r
  induction r with
  | nil =>
    intro p x k _ hk
    obtain ⟨k, rfl⟩ : ∃ j, k = j + 1 := ⟨k - 1, by omega⟩
    simp [spec_l01Rises.l2, spec_l01Rises.g2, risF]
  | cons a r ih =>
    intro p x k hb hk
    simp only [List.length_cons] at hb hk
    obtain ⟨k, rfl⟩ : ∃ j, k = j + 1 := ⟨k - 1, by omega⟩
    have hl : ((p ++ [x] ++ a :: r).length : Int) = p.length + r.length + 2 := by simp; omega
    have w1 := w64 (n := (p.length : Int) + 1 - 1) (by omega) (by omega)
    have w2 := w64 (n := (p.length : Int) + 1 + 1) (by omega) (by omega)
    have hn' := wf64.1 hn
    have w3 := w64 (n := n - 1) (by omega) (by omega)
    have c1 : (p.length : Int) + 1 < ((p ++ [x] ++ a :: r).length : Int) := by omega
    have c2 : (0 : Int) ≤ (p.length : Int) + 1 - 1 := by omega
    have c3 : (p.length : Int) + 1 - 1 < ((p ++ [x] ++ a :: r).length : Int) := by omega
    have c4 : (0 : Int) ≤ (p.length : Int) + 1 := by omega
    have c5 : (0 : Int) < (p.length : Int) + 1 := by omega
    have g1 : (p ++ [x] ++ a :: r).getD ((p.length : Int) + 1).toNat 0 = a := by
      rw [show ((p.length : Int) + 1).toNat = (p ++ [x]).length by simp, mid_getn]
    have g2 : (p ++ [x] ++ a :: r).getD ((p.length : Int) + 1 - 1).toNat 0 = x := by
      rw [show ((p.length : Int) + 1 - 1).toNat = p.length by omega, snoc_getl]
    simp only [spec_l01Rises.l2, spec_l01Rises.g2, w1, w2, w3, c1, c2, c3, c4, c5, g1, g2, and_self, decide_true, if_true, decide_eq_true_eq, risF, spec_l01In_f, Option.bind_some, List.all_cons]
    have := ih (p ++ [x]) a k (by simp; omega) (by omega)
    cases h0 : inB a 0 (n - 1)
    · simp
    by_cases h : a ≤ x
    · have h' : ¬ x < a := by omega
      simp [h, h']
    · have h' : x < a := by omega
      simp only [h, h', if_false, decide_true, Bool.true_and, Bool.not_true, if_true]
      rw [← this]
      simp
theorem spec_l01Rises_f (xs : List Int) (n : Int) (hn : Rg .i64 (n - 1)) (h : xs.length ≤ 140737488355328) : spec_l01Rises.f xs n = some (xs.all (inB · 0 (n - 1)) && risB xs) := by
  unfold spec_l01Rises.f spec_l01Rises.fn spec_l01Rises.top
  obtain ⟨k, hk⟩ : ∃ j, NN = j + 1 := ⟨NN - 1, by have := NNb; omega⟩
  have hkb : 1000000000000000 < k := by rw [NN_eq] at hk; omega
  cases xs with
  | nil => rw [show spec_l01Rises.l2 NN NN = spec_l01Rises.l2 NN (k + 1) by rw [← hk]]; simp [spec_l01Rises.l2, spec_l01Rises.g2, risB]
  | cons a r =>
    simp only [List.length_cons] at h
    have hl := spec_l01Rises_loop n hn r [] a k (by simp; omega) (by omega)
    have hn' := wf64.1 hn
    have w3 := w64 (n := n - 1) (by omega) (by omega)
    have w1 := w64 (n := 0 + 1) (by omega) (by omega)
    have c1 : (0 : Int) < ((a :: r).length : Int) := by simp only [List.length_cons]; omega
    rw [show spec_l01Rises.l2 NN NN = spec_l01Rises.l2 NN (k + 1) by rw [← hk]]
    simp only [spec_l01Rises.l2, spec_l01Rises.g2, c1, w1, w3, spec_l01In_f]
    simp at hl
    simp [risB_cons, hl]
    cases inB a 0 (n - 1) <;> simp
def permB (p : Int × Int × Int × Int × List Int × Int) : Bool :=
  inB p.1 0 100000 && inB p.2.1 p.1 100000 && inB p.2.2.1 0 1000000000 && inB p.2.2.2.1 20 300 && (p.2.2.2.2.1.all (inB · 0 3) && risB p.2.2.2.2.1) && inB p.2.2.2.2.2 0 3
theorem spec_IsPermit_f (p : Int × Int × Int × Int × List Int × Int) (h : p.2.2.2.2.1.length ≤ 140737488355328) : spec_IsPermit.f p = some (permB p) := by
  unfold spec_IsPermit.f spec_IsPermit.fn spec_IsPermit.top permB
  simp only [spec_l01In_f, spec_l01Rises_f _ 4 (wf64.2 (by omega)) h, Option.bind_some, show (4 : Int) - 1 = 3 from rfl]
  cases inB p.1 0 100000 <;> cases inB p.2.1 p.1 100000 <;> cases inB p.2.2.1 0 1000000000 <;> cases inB p.2.2.2.1 20 300 <;> cases (p.2.2.2.2.1.all (inB · 0 3)) <;> cases risB p.2.2.2.2.1 <;> cases inB p.2.2.2.2.2 0 3 <;> rfl
theorem impl_IsPermit_f (p : Int × Int × Int × Int × List Int × Int) (h : p.2.2.2.2.1.length ≤ 140737488355328) : impl_IsPermit.f p = some (permB p) := by
  unfold impl_IsPermit.f impl_IsPermit.fn impl_IsPermit.top permB
  obtain ⟨f, t, n, c, ks, g⟩ := p
  simp only at h
  have hl : impl_IsPermit.l4 NN NN 1 (f, t, n, c, ks, g) = some (risB ks) := by
    cases ks with
    | nil =>
      obtain ⟨k, hk⟩ : ∃ j, NN = j + 1 := ⟨NN - 1, by have := NNb; omega⟩
      rw [show impl_IsPermit.l4 NN NN = impl_IsPermit.l4 NN (k + 1) by rw [← hk]]
      simp [impl_IsPermit.l4, impl_IsPermit.g4, risB]
    | cons a r =>
      simp only [List.length_cons] at h
      have := impl_IsPermit_loop f t n c g r [] a NN (by simp; omega) (NN_lt (by omega))
      simp at this
      rw [risB_cons, ← this]
  simp only [impl_isDay_f, impl_isCalibre_f, impl_within_f, impl_allWithin_f _ _ _ h, Option.bind_some, hl]
  have e : (inB f 0 100000 && inB t f 100000) = (inB f 0 100000 && inB t 0 100000 && !decide (t < f)) := by
    unfold inB
    by_cases h1 : 0 ≤ f <;> by_cases h2 : f ≤ 100000 <;> by_cases h3 : t ≤ 100000 <;> by_cases h4 : f ≤ t <;> by_cases h5 : 0 ≤ t <;> simp [h1, h2, h3, h4, h5] <;> omega
  rw [e]
  cases inB f 0 100000 <;> cases inB t 0 100000 <;> cases decide (t < f) <;> cases inB n 0 1000000000 <;> cases inB c 20 300 <;> cases (ks.all (inB · 0 3)) <;> cases inB g 0 3 <;> simp
theorem IsPermit_core (p : Int × Int × Int × Int × List Int × Int) (h : OkPermit p) : ∃ w, spec_IsPermit.f p = some w ∧ impl_IsPermit.f p = some w ∧ True :=
  have h1 : p.2.2.2.2.1.length ≤ 140737488355328 := Nat.le_trans h.2.2.2.2.1.1 (by omega)
  ⟨_, spec_IsPermit_f p h1, impl_IsPermit_f p h1, trivial⟩
end Go.Pl

namespace Go.Pl
open Go.Ev
set_option linter.unusedVariables false
noncomputable section
def impl_areLines.g4 (L4 : (List (ByteArray × Int)) → (List (ByteArray × Int)) → Int → Int → Option Bool) (lines0 : List (ByteArray × Int)) (v8 : List (ByteArray × Int)) (v9 : Int) (v10 : Int) : Option Bool :=
  if (decide ((v10 : Int) < v9)) = true then
    if (0 : Int) ≤ v10 ∧ (v10 : Int) < v8.length then
      (impl_IsWord.f ((v8.getD (v10 : Int).toNat (ByteArray.empty, 0)).1)).bind fun r1 =>
      if (!r1) = false then
        (impl_within.f ((v8.getD (v10 : Int).toNat (ByteArray.empty, 0)).2) 1 1000).bind fun r2 =>
        if (!r2) = false then
          if (decide ((0 : Int) < v10)) = true then
            if (0 : Int) ≤ (IntKind.i64.wrap (v10 - 1)) ∧ ((IntKind.i64.wrap (v10 - 1)) : Int) < lines0.length then
              if (!(Op.bytesLess ((lines0.getD ((IntKind.i64.wrap (v10 - 1)) : Int).toNat (ByteArray.empty, 0)).1).toList ((v8.getD (v10 : Int).toNat (ByteArray.empty, 0)).1).toList)) = true then
                some false
              else
                L4 lines0 v8 v9 (IntKind.i64.wrap (v10 + 1))
            else
              none
          else
            L4 lines0 v8 v9 (IntKind.i64.wrap (v10 + 1))
        else
          some false
      else
        some false
    else
      none
  else
    some true
def impl_areLines.l4 (n : Nat) : Nat → (List (ByteArray × Int)) → (List (ByteArray × Int)) → Int → Int → Option Bool
  | 0 => fun _ _ _ _ => none
  | k + 1 => impl_areLines.g4 (impl_areLines.l4 n k)
def impl_areLines.top (I4 : (List (ByteArray × Int)) → (List (ByteArray × Int)) → Int → Int → Option Bool) (lines0 : List (ByteArray × Int)) : Option Bool :=
  if (decide ((12 : Int) < (lines0.length : Int))) = true then
    some false
  else
    I4 lines0 lines0 (lines0.length : Int) 0
def impl_areLines.fn (n : Nat) (lines0 : List (ByteArray × Int)) : Option Bool := impl_areLines.top (impl_areLines.l4 n n) lines0
def impl_areLines.f (lines0 : List (ByteArray × Int)) : Option Bool := impl_areLines.fn NN lines0
end
end Go.Pl

namespace Go.Pl
open Go.Ev
set_option linter.unusedVariables false
noncomputable section
def impl_IsPaper.top (p0 : ByteArray × Int × List (ByteArray × Int)) : Option Bool :=
  (impl_IsWord.f p0.1).bind fun r1 =>
  if r1 = true then
    (impl_isDay.f p0.2.1).bind fun r2 =>
    if r2 = true then
      (impl_areLines.f p0.2.2).bind fun r3 =>
      some r3
    else
      some false
  else
    some false
def impl_IsPaper.fn (n : Nat) (p0 : ByteArray × Int × List (ByteArray × Int)) : Option Bool := impl_IsPaper.top p0
def impl_IsPaper.f (p0 : ByteArray × Int × List (ByteArray × Int)) : Option Bool := impl_IsPaper.fn NN p0
end
end Go.Pl

namespace Go.Pl
open Go.Ev
set_option linter.unusedVariables false
noncomputable section
def spec_IsPaper.g2 (L2 : Int → (ByteArray × Int × List (ByteArray × Int)) → Option Bool) (i3 : Int) (p1 : ByteArray × Int × List (ByteArray × Int)) : Option Bool :=
  if (decide ((i3 : Int) < (p1.2.2.length : Int))) = true then
    if (0 : Int) ≤ i3 ∧ (i3 : Int) < p1.2.2.length then
      (spec_IsWord.f ((p1.2.2.getD (i3 : Int).toNat (ByteArray.empty, 0)).1)).bind fun r1 =>
      if (!r1) = false then
        if (0 : Int) ≤ i3 ∧ (i3 : Int) < p1.2.2.length then
          (spec_l01In.f ((p1.2.2.getD (i3 : Int).toNat (ByteArray.empty, 0)).2) 1 1000).bind fun r2 =>
          if (!r2) = false then
            if (decide ((0 : Int) < i3)) = true then
              if (0 : Int) ≤ (IntKind.i64.wrap (i3 - 1)) ∧ ((IntKind.i64.wrap (i3 - 1)) : Int) < p1.2.2.length then
                if (0 : Int) ≤ i3 ∧ (i3 : Int) < p1.2.2.length then
                  if (!(Op.bytesLess ((p1.2.2.getD ((IntKind.i64.wrap (i3 - 1)) : Int).toNat (ByteArray.empty, 0)).1).toList ((p1.2.2.getD (i3 : Int).toNat (ByteArray.empty, 0)).1).toList)) = true then
                    some false
                  else
                    L2 (IntKind.i64.wrap (i3 + 1)) p1
                else
                  none
              else
                none
            else
              L2 (IntKind.i64.wrap (i3 + 1)) p1
          else
            some false
        else
          none
      else
        some false
    else
      none
  else
    (spec_IsWord.f p1.1).bind fun r3 =>
    if r3 = true then
      (spec_l01In.f p1.2.1 0 100000).bind fun r4 =>
      if r4 = true then
        some (decide (((p1.2.2.length : Int) : Int) ≤ 12))
      else
        some false
    else
      some false
def spec_IsPaper.l2 (n : Nat) : Nat → Int → (ByteArray × Int × List (ByteArray × Int)) → Option Bool
  | 0 => fun _ _ => none
  | k + 1 => spec_IsPaper.g2 (spec_IsPaper.l2 n k)
def spec_IsPaper.top (I2 : Int → (ByteArray × Int × List (ByteArray × Int)) → Option Bool) (p0 : ByteArray × Int × List (ByteArray × Int)) : Option Bool :=
  I2 0 p0
def spec_IsPaper.fn (n : Nat) (p0 : ByteArray × Int × List (ByteArray × Int)) : Option Bool := spec_IsPaper.top (spec_IsPaper.l2 n n) p0
def spec_IsPaper.f (p0 : ByteArray × Int × List (ByteArray × Int)) : Option Bool := spec_IsPaper.fn NN p0
end
end Go.Pl

namespace Go.Pl
open Go.Ev
set_option linter.unusedVariables false
noncomputable section
def impl_countIn.g2 (L2 : ByteArray → (List (ByteArray × Int)) → Int → Int → Option Int) (article1 : ByteArray) (v7 : List (ByteArray × Int)) (v8 : Int) (v9 : Int) : Option Int :=
  if (decide ((v9 : Int) < v8)) = true then
    if (0 : Int) ≤ v9 ∧ (v9 : Int) < v7.length then
      if (((v7.getD (v9 : Int).toNat (ByteArray.empty, 0)).1).toList == article1.toList) = true then
        some ((v7.getD (v9 : Int).toNat (ByteArray.empty, 0)).2)
      else
        L2 article1 v7 v8 (IntKind.i64.wrap (v9 + 1))
    else
      none
  else
    some 0
def impl_countIn.l2 (n : Nat) : Nat → ByteArray → (List (ByteArray × Int)) → Int → Int → Option Int
  | 0 => fun _ _ _ _ => none
  | k + 1 => impl_countIn.g2 (impl_countIn.l2 n k)
def impl_countIn.top (I2 : ByteArray → (List (ByteArray × Int)) → Int → Int → Option Int) (lines0 : List (ByteArray × Int)) (article1 : ByteArray) : Option Int :=
  I2 article1 lines0 (lines0.length : Int) 0
def impl_countIn.fn (n : Nat) (lines0 : List (ByteArray × Int)) (article1 : ByteArray) : Option Int := impl_countIn.top (impl_countIn.l2 n n) lines0 article1
def impl_countIn.f (lines0 : List (ByteArray × Int)) (article1 : ByteArray) : Option Int := impl_countIn.fn NN lines0 article1
end
end Go.Pl

namespace Go.Pl
open Go.Ev
set_option linter.unusedVariables false
noncomputable section
def spec_l29Find.g2 (L2 : ByteArray → Int → (ByteArray × Int × List (ByteArray × Int)) → Option Int) (article1 : ByteArray) (i5 : Int) (p2 : ByteArray × Int × List (ByteArray × Int)) : Option Int :=
  if (decide ((i5 : Int) < (p2.2.2.length : Int))) = true then
    if (0 : Int) ≤ i5 ∧ (i5 : Int) < p2.2.2.length then
      if (((p2.2.2.getD (i5 : Int).toNat (ByteArray.empty, 0)).1).toList == article1.toList) = true then
        some i5
      else
        L2 article1 (IntKind.i64.wrap (i5 + 1)) p2
    else
      none
  else
    some (-1)
def spec_l29Find.l2 (n : Nat) : Nat → ByteArray → Int → (ByteArray × Int × List (ByteArray × Int)) → Option Int
  | 0 => fun _ _ _ => none
  | k + 1 => spec_l29Find.g2 (spec_l29Find.l2 n k)
def spec_l29Find.top (I2 : ByteArray → Int → (ByteArray × Int × List (ByteArray × Int)) → Option Int) (p0 : ByteArray × Int × List (ByteArray × Int)) (article1 : ByteArray) : Option Int :=
  I2 article1 0 p0
def spec_l29Find.fn (n : Nat) (p0 : ByteArray × Int × List (ByteArray × Int)) (article1 : ByteArray) : Option Int := spec_l29Find.top (spec_l29Find.l2 n n) p0 article1
def spec_l29Find.f (p0 : ByteArray × Int × List (ByteArray × Int)) (article1 : ByteArray) : Option Int := spec_l29Find.fn NN p0 article1
end
end Go.Pl

namespace Go.Pl
open Go.Ev
set_option linter.unusedVariables false
set_option linter.unusedSimpArgs false
def ltS (a b : ByteArray) : Bool := Op.bytesLess a.toList b.toList
def lineOk (l : ByteArray × Int) : Bool := wordB l.1 && inB l.2 1 1000
/-- lines behind another one -/
def linesF : ByteArray × Int → List (ByteArray × Int) → Bool
  | _, [] => true
  | x, a :: r => lineOk a && ltS x.1 a.1 && linesF a r
def linesL : List (ByteArray × Int) → Bool
  | [] => true
  | a :: r => lineOk a && linesF a r
def linesB (l : List (ByteArray × Int)) : Bool := decide (l.length ≤ 12) && linesL l
def paperB (p : ByteArray × Int × List (ByteArray × Int)) : Bool := wordB p.1 && inB p.2.1 0 100000 && linesB p.2.2
theorem snoc_getl' {α : Type} (p r : List α) (x a z : α) : (p ++ [x] ++ a :: r).getD p.length z = x := by simp
theorem impl_areLines_l : ∀ (r p : List (ByteArray × Int)) (x : ByteArray × Int) (k : Nat), p.length + r.length + 1 ≤ 1000000 → r.length < k → (∀ l ∈ r, Sz l.1) →
    impl_areLines.l4 NN k (p ++ [x] ++ r) (p ++ [x] ++ r) (p ++ [x] ++ r).length ((p.length : Int) + 1) = some (linesF x r) := by
  intro r
  induction r with
  | nil =>
    intro p x k _ hk _
    obtain ⟨k, rfl⟩ : ∃ j, k = j + 1 := ⟨k - 1, by omega⟩
    simp [impl_areLines.l4, impl_areLines.g4, linesF]
  | cons a r ih =>
    intro p x k hb hk hs
    simp only [List.length_cons] at hb hk
    obtain ⟨k, rfl⟩ : ∃ j, k = j + 1 := ⟨k - 1, by omega⟩
    have hl : ((p ++ [x] ++ a :: r).length : Int) = p.length + r.length + 2 := by simp; omega
    have w1 := w64 (n := (p.length : Int) + 1 - 1) (by omega) (by omega)
    have w2 := w64 (n := (p.length : Int) + 1 + 1) (by omega) (by omega)
    have c1 : (p.length : Int) + 1 < ((p ++ [x] ++ a :: r).length : Int) := by omega
    have c2 : (0 : Int) ≤ (p.length : Int) + 1 - 1 := by omega
    have c3 : (p.length : Int) + 1 - 1 < ((p ++ [x] ++ a :: r).length : Int) := by omega
    have c4 : (0 : Int) ≤ (p.length : Int) + 1 := by omega
    have c5 : (0 : Int) < (p.length : Int) + 1 := by omega
    have g1 : ∀ z, (p ++ [x] ++ a :: r).getD ((p.length : Int) + 1).toNat z = a := fun z => by
      rw [show ((p.length : Int) + 1).toNat = (p ++ [x]).length by simp, mid_getn]
    have g2 : ∀ z, (p ++ [x] ++ a :: r).getD ((p.length : Int) + 1 - 1).toNat z = x := fun z => by
      rw [show ((p.length : Int) + 1 - 1).toNat = p.length by omega, snoc_getl']
    have := ih (p ++ [x]) a k (by simp; omega) (by omega) (fun l h => hs l (by simp [h]))
    simp only [impl_areLines.l4, impl_areLines.g4, w1, w2, c1, c2, c3, c4, c5, g1, g2, and_self, and_true, true_and, decide_true, decide_false, if_true, if_false, mid_get, mid_set, mid_getn, mid_setn, bt_mid, Option.bind_some, Bool.not_true, Bool.not_false, Bool.false_eq_true, Bool.true_eq_false, beq_self_eq_true, bne_self_eq_false, Int.toNat_natCast, impl_IsWord_f _ (hs a (by simp)), impl_within_f, linesF, lineOk]
    cases wordB a.1
    · simp
    cases inB a.2 1 1000
    · simp
    show (if (!ltS x.1 a.1) = true then _ else _) = _
    cases ltS x.1 a.1
    · simp
    · simp only [and_self, and_true, true_and, decide_true, decide_false, if_true, if_false, mid_get, mid_set, mid_getn, mid_setn, bt_mid, Option.bind_some, Bool.not_true, Bool.not_false, Bool.false_eq_true, Bool.true_eq_false, beq_self_eq_true, bne_self_eq_false, Int.toNat_natCast, Bool.true_and]
      rw [← this]
      simp
theorem impl_areLines_f (xs : List (ByteArray × Int)) (h : Lm OkLine xs) : impl_areLines.f xs = some (linesB xs) := by
  unfold impl_areLines.f impl_areLines.fn impl_areLines.top linesB
  have hl := h.1
  by_cases h12 : (12 : Int) < (xs.length : Int)
  · have : ¬ xs.length ≤ 12 := by omega
    simp [h12, this]
  have e12 : xs.length ≤ 12 := by omega
  simp only [h12, e12, and_self, and_true, true_and, decide_true, decide_false, if_true, if_false, mid_get, mid_set, mid_getn, mid_setn, bt_mid, Option.bind_some, Bool.not_true, Bool.not_false, Bool.false_eq_true, Bool.true_eq_false, beq_self_eq_true, bne_self_eq_false, Int.toNat_natCast]
  obtain ⟨k, hk⟩ : ∃ j, NN = j + 1 := ⟨NN - 1, by have := NNb; omega⟩
  have hkb : 1000000000000000 < k := by rw [NN_eq] at hk; omega
  rw [show impl_areLines.l4 NN NN = impl_areLines.l4 NN (k + 1) by rw [← hk]]
  cases xs with
  | nil => simp [impl_areLines.l4, impl_areLines.g4, linesL]
  | cons a r =>
    simp only [List.length_cons] at hl
    have := impl_areLines_l r [] a k (by simp; omega) (by omega) (fun l hl => Nat.le_trans (h.2 l (by simp [hl])).1 (by omega))
    have w2 := w64 (n := 0 + 1) (by omega) (by omega)
    have c1 : (0 : Int) < ((a :: r).length : Int) := by simp only [List.length_cons]; omega
    simp only [impl_areLines.l4, impl_areLines.g4, c1, w2, and_self, and_true, true_and, decide_true, decide_false, if_true, if_false, mid_get, mid_set, mid_getn, mid_setn, bt_mid, Option.bind_some, Bool.not_true, Bool.not_false, Bool.false_eq_true, Bool.true_eq_false, beq_self_eq_true, bne_self_eq_false, Int.toNat_natCast, Int.le_refl, impl_IsWord_f _ (Nat.le_trans (h.2 a (by simp)).1 (show 1000000 ≤ 140737488355328 by omega)), impl_within_f, linesL, lineOk, List.getD_cons_zero, Int.toNat_zero]
    simp at this
    cases wordB a.1
    · simp
    cases inB a.2 1 1000
    · simp
    simp [this]
theorem impl_IsPaper_f (p : ByteArray × Int × List (ByteArray × Int)) (h : OkPaper p) : impl_IsPaper.f p = some (paperB p) := by
  unfold impl_IsPaper.f impl_IsPaper.fn impl_IsPaper.top paperB
  rw [impl_IsWord_f _ (Nat.le_trans h.1 (by omega)), impl_isDay_f, impl_areLines_f _ h.2.2]
  cases wordB p.1 <;> cases inB p.2.1 0 100000 <;> rfl
theorem spec_IsPaper_l (v : ByteArray) (d : Int) (hv : Sz v) : ∀ (r p : List (ByteArray × Int)) (x : ByteArray × Int) (k : Nat), p.length + r.length + 1 ≤ 1000000 → r.length < k → (∀ l ∈ r, Sz l.1) →
    spec_IsPaper.l2 NN k ((p.length : Int) + 1) (v, d, p ++ [x] ++ r) = some (linesF x r && (wordB v && inB d 0 100000 && decide ((p ++ [x] ++ r).length ≤ 12))) := by
  intro r
  induction r with
  | nil =>
    intro p x k hb hk _
    obtain ⟨k, rfl⟩ : ∃ j, k = j + 1 := ⟨k - 1, by omega⟩
    have e : decide (((p ++ [x]).length : Int) ≤ 12) = decide ((p ++ [x]).length ≤ 12) := by congr 1; exact propext (by omega)
    have c1 : ¬ (p.length : Int) + 1 < ((p ++ [x]).length : Int) := by simp
    simp only [spec_IsPaper.l2, spec_IsPaper.g2, List.append_nil, c1, and_self, and_true, true_and, decide_true, decide_false, if_true, if_false, mid_get, mid_set, mid_getn, mid_setn, bt_mid, Option.bind_some, Bool.not_true, Bool.not_false, Bool.false_eq_true, Bool.true_eq_false, beq_self_eq_true, bne_self_eq_false, Int.toNat_natCast, spec_IsWord_f v hv, spec_l01In_f, linesF, e]
    cases wordB v <;> cases inB d 0 100000 <;> rfl
  | cons a r ih =>
    intro p x k hb hk hs
    simp only [List.length_cons] at hb hk
    obtain ⟨k, rfl⟩ : ∃ j, k = j + 1 := ⟨k - 1, by omega⟩
    have hl : ((p ++ [x] ++ a :: r).length : Int) = p.length + r.length + 2 := by simp; omega
    have w1 := w64 (n := (p.length : Int) + 1 - 1) (by omega) (by omega)
    have w2 := w64 (n := (p.length : Int) + 1 + 1) (by omega) (by omega)
    have c1 : (p.length : Int) + 1 < ((p ++ [x] ++ a :: r).length : Int) := by omega
    have c2 : (0 : Int) ≤ (p.length : Int) + 1 - 1 := by omega
    have c3 : (p.length : Int) + 1 - 1 < ((p ++ [x] ++ a :: r).length : Int) := by omega
    have c4 : (0 : Int) ≤ (p.length : Int) + 1 := by omega
    have c5 : (0 : Int) < (p.length : Int) + 1 := by omega
    have g1 : ∀ z, (p ++ [x] ++ a :: r).getD ((p.length : Int) + 1).toNat z = a := fun z => by
      rw [show ((p.length : Int) + 1).toNat = (p ++ [x]).length by simp, mid_getn]
    have g2 : ∀ z, (p ++ [x] ++ a :: r).getD ((p.length : Int) + 1 - 1).toNat z = x := fun z => by
      rw [show ((p.length : Int) + 1 - 1).toNat = p.length by omega, snoc_getl']
    have := ih (p ++ [x]) a k (by simp; omega) (by omega) (fun l h => hs l (by simp [h]))
    rw [show p ++ [x] ++ [a] ++ r = p ++ [x] ++ a :: r by simp, snoc_len] at this
    simp only [spec_IsPaper.l2, spec_IsPaper.g2, w1, w2, c1, c2, c3, c4, c5, g1, g2, and_self, and_true, true_and, decide_true, decide_false, if_true, if_false, mid_get, mid_set, mid_getn, mid_setn, bt_mid, Option.bind_some, Bool.not_true, Bool.not_false, Bool.false_eq_true, Bool.true_eq_false, beq_self_eq_true, bne_self_eq_false, Int.toNat_natCast, spec_IsWord_f _ (hs a (by simp)), spec_l01In_f, linesF, lineOk, this]
    cases wordB a.1
    · simp
    cases inB a.2 1 1000
    · simp
    show (if (!ltS x.1 a.1) = true then _ else _) = _
    cases ltS x.1 a.1
    · simp
    · simp
theorem spec_IsPaper_f (p : ByteArray × Int × List (ByteArray × Int)) (h : OkPaper p) : spec_IsPaper.f p = some (paperB p) := by
  obtain ⟨v, d, xs⟩ := p
  unfold spec_IsPaper.f spec_IsPaper.fn spec_IsPaper.top paperB linesB
  have hl : xs.length ≤ 1000000 := h.2.2.1
  have hv : Sz v := Nat.le_trans h.1 (by omega)
  obtain ⟨k, hk⟩ : ∃ j, NN = j + 1 := ⟨NN - 1, by have := NNb; omega⟩
  have hkb : 1000000000000000 < k := by rw [NN_eq] at hk; omega
  rw [show spec_IsPaper.l2 NN NN = spec_IsPaper.l2 NN (k + 1) by rw [← hk]]
  cases xs with
  | nil =>
    simp only [spec_IsPaper.l2, spec_IsPaper.g2, spec_IsWord_f v hv, spec_l01In_f, linesL, and_self, and_true, true_and, decide_true, decide_false, if_true, if_false, mid_get, mid_set, mid_getn, mid_setn, bt_mid, Option.bind_some, Bool.not_true, Bool.not_false, Bool.false_eq_true, Bool.true_eq_false, beq_self_eq_true, bne_self_eq_false, Int.toNat_natCast]
    cases wordB v <;> cases inB d 0 100000 <;> rfl
  | cons a r =>
    simp only [List.length_cons] at hl
    have hxs : Lm OkLine (a :: r) := h.2.2
    have := spec_IsPaper_l v d hv r [] a k (by simp; omega) (by omega) (fun l hl => Nat.le_trans (hxs.2 l (by simp [hl])).1 (by omega))
    have w2 := w64 (n := 0 + 1) (by omega) (by omega)
    have c1 : (0 : Int) < ((a :: r).length : Int) := by simp only [List.length_cons]; omega
    simp only [List.nil_append, List.length_nil, List.cons_append] at this
    rw [show (((0 : Nat) : Int) + 1) = 0 + 1 from rfl] at this
    simp only [spec_IsPaper.l2, spec_IsPaper.g2, c1, w2, and_self, and_true, true_and, decide_true, decide_false, if_true, if_false, mid_get, mid_set, mid_getn, mid_setn, bt_mid, Option.bind_some, Bool.not_true, Bool.not_false, Bool.false_eq_true, Bool.true_eq_false, beq_self_eq_true, bne_self_eq_false, Int.toNat_natCast, Int.le_refl, spec_IsWord_f _ (Nat.le_trans (hxs.2 a (by simp)).1 (show 1000000 ≤ 140737488355328 by omega)), spec_l01In_f, linesL, lineOk, List.getD_cons_zero, Int.toNat_zero]
    cases wordB a.1
    · simp
    cases inB a.2 1 1000
    · simp
    simp only [Int.lt_irrefl, decide_false, and_self, and_true, true_and, decide_true, decide_false, if_true, if_false, mid_get, mid_set, mid_getn, mid_setn, bt_mid, Option.bind_some, Bool.not_true, Bool.not_false, Bool.false_eq_true, Bool.true_eq_false, beq_self_eq_true, bne_self_eq_false, Int.toNat_natCast]
    rw [this]
    cases linesF a r <;> cases wordB v <;> cases inB d 0 100000 <;> simp
/-- how many of an article -/
def cntL (a : ByteArray) : List (ByteArray × Int) → Int
  | [] => 0
  | l :: r => if l.1 = a then l.2 else cntL a r
theorem impl_countIn_f (xs : List (ByteArray × Int)) (a : ByteArray) (h : xs.length ≤ 1000000) : impl_countIn.f xs a = some (cntL a xs) := by
  have := find_loop (E := fun _ => True) (fun l : ByteArray × Int => decide (l.1 = a)) (fun _ l => some l.2) (fun _ => some 0) (fun k xs i => impl_countIn.l2 NN k a xs xs.length i) ?_ ?_ xs (fun _ _ => trivial) (by omega) NN (NN_lt (by omega))
  · refine this.trans ?_
    have key : ∀ (xs : List (ByteArray × Int)) (i : Nat), (firstOf (fun l : ByteArray × Int => decide (l.1 = a)) i xs).elim (some 0) (fun x => some x.2.2) = some (cntL a xs) := by
      intro xs
      induction xs with
      | nil => intro i; rfl
      | cons l r ih =>
        intro i
        by_cases h : l.1 = a
        · simp [firstOf, cntL, h]
        · simp only [firstOf, cntL, h, decide_false, Bool.false_eq_true, if_false]
          exact ih _
    exact key xs 0
  · intro k p
    simp [impl_countIn.l2, impl_countIn.g2]
  · intro k p l r _ c0 c1 c2 cw
    simp only [impl_countIn.l2, impl_countIn.g2, c0, c1, cw, and_self, and_true, true_and, decide_true, decide_false, if_true, if_false, mid_get, mid_set, mid_getn, mid_setn, bt_mid, Option.bind_some, Bool.not_true, Bool.not_false, Bool.false_eq_true, Bool.true_eq_false, beq_self_eq_true, bne_self_eq_false, Int.toNat_natCast, ba_beq]
theorem spec_l29Find_f (p : ByteArray × Int × List (ByteArray × Int)) (a : ByteArray) (h : p.2.2.length ≤ 1000000) : spec_l29Find.f p a = some ((firstOf (fun l : ByteArray × Int => decide (l.1 = a)) 0 p.2.2).elim (-1) (fun x => (x.1 : Int))) := by
  obtain ⟨v, d, xs⟩ := p
  have h : xs.length ≤ 1000000 := h
  have := find_loop (E := fun _ => True) (fun l : ByteArray × Int => decide (l.1 = a)) (fun i _ => some (i : Int)) (fun _ => some (-1)) (fun k xs i => spec_l29Find.l2 NN k a i (v, d, xs)) ?_ ?_ xs (fun _ _ => trivial) (by omega) NN (NN_lt (by omega))
  · refine this.trans ?_
    cases firstOf (fun l : ByteArray × Int => decide (l.1 = a)) 0 xs <;> rfl
  · intro k p
    simp [spec_l29Find.l2, spec_l29Find.g2]
  · intro k p l r _ c0 c1 c2 cw
    simp only [spec_l29Find.l2, spec_l29Find.g2, c0, c1, cw, and_self, and_true, true_and, decide_true, decide_false, if_true, if_false, mid_get, mid_set, mid_getn, mid_setn, bt_mid, Option.bind_some, Bool.not_true, Bool.not_false, Bool.false_eq_true, Bool.true_eq_false, beq_self_eq_true, bne_self_eq_false, Int.toNat_natCast, ba_beq]
/-- what is found: its number and its line -/
theorem firstOf_spec {α : Type} (P : α → Bool) : ∀ (xs : List α) (i j : Nat) (x : α), firstOf P i xs = some (j, x) → i ≤ j ∧ j < i + xs.length ∧ xs[j - i]? = some x ∧ P x = true := by
  intro xs
  induction xs with
  | nil => intro i j x h; cases h
  | cons a r ih =>
    intro i j x h
    simp only [firstOf] at h
    split at h
    · rename_i hp
      cases h
      refine ⟨by omega, by simp, by simp, hp⟩
    · obtain ⟨h1, h2, h3, h4⟩ := ih _ _ _ h
      refine ⟨by omega, by simp; omega, ?_, h4⟩
      rw [show j - i = (j - (i + 1)) + 1 by omega, List.getElem?_cons_succ]; exact h3
theorem cntL_first (a : ByteArray) : ∀ (xs : List (ByteArray × Int)) (i : Nat), cntL a xs = (firstOf (fun l : ByteArray × Int => decide (l.1 = a)) i xs).elim 0 (fun x => x.2.2) := by
  intro xs
  induction xs with
  | nil => intro i; rfl
  | cons l r ih =>
    intro i
    by_cases h : l.1 = a
    · simp [firstOf, cntL, h]
    · simp only [firstOf, cntL, h, decide_false, Bool.false_eq_true, if_false]
      exact ih _
theorem linesF_ok : ∀ (r : List (ByteArray × Int)) (x : ByteArray × Int), linesF x r = true → ∀ l ∈ r, lineOk l = true := by
  intro r
  induction r with
  | nil => intro x _ l hl; cases hl
  | cons a r ih =>
    intro x h l hl
    simp only [linesF, Bool.and_eq_true] at h
    rcases List.mem_cons.1 hl with rfl | hl
    · exact h.1.1
    · exact ih a h.2 l hl
theorem linesB_ok {xs : List (ByteArray × Int)} (h : linesB xs = true) : xs.length ≤ 12 ∧ ∀ l ∈ xs, lineOk l = true := by
  unfold linesB at h
  simp only [Bool.and_eq_true, decide_eq_true_eq] at h
  refine ⟨h.1, ?_⟩
  cases xs with
  | nil => intro l hl; cases hl
  | cons a r =>
    have h2 := h.2
    simp only [linesL, Bool.and_eq_true] at h2
    intro l hl
    rcases List.mem_cons.1 hl with rfl | hl
    · exact h2.1
    · exact linesF_ok r a h2.2 l hl
theorem lineOk_iff {l : ByteArray × Int} : lineOk l = true ↔ wordB l.1 = true ∧ 1 ≤ l.2 ∧ l.2 ≤ 1000 := by
  unfold lineOk; rw [Bool.and_eq_true, inB_iff]
theorem cntL_bd (a : ByteArray) : ∀ (xs : List (ByteArray × Int)), (∀ l ∈ xs, lineOk l = true) → 0 ≤ cntL a xs ∧ cntL a xs ≤ 1000 := by
  intro xs
  induction xs with
  | nil => intro _; simp [cntL]
  | cons l r ih =>
    intro h
    have h1 := lineOk_iff.1 (h l (by simp))
    have h2 := ih fun x hx => h x (by simp [hx])
    simp only [cntL]
    split <;> omega
end Go.Pl

namespace Go.Pl
open Go.Ev
set_option linter.unusedVariables false
noncomputable section
def impl_MissingLines.g5 (L5 : (List (ByteArray × Int)) → Int → Int → (ByteArray × Int × List (ByteArray × Int)) → (List (ByteArray × Int)) → Option ((List (ByteArray × Int)) × Int)) (v19 : List (ByteArray × Int)) (v20 : Int) (v21 : Int) (b3 : ByteArray × Int × List (ByteArray × Int)) (out6 : List (ByteArray × Int)) : Option ((List (ByteArray × Int)) × Int) :=
  if (decide ((v21 : Int) < v20)) = true then
    if (0 : Int) ≤ v21 ∧ (v21 : Int) < v19.length then
      (impl_countIn.f b3.2.2 ((v19.getD (v21 : Int).toNat (ByteArray.empty, 0)).1)).bind fun r3 =>
      if (decide ((0 : Int) < (IntKind.i64.wrap (((v19.getD (v21 : Int).toNat (ByteArray.empty, 0)).2) - r3)))) = true then
        if out6.length + ([((v19.getD (v21 : Int).toNat (ByteArray.empty, 0)).1, IntKind.i64.wrap (((v19.getD (v21 : Int).toNat (ByteArray.empty, 0)).2) - r3))]).length < room 24 then
          L5 v19 v20 (IntKind.i64.wrap (v21 + 1)) b3 (out6 ++ ([((v19.getD (v21 : Int).toNat (ByteArray.empty, 0)).1, IntKind.i64.wrap (((v19.getD (v21 : Int).toNat (ByteArray.empty, 0)).2) - r3))]))
        else
          none
      else
        L5 v19 v20 (IntKind.i64.wrap (v21 + 1)) b3 out6
    else
      none
  else
    some (out6, 0)
def impl_MissingLines.l5 (n : Nat) : Nat → (List (ByteArray × Int)) → Int → Int → (ByteArray × Int × List (ByteArray × Int)) → (List (ByteArray × Int)) → Option ((List (ByteArray × Int)) × Int)
  | 0 => fun _ _ _ _ _ => none
  | k + 1 => impl_MissingLines.g5 (impl_MissingLines.l5 n k)
def impl_MissingLines.top (I5 : (List (ByteArray × Int)) → Int → Int → (ByteArray × Int × List (ByteArray × Int)) → (List (ByteArray × Int)) → Option ((List (ByteArray × Int)) × Int)) (a0 : ByteArray × Int × List (ByteArray × Int)) (b1 : ByteArray × Int × List (ByteArray × Int)) : Option ((List (ByteArray × Int)) × Int) :=
  (impl_IsPaper.f a0).bind fun r1 =>
  if (!r1) = false then
    (impl_IsPaper.f b1).bind fun r2 =>
    if (!r2) = true then
      some ([], 1)
    else
      I5 a0.2.2 (a0.2.2.length : Int) 0 b1 []
  else
    some ([], 1)
def impl_MissingLines.fn (n : Nat) (a0 : ByteArray × Int × List (ByteArray × Int)) (b1 : ByteArray × Int × List (ByteArray × Int)) : Option ((List (ByteArray × Int)) × Int) := impl_MissingLines.top (impl_MissingLines.l5 n n) a0 b1
def impl_MissingLines.f (a0 : ByteArray × Int × List (ByteArray × Int)) (b1 : ByteArray × Int × List (ByteArray × Int)) : Option ((List (ByteArray × Int)) × Int) := impl_MissingLines.fn NN a0 b1
end
end Go.Pl

namespace Go.Pl
open Go.Ev
set_option linter.unusedVariables false
noncomputable section
def spec_MissingLines.g5 (L5 : Int → (ByteArray × Int × List (ByteArray × Int)) → (ByteArray × Int × List (ByteArray × Int)) → (List (ByteArray × Int)) → Option ((List (ByteArray × Int)) × Int)) (i7 : Int) (a2 : ByteArray × Int × List (ByteArray × Int)) (b3 : ByteArray × Int × List (ByteArray × Int)) (out6 : List (ByteArray × Int)) : Option ((List (ByteArray × Int)) × Int) :=
  if (decide ((i7 : Int) < (a2.2.2.length : Int))) = true then
    if (0 : Int) ≤ i7 ∧ (i7 : Int) < a2.2.2.length then
      if (0 : Int) ≤ i7 ∧ (i7 : Int) < a2.2.2.length then
        (spec_l29Find.f b3 ((a2.2.2.getD (i7 : Int).toNat (ByteArray.empty, 0)).1)).bind fun r3 =>
        if (decide ((0 : Int) ≤ r3)) = true then
          if (0 : Int) ≤ r3 ∧ (r3 : Int) < b3.2.2.length then
            if (decide ((0 : Int) < (IntKind.i64.wrap (((a2.2.2.getD (i7 : Int).toNat (ByteArray.empty, 0)).2) - ((b3.2.2.getD (r3 : Int).toNat (ByteArray.empty, 0)).2))))) = true then
              if (0 : Int) ≤ i7 ∧ (i7 : Int) < a2.2.2.length then
                if out6.length + ([((a2.2.2.getD (i7 : Int).toNat (ByteArray.empty, 0)).1, IntKind.i64.wrap (((a2.2.2.getD (i7 : Int).toNat (ByteArray.empty, 0)).2) - ((b3.2.2.getD (r3 : Int).toNat (ByteArray.empty, 0)).2)))]).length < room 24 then
                  L5 (IntKind.i64.wrap (i7 + 1)) a2 b3 (out6 ++ ([((a2.2.2.getD (i7 : Int).toNat (ByteArray.empty, 0)).1, IntKind.i64.wrap (((a2.2.2.getD (i7 : Int).toNat (ByteArray.empty, 0)).2) - ((b3.2.2.getD (r3 : Int).toNat (ByteArray.empty, 0)).2)))]))
                else
                  none
              else
                none
            else
              L5 (IntKind.i64.wrap (i7 + 1)) a2 b3 out6
          else
            none
        else if (decide ((0 : Int) < ((a2.2.2.getD (i7 : Int).toNat (ByteArray.empty, 0)).2))) = true then
          if (0 : Int) ≤ i7 ∧ (i7 : Int) < a2.2.2.length then
            if out6.length + ([((a2.2.2.getD (i7 : Int).toNat (ByteArray.empty, 0)).1, (a2.2.2.getD (i7 : Int).toNat (ByteArray.empty, 0)).2)]).length < room 24 then
              L5 (IntKind.i64.wrap (i7 + 1)) a2 b3 (out6 ++ ([((a2.2.2.getD (i7 : Int).toNat (ByteArray.empty, 0)).1, (a2.2.2.getD (i7 : Int).toNat (ByteArray.empty, 0)).2)]))
            else
              none
          else
            none
        else
          L5 (IntKind.i64.wrap (i7 + 1)) a2 b3 out6
      else
        none
    else
      none
  else
    some (out6, 0)
def spec_MissingLines.l5 (n : Nat) : Nat → Int → (ByteArray × Int × List (ByteArray × Int)) → (ByteArray × Int × List (ByteArray × Int)) → (List (ByteArray × Int)) → Option ((List (ByteArray × Int)) × Int)
  | 0 => fun _ _ _ _ => none
  | k + 1 => spec_MissingLines.g5 (spec_MissingLines.l5 n k)
def spec_MissingLines.top (I5 : Int → (ByteArray × Int × List (ByteArray × Int)) → (ByteArray × Int × List (ByteArray × Int)) → (List (ByteArray × Int)) → Option ((List (ByteArray × Int)) × Int)) (a0 : ByteArray × Int × List (ByteArray × Int)) (b1 : ByteArray × Int × List (ByteArray × Int)) : Option ((List (ByteArray × Int)) × Int) :=
  (spec_IsPaper.f a0).bind fun r1 =>
  if (!r1) = false then
    (spec_IsPaper.f b1).bind fun r2 =>
    if (!r2) = true then
      some ([], 1)
    else
      I5 0 a0 b1 []
  else
    some ([], 1)
def spec_MissingLines.fn (n : Nat) (a0 : ByteArray × Int × List (ByteArray × Int)) (b1 : ByteArray × Int × List (ByteArray × Int)) : Option ((List (ByteArray × Int)) × Int) := spec_MissingLines.top (spec_MissingLines.l5 n n) a0 b1
def spec_MissingLines.f (a0 : ByteArray × Int × List (ByteArray × Int)) (b1 : ByteArray × Int × List (ByteArray × Int)) : Option ((List (ByteArray × Int)) × Int) := spec_MissingLines.fn NN a0 b1
end
end Go.Pl

namespace Go.Pl
open Go.Ev
set_option linter.unusedVariables false
set_option linter.unusedSimpArgs false
def missF (bs : List (ByteArray × Int)) (out : List (ByteArray × Int)) (l : ByteArray × Int) : List (ByteArray × Int) := if 0 < l.2 - cntL l.1 bs then out ++ [(l.1, l.2 - cntL l.1 bs)] else out
def missL (ax bs : List (ByteArray × Int)) : List (ByteArray × Int) := ax.foldl (missF bs) []
theorem missF_ok (bs : List (ByteArray × Int)) (hb : ∀ l ∈ bs, lineOk l = true) (out : List (ByteArray × Int)) (l : ByteArray × Int) (hl : lineOk l = true) (n : Nat) (h : out.length ≤ n ∧ ∀ x ∈ out, lineOk x = true) : (missF bs out l).length ≤ n + 1 ∧ ∀ x ∈ missF bs out l, lineOk x = true := by
  have h1 := lineOk_iff.1 hl
  have h2 := cntL_bd l.1 bs hb
  unfold missF
  split
  · refine ⟨by simp; omega, fun x hx => ?_⟩
    rcases List.mem_append.1 hx with h3 | h3
    · exact h.2 x h3
    · rw [List.mem_singleton.1 h3]; exact lineOk_iff.2 ⟨h1.1, by simp only; omega, by simp only; omega⟩
  · exact ⟨by omega, h.2⟩
theorem room24' {α : Type} (out : List α) (x : α) (h : out.length ≤ 2000000) : out.length + [x].length < room 24 := by rw [room24]; simp; omega
theorem impl_Missing_l (v : ByteArray) (d : Int) (ax bs : List (ByteArray × Int)) (ha : ∀ l ∈ ax, lineOk l = true) (hb : ∀ l ∈ bs, lineOk l = true) (hla : ax.length ≤ 12) (hlb : bs.length ≤ 12) :
    ((missL ax bs).length ≤ ax.length ∧ ∀ x ∈ missL ax bs, lineOk x = true) ∧ impl_MissingLines.l5 NN NN ax ax.length 0 (v, d, bs) [] = some (missL ax bs, 0) := by
  have := fold_fix (E := fun l => lineOk l = true) (fun p st => st.length ≤ p.length ∧ ∀ x ∈ st, lineOk x = true) (fun _ => missF bs) (fun st => some (st, (0 : Int))) (fun k i st => impl_MissingLines.l5 NN k ax ax.length i (v, d, bs) st) ax ?_ ?_ [] ha ⟨by simp, by simp⟩ (by omega) NN (NN_lt (by omega))
  · rw [foldi_foldl] at this
    exact this
  · intro k st _
    simp [impl_MissingLines.l5, impl_MissingLines.g5]
  · intro k p l r st hx hl hI c0 c1 c2 cw g
    have h1 := lineOk_iff.1 hl
    have h2 := cntL_bd l.1 bs hb
    have e1 := w64 (n := l.2 - cntL l.1 bs) (by omega) (by omega)
    refine ⟨by rw [List.length_append, List.length_singleton]; exact missF_ok bs hb st l hl p.length hI, ?_⟩
    simp only [impl_MissingLines.l5, impl_MissingLines.g5, c0, c1, cw, and_self, and_true, true_and, decide_true, decide_false, if_true, if_false, mid_get, mid_set, mid_getn, mid_setn, bt_mid, Option.bind_some, Bool.not_true, Bool.not_false, Bool.false_eq_true, Bool.true_eq_false, beq_self_eq_true, bne_self_eq_false, Int.toNat_natCast, g, impl_countIn_f bs l.1 (by omega), e1, decide_eq_true_eq]
    unfold missF
    rw [if_pos (room24' st _ (by omega))]
    split <;> rfl
theorem spec_Missing_l (v w : ByteArray) (d e : Int) (ax bs : List (ByteArray × Int)) (ha : ∀ l ∈ ax, lineOk l = true) (hb : ∀ l ∈ bs, lineOk l = true) (hla : ax.length ≤ 12) (hlb : bs.length ≤ 12) :
    spec_MissingLines.l5 NN NN 0 (w, e, ax) (v, d, bs) [] = some (missL ax bs, 0) := by
  have := (fold_fix (E := fun l => lineOk l = true) (fun p st => st.length ≤ p.length ∧ ∀ x ∈ st, lineOk x = true) (fun _ => missF bs) (fun st => some (st, (0 : Int))) (fun k i st => spec_MissingLines.l5 NN k i (w, e, ax) (v, d, bs) st) ax ?_ ?_ [] ha ⟨by simp, by simp⟩ (by omega) NN (NN_lt (by omega))).2
  · rw [foldi_foldl] at this
    exact this
  · intro k st _
    simp [spec_MissingLines.l5, spec_MissingLines.g5]
  · intro k p l r st hx hl hI c0 c1 c2 cw g
    have h1 := lineOk_iff.1 hl
    have h2 := cntL_bd l.1 bs hb
    have e1 := w64 (n := l.2 - cntL l.1 bs) (by omega) (by omega)
    refine ⟨by rw [List.length_append, List.length_singleton]; exact missF_ok bs hb st l hl p.length hI, ?_⟩
    simp only [spec_MissingLines.l5, spec_MissingLines.g5, c0, c1, cw, and_self, and_true, true_and, decide_true, decide_false, if_true, if_false, mid_get, mid_set, mid_getn, mid_setn, bt_mid, Option.bind_some, Bool.not_true, Bool.not_false, Bool.false_eq_true, Bool.true_eq_false, beq_self_eq_true, bne_self_eq_false, Int.toNat_natCast, g]
    rw [spec_l29Find_f _ _ (by simp only; omega)]
    simp only [Option.bind_some]
    unfold missF
    have hc := cntL_first l.1 bs 0
    cases hf : firstOf (fun x : ByteArray × Int => decide (x.1 = l.1)) 0 bs with
    | none =>
      rw [hf] at hc
      simp only [Option.elim] at hc
      rw [hc]
      simp only [Option.elim, hf]
      have n1 : ¬ (0 : Int) ≤ -1 := by omega
      simp only [n1, and_self, and_true, true_and, decide_true, decide_false, if_true, if_false, mid_get, mid_set, mid_getn, mid_setn, bt_mid, Option.bind_some, Bool.not_true, Bool.not_false, Bool.false_eq_true, Bool.true_eq_false, beq_self_eq_true, bne_self_eq_false, Int.toNat_natCast, Int.sub_zero]
      rw [if_pos (room24' st _ (by omega))]
      simp only [decide_eq_true_eq]
      split <;> rfl
    | some x =>
      obtain ⟨j, y⟩ := x
      obtain ⟨f1, f2, f3, f4⟩ := firstOf_spec _ _ _ _ _ hf
      rw [hf] at hc
      simp only [Option.elim] at hc
      simp only [Option.elim, hf]
      have n1 : (0 : Int) ≤ (j : Int) := by omega
      have n2 : (j : Int) < (bs.length : Int) := by omega
      have g2 : ∀ z, bs.getD j z = y := fun z => by
        rw [List.getD_eq_getElem?_getD, show j = j - 0 by omega, f3]; rfl
      rw [hc] at e1 ⊢
      simp only [n1, n2, and_self, and_true, true_and, decide_true, decide_false, if_true, if_false, mid_get, mid_set, mid_getn, mid_setn, bt_mid, Option.bind_some, Bool.not_true, Bool.not_false, Bool.false_eq_true, Bool.true_eq_false, beq_self_eq_true, bne_self_eq_false, Int.toNat_natCast, g2, e1]
      rw [if_pos (room24' st _ (by omega))]
      simp only [decide_eq_true_eq]
      split <;> rfl
theorem paperB_iff {p : ByteArray × Int × List (ByteArray × Int)} (h : paperB p = true) : wordB p.1 = true ∧ (0 ≤ p.2.1 ∧ p.2.1 ≤ 100000) ∧ linesB p.2.2 = true := by
  unfold paperB at h
  simp only [Bool.and_eq_true, inB_iff] at h
  exact ⟨h.1.1, h.1.2, h.2⟩
theorem lines_ok {xs : List (ByteArray × Int)} (h1 : xs.length ≤ 1000000) (h2 : ∀ l ∈ xs, lineOk l = true) : Lm OkLine xs := ⟨h1, fun l hl => by
  have h3 := lineOk_iff.1 (h2 l hl)
  have := wordB_size h3.1
  exact ⟨by unfold Sm; omega, wf64.2 (by omega)⟩⟩
theorem MissingLines_core (a b : ByteArray × Int × List (ByteArray × Int)) (ha : OkPaper a) (hb : OkPaper b) : ∃ w, spec_MissingLines.f a b = some w ∧ impl_MissingLines.f a b = some w ∧ Lm OkLine w.1 := by
  unfold spec_MissingLines.f spec_MissingLines.fn spec_MissingLines.top impl_MissingLines.f impl_MissingLines.fn impl_MissingLines.top
  rw [spec_IsPaper_f a ha, spec_IsPaper_f b hb, impl_IsPaper_f a ha, impl_IsPaper_f b hb]
  cases h1 : paperB a
  · exact ⟨([], 1), rfl, rfl, by simp, by simp⟩
  cases h2 : paperB b
  · exact ⟨([], 1), rfl, rfl, by simp, by simp⟩
  have p1 := linesB_ok (paperB_iff h1).2.2
  have p2 := linesB_ok (paperB_iff h2).2.2
  obtain ⟨w, e, ax⟩ := a
  obtain ⟨v, d, bs⟩ := b
  have q1 := impl_Missing_l v d ax bs p1.2 p2.2 p1.1 p2.1
  have q2 := spec_Missing_l v w d e ax bs p1.2 p2.2 p1.1 p2.1
  have p11 : ax.length ≤ 12 := p1.1
  exact ⟨(missL ax bs, 0), q2, q1.2, lines_ok (by simp only; omega) q1.1.2⟩
end Go.Pl

namespace Go.Pl
open Go.Ev
set_option linter.unusedVariables false
noncomputable section
def impl_IsArticle.top (a0 : ByteArray × Int × Int × Int × Int × Int × Int × Int × Int) : Option Bool :=
  (impl_IsWord.f a0.1).bind fun r1 =>
  if r1 = true then
    (impl_within.f a0.2.1 0 3).bind fun r2 =>
    if r2 = true then
      (impl_within.f a0.2.2.1 20 300).bind fun r3 =>
      if r3 = true then
        (impl_within.f a0.2.2.2.1 0 10000).bind fun r4 =>
        if r4 = true then
          (impl_within.f a0.2.2.2.2.1 0 a0.2.2.2.1).bind fun r5 =>
          if r5 = true then
            (impl_within.f a0.2.2.2.2.2.1 1 50).bind fun r6 =>
            if r6 = true then
              (impl_within.f a0.2.2.2.2.2.2.1 0 10000).bind fun r7 =>
              if r7 = true then
                (impl_within.f a0.2.2.2.2.2.2.2.1 1 100000).bind fun r8 =>
                if r8 = true then
                  (impl_within.f a0.2.2.2.2.2.2.2.2 0 3).bind fun r9 =>
                  some r9
                else
                  some false
              else
                some false
            else
              some false
          else
            some false
        else
          some false
      else
        some false
    else
      some false
  else
    some false
def impl_IsArticle.fn (n : Nat) (a0 : ByteArray × Int × Int × Int × Int × Int × Int × Int × Int) : Option Bool := impl_IsArticle.top a0
def impl_IsArticle.f (a0 : ByteArray × Int × Int × Int × Int × Int × Int × Int × Int) : Option Bool := impl_IsArticle.fn NN a0
end
end Go.Pl

namespace Go.Pl
open Go.Ev
set_option linter.unusedVariables false
noncomputable section
def spec_IsArticle.top (a0 : ByteArray × Int × Int × Int × Int × Int × Int × Int × Int) : Option Bool :=
  (spec_IsWord.f a0.1).bind fun r1 =>
  if r1 = true then
    (spec_l01In.f a0.2.1 0 3).bind fun r2 =>
    if r2 = true then
      (spec_l01In.f a0.2.2.1 20 300).bind fun r3 =>
      if r3 = true then
        (spec_l01In.f a0.2.2.2.1 0 10000).bind fun r4 =>
        if r4 = true then
          (spec_l01In.f a0.2.2.2.2.1 0 a0.2.2.2.1).bind fun r5 =>
          if r5 = true then
            (spec_l01In.f a0.2.2.2.2.2.1 1 50).bind fun r6 =>
            if r6 = true then
              (spec_l01In.f a0.2.2.2.2.2.2.1 0 10000).bind fun r7 =>
              if r7 = true then
                (spec_l01In.f a0.2.2.2.2.2.2.2.1 1 100000).bind fun r8 =>
                if r8 = true then
                  (spec_l01In.f a0.2.2.2.2.2.2.2.2 0 3).bind fun r9 =>
                  some r9
                else
                  some false
              else
                some false
            else
              some false
          else
            some false
        else
          some false
      else
        some false
    else
      some false
  else
    some false
def spec_IsArticle.fn (n : Nat) (a0 : ByteArray × Int × Int × Int × Int × Int × Int × Int × Int) : Option Bool := spec_IsArticle.top a0
def spec_IsArticle.f (a0 : ByteArray × Int × Int × Int × Int × Int × Int × Int × Int) : Option Bool := spec_IsArticle.fn NN a0
end
end Go.Pl

namespace Go.Pl
open Go.Ev
set_option linter.unusedVariables false
noncomputable section
def impl_AreArticles.g4 (L4 : (List (ByteArray × Int × Int × Int × Int × Int × Int × Int × Int)) → (List (ByteArray × Int × Int × Int × Int × Int × Int × Int × Int)) → Int → Int → Option Bool) (list0 : List (ByteArray × Int × Int × Int × Int × Int × Int × Int × Int)) (v8 : List (ByteArray × Int × Int × Int × Int × Int × Int × Int × Int)) (v9 : Int) (v10 : Int) : Option Bool :=
  if (decide ((v10 : Int) < v9)) = true then
    if (0 : Int) ≤ v10 ∧ (v10 : Int) < v8.length then
      (impl_IsArticle.f (v8.getD (v10 : Int).toNat (ByteArray.empty, (0, (0, (0, (0, (0, (0, (0, 0)))))))))).bind fun r1 =>
      if (!r1) = false then
        if (decide ((0 : Int) < v10)) = true then
          if (0 : Int) ≤ (IntKind.i64.wrap (v10 - 1)) ∧ ((IntKind.i64.wrap (v10 - 1)) : Int) < list0.length then
            if (!(Op.bytesLess ((list0.getD ((IntKind.i64.wrap (v10 - 1)) : Int).toNat (ByteArray.empty, (0, (0, (0, (0, (0, (0, (0, 0))))))))).1).toList ((v8.getD (v10 : Int).toNat (ByteArray.empty, (0, (0, (0, (0, (0, (0, (0, 0))))))))).1).toList)) = true then
              some false
            else
              L4 list0 v8 v9 (IntKind.i64.wrap (v10 + 1))
          else
            none
        else
          L4 list0 v8 v9 (IntKind.i64.wrap (v10 + 1))
      else
        some false
    else
      none
  else
    some true
def impl_AreArticles.l4 (n : Nat) : Nat → (List (ByteArray × Int × Int × Int × Int × Int × Int × Int × Int)) → (List (ByteArray × Int × Int × Int × Int × Int × Int × Int × Int)) → Int → Int → Option Bool
  | 0 => fun _ _ _ _ => none
  | k + 1 => impl_AreArticles.g4 (impl_AreArticles.l4 n k)
def impl_AreArticles.top (I4 : (List (ByteArray × Int × Int × Int × Int × Int × Int × Int × Int)) → (List (ByteArray × Int × Int × Int × Int × Int × Int × Int × Int)) → Int → Int → Option Bool) (list0 : List (ByteArray × Int × Int × Int × Int × Int × Int × Int × Int)) : Option Bool :=
  if (decide ((12 : Int) < (list0.length : Int))) = true then
    some false
  else
    I4 list0 list0 (list0.length : Int) 0
def impl_AreArticles.fn (n : Nat) (list0 : List (ByteArray × Int × Int × Int × Int × Int × Int × Int × Int)) : Option Bool := impl_AreArticles.top (impl_AreArticles.l4 n n) list0
def impl_AreArticles.f (list0 : List (ByteArray × Int × Int × Int × Int × Int × Int × Int × Int)) : Option Bool := impl_AreArticles.fn NN list0
end
end Go.Pl

namespace Go.Pl
open Go.Ev
set_option linter.unusedVariables false
noncomputable section
def spec_AreArticles.g2 (L2 : (List (ByteArray × Int × Int × Int × Int × Int × Int × Int × Int)) → Int → Option Bool) (list0 : List (ByteArray × Int × Int × Int × Int × Int × Int × Int × Int)) (i3 : Int) : Option Bool :=
  if (decide ((i3 : Int) < (list0.length : Int))) = true then
    if (0 : Int) ≤ i3 ∧ (i3 : Int) < list0.length then
      (spec_IsArticle.f (list0.getD (i3 : Int).toNat (ByteArray.empty, (0, (0, (0, (0, (0, (0, (0, 0)))))))))).bind fun r1 =>
      if (!r1) = false then
        if (decide ((0 : Int) < i3)) = true then
          if (0 : Int) ≤ (IntKind.i64.wrap (i3 - 1)) ∧ ((IntKind.i64.wrap (i3 - 1)) : Int) < list0.length then
            if (0 : Int) ≤ i3 ∧ (i3 : Int) < list0.length then
              if (!(Op.bytesLess ((list0.getD ((IntKind.i64.wrap (i3 - 1)) : Int).toNat (ByteArray.empty, (0, (0, (0, (0, (0, (0, (0, 0))))))))).1).toList ((list0.getD (i3 : Int).toNat (ByteArray.empty, (0, (0, (0, (0, (0, (0, (0, 0))))))))).1).toList)) = true then
                some false
              else
                L2 list0 (IntKind.i64.wrap (i3 + 1))
            else
              none
          else
            none
        else
          L2 list0 (IntKind.i64.wrap (i3 + 1))
      else
        some false
    else
      none
  else
    some (decide (((list0.length : Int) : Int) ≤ 12))
def spec_AreArticles.l2 (n : Nat) : Nat → (List (ByteArray × Int × Int × Int × Int × Int × Int × Int × Int)) → Int → Option Bool
  | 0 => fun _ _ => none
  | k + 1 => spec_AreArticles.g2 (spec_AreArticles.l2 n k)
def spec_AreArticles.top (I2 : (List (ByteArray × Int × Int × Int × Int × Int × Int × Int × Int)) → Int → Option Bool) (list0 : List (ByteArray × Int × Int × Int × Int × Int × Int × Int × Int)) : Option Bool :=
  I2 list0 0
def spec_AreArticles.fn (n : Nat) (list0 : List (ByteArray × Int × Int × Int × Int × Int × Int × Int × Int)) : Option Bool := spec_AreArticles.top (spec_AreArticles.l2 n n) list0
def spec_AreArticles.f (list0 : List (ByteArray × Int × Int × Int × Int × Int × Int × Int × Int)) : Option Bool := spec_AreArticles.fn NN list0
end
end Go.Pl

namespace Go.Pl
open Go.Ev
set_option linter.unusedVariables false
noncomputable section
def impl_articleOf.g2 (L2 : ByteArray → (List (ByteArray × Int × Int × Int × Int × Int × Int × Int × Int)) → Int → Int → Option Int) (code1 : ByteArray) (v7 : List (ByteArray × Int × Int × Int × Int × Int × Int × Int × Int)) (v8 : Int) (v9 : Int) : Option Int :=
  if (decide ((v9 : Int) < v8)) = true then
    if (0 : Int) ≤ v9 ∧ (v9 : Int) < v7.length then
      if (((v7.getD (v9 : Int).toNat (ByteArray.empty, (0, (0, (0, (0, (0, (0, (0, 0))))))))).1).toList == code1.toList) = true then
        some v9
      else
        L2 code1 v7 v8 (IntKind.i64.wrap (v9 + 1))
    else
      none
  else
    some (-1)
def impl_articleOf.l2 (n : Nat) : Nat → ByteArray → (List (ByteArray × Int × Int × Int × Int × Int × Int × Int × Int)) → Int → Int → Option Int
  | 0 => fun _ _ _ _ => none
  | k + 1 => impl_articleOf.g2 (impl_articleOf.l2 n k)
def impl_articleOf.top (I2 : ByteArray → (List (ByteArray × Int × Int × Int × Int × Int × Int × Int × Int)) → Int → Int → Option Int) (list0 : List (ByteArray × Int × Int × Int × Int × Int × Int × Int × Int)) (code1 : ByteArray) : Option Int :=
  I2 code1 list0 (list0.length : Int) 0
def impl_articleOf.fn (n : Nat) (list0 : List (ByteArray × Int × Int × Int × Int × Int × Int × Int × Int)) (code1 : ByteArray) : Option Int := impl_articleOf.top (impl_articleOf.l2 n n) list0 code1
def impl_articleOf.f (list0 : List (ByteArray × Int × Int × Int × Int × Int × Int × Int × Int)) (code1 : ByteArray) : Option Int := impl_articleOf.fn NN list0 code1
end
end Go.Pl

namespace Go.Pl
open Go.Ev
set_option linter.unusedVariables false
noncomputable section
def spec_l03Find.g2 (L2 : (List (ByteArray × Int × Int × Int × Int × Int × Int × Int × Int)) → ByteArray → Int → Option Int) (list0 : List (ByteArray × Int × Int × Int × Int × Int × Int × Int × Int)) (code1 : ByteArray) (i5 : Int) : Option Int :=
  if (decide ((i5 : Int) < (list0.length : Int))) = true then
    if (0 : Int) ≤ i5 ∧ (i5 : Int) < list0.length then
      if (((list0.getD (i5 : Int).toNat (ByteArray.empty, (0, (0, (0, (0, (0, (0, (0, 0))))))))).1).toList == code1.toList) = true then
        some i5
      else
        L2 list0 code1 (IntKind.i64.wrap (i5 + 1))
    else
      none
  else
    some (-1)
def spec_l03Find.l2 (n : Nat) : Nat → (List (ByteArray × Int × Int × Int × Int × Int × Int × Int × Int)) → ByteArray → Int → Option Int
  | 0 => fun _ _ _ => none
  | k + 1 => spec_l03Find.g2 (spec_l03Find.l2 n k)
def spec_l03Find.top (I2 : (List (ByteArray × Int × Int × Int × Int × Int × Int × Int × Int)) → ByteArray → Int → Option Int) (list0 : List (ByteArray × Int × Int × Int × Int × Int × Int × Int × Int)) (code1 : ByteArray) : Option Int :=
  I2 list0 code1 0
def spec_l03Find.fn (n : Nat) (list0 : List (ByteArray × Int × Int × Int × Int × Int × Int × Int × Int)) (code1 : ByteArray) : Option Int := spec_l03Find.top (spec_l03Find.l2 n n) list0 code1
def spec_l03Find.f (list0 : List (ByteArray × Int × Int × Int × Int × Int × Int × Int × Int)) (code1 : ByteArray) : Option Int := spec_l03Find.fn NN list0 code1
end
end Go.Pl

namespace Go.Pl
open Go.Ev
set_option linter.unusedVariables false
set_option linter.unusedSimpArgs false
abbrev Art : Type := ByteArray × Int × Int × Int × Int × Int × Int × Int × Int
def artB (a : Art) : Bool := wordB a.1 && inB a.2.1 0 3 && inB a.2.2.1 20 300 && inB a.2.2.2.1 0 10000 && inB a.2.2.2.2.1 0 a.2.2.2.1 && inB a.2.2.2.2.2.1 1 50 && inB a.2.2.2.2.2.2.1 0 10000 && inB a.2.2.2.2.2.2.2.1 1 100000 && inB a.2.2.2.2.2.2.2.2 0 3
theorem impl_IsArticle_f (a : Art) (h : Sz a.1) : impl_IsArticle.f a = some (artB a) := by
  unfold impl_IsArticle.f impl_IsArticle.fn impl_IsArticle.top artB
  simp only [impl_IsWord_f _ h, impl_within_f, Option.bind_some]
  cases wordB a.1
  · rfl
  cases inB a.2.1 0 3
  · rfl
  cases inB a.2.2.1 20 300
  · rfl
  cases inB a.2.2.2.1 0 10000
  · rfl
  cases inB a.2.2.2.2.1 0 a.2.2.2.1
  · rfl
  cases inB a.2.2.2.2.2.1 1 50
  · rfl
  cases inB a.2.2.2.2.2.2.1 0 10000
  · rfl
  cases inB a.2.2.2.2.2.2.2.1 1 100000
  · rfl
  · rfl
theorem spec_IsArticle_f (a : Art) (h : Sz a.1) : spec_IsArticle.f a = some (artB a) := by
  unfold spec_IsArticle.f spec_IsArticle.fn spec_IsArticle.top artB
  simp only [spec_IsWord_f _ h, spec_l01In_f, Option.bind_some]
  cases wordB a.1
  · rfl
  cases inB a.2.1 0 3
  · rfl
  cases inB a.2.2.1 20 300
  · rfl
  cases inB a.2.2.2.1 0 10000
  · rfl
  cases inB a.2.2.2.2.1 0 a.2.2.2.1
  · rfl
  cases inB a.2.2.2.2.2.1 1 50
  · rfl
  cases inB a.2.2.2.2.2.2.1 0 10000
  · rfl
  cases inB a.2.2.2.2.2.2.2.1 1 100000
  · rfl
  · rfl
/-- articles, looked at from the second on -/
def artsF : Art → List Art → Bool
  | _, [] => true
  | x, a :: r => artB a && ltS x.1 a.1 && artsF a r
def artsL : List Art → Bool
  | [] => true
  | a :: r => artB a && artsF a r
def artsB (xs : List Art) : Bool := decide (xs.length ≤ 12) && artsL xs
noncomputable def impl_arts_call (k : Nat) (xs : List Art) (i : Int) := impl_AreArticles.l4 NN k xs xs xs.length i
noncomputable def spec_arts_call (k : Nat) (xs : List Art) (i : Int) := spec_AreArticles.l2 NN k xs i
theorem impl_arts_loop : ∀ (r p : List Art) (x : Art) (k : Nat), p.length + r.length + 1 ≤ 140737488355328 → r.length < k → (∀ a ∈ r, Sz a.1) →
    impl_arts_call k (p ++ [x] ++ r) ((p.length : Int) + 1) = if artsF x r = true then some ((fun _ => true) (p ++ [x] ++ r)) else some false := by
  intro r
  induction r with
  | nil =>
    intro p x k _ hk _
    obtain ⟨k, rfl⟩ : ∃ j, k = j + 1 := ⟨k - 1, by omega⟩
    have n1 : ¬ (p.length : Int) + 1 < ((p ++ [x] ++ []).length : Int) := by simp
    simp only [impl_arts_call, impl_AreArticles.l4, impl_AreArticles.g4, n1, decide_false, Bool.false_eq_true, if_false, artsF, if_true]
  | cons a r ih =>
    intro p x k hb hk hz
    simp only [List.length_cons] at hb hk
    obtain ⟨k, rfl⟩ : ∃ j, k = j + 1 := ⟨k - 1, by omega⟩
    have hl : ((p ++ [x] ++ a :: r).length : Int) = p.length + r.length + 2 := by simp; omega
    have w1 := w64 (n := (p.length : Int) + 1 - 1) (by omega) (by omega)
    have w2 := w64 (n := (p.length : Int) + 1 + 1) (by omega) (by omega)
    have c1 : (p.length : Int) + 1 < ((p ++ [x] ++ a :: r).length : Int) := by omega
    have c2 : (0 : Int) ≤ (p.length : Int) + 1 - 1 := by omega
    have c3 : (p.length : Int) + 1 - 1 < ((p ++ [x] ++ a :: r).length : Int) := by omega
    have c4 : (0 : Int) ≤ (p.length : Int) + 1 := by omega
    have c5 : (0 : Int) < (p.length : Int) + 1 := by omega
    have g1 : ∀ z, (p ++ [x] ++ a :: r).getD ((p.length : Int) + 1).toNat z = a := fun z => by
      rw [show ((p.length : Int) + 1).toNat = (p ++ [x]).length by simp, mid_getn]
    have g2 : ∀ z, (p ++ [x] ++ a :: r).getD ((p.length : Int) + 1 - 1).toNat z = x := fun z => by
      rw [show ((p.length : Int) + 1 - 1).toNat = p.length by omega, snoc_getl']
    have i1 := ih (p ++ [x]) a k (by simp; omega) (by omega) (fun b hb => hz b (by simp [hb]))
    have e1 : (((p ++ [x]).length : Nat) : Int) + 1 = (p.length : Int) + 1 + 1 := by simp
    have e2 : p ++ [x] ++ [a] ++ r = p ++ [x] ++ a :: r := by simp
    rw [e1, e2] at i1
    simp only [impl_arts_call] at i1
    simp only [impl_arts_call, impl_AreArticles.l4, impl_AreArticles.g4, w1, w2, c1, c2, c3, c4, c5, g1, g2, and_self, decide_true, if_true, Option.bind_some, impl_IsArticle_f a (hz a (by simp)), artsF]
    rcases Bool.eq_false_or_eq_true (artB a) with h1 | h1
    · rcases Bool.eq_false_or_eq_true (ltS x.1 a.1) with h2 | h2
      · have h2' : Op.bytesLess x.1.toList a.1.toList = true := h2
        simp only [h1, h2, h2', Bool.not_true, Bool.false_eq_true, if_false, if_true, Bool.true_and, Bool.and_true]
        exact i1
      · have h2' : Op.bytesLess x.1.toList a.1.toList = false := h2
        simp [h1, h2, h2']
    · simp [h1]
theorem impl_arts_all (xs : List Art) (hb : xs.length ≤ 140737488355328) (hz : ∀ a ∈ xs, Sz a.1) : impl_arts_call NN xs 0 = if artsL xs = true then some ((fun _ => true) xs) else some false := by
  obtain ⟨k, hk⟩ : ∃ j, NN = j + 1 := ⟨NN - 1, by have := NNb; omega⟩
  have hkb : 1000000000000000 < k := by rw [NN_eq] at hk; omega
  unfold impl_arts_call
  rw [show impl_AreArticles.l4 NN NN = impl_AreArticles.l4 NN (k + 1) by rw [← hk]]
  cases xs with
  | nil =>
    have n1 : ¬ (0 : Int) < (([] : List Art).length : Int) := by simp
    simp only [impl_AreArticles.l4, impl_AreArticles.g4, n1, decide_false, Bool.false_eq_true, if_false, artsL, if_true]
  | cons a r =>
    simp only [List.length_cons] at hb
    have i1 := impl_arts_loop r [] a k (by simp; omega) (by omega) (fun b hb => hz b (by simp [hb]))
    simp only [impl_arts_call, List.nil_append, List.length_nil] at i1
    have n1 : (0 : Int) < ((a :: r).length : Int) := by simp only [List.length_cons]; omega
    have w2 := w64 (n := (0 : Int) + 1) (by omega) (by omega)
    have g1 : ∀ z, (a :: r).getD (0 : Int).toNat z = a := fun z => rfl
    simp only [impl_AreArticles.l4, impl_AreArticles.g4, n1, w2, g1, Int.le_refl, Int.lt_irrefl, and_self, decide_true, decide_false, if_true, Option.bind_some, impl_IsArticle_f a (hz a (by simp)), artsL]
    rcases Bool.eq_false_or_eq_true (artB a) with h1 | h1
    · simp only [h1, Bool.not_true, Bool.false_eq_true, if_false, if_true, Bool.true_and]
      exact i1
    · simp [h1]
theorem spec_arts_loop : ∀ (r p : List Art) (x : Art) (k : Nat), p.length + r.length + 1 ≤ 140737488355328 → r.length < k → (∀ a ∈ r, Sz a.1) →
    spec_arts_call k (p ++ [x] ++ r) ((p.length : Int) + 1) = if artsF x r = true then some ((fun xs : List Art => decide (((xs.length : Int) : Int) ≤ 12)) (p ++ [x] ++ r)) else some false := by
  intro r
  induction r with
  | nil =>
    intro p x k _ hk _
    obtain ⟨k, rfl⟩ : ∃ j, k = j + 1 := ⟨k - 1, by omega⟩
    have n1 : ¬ (p.length : Int) + 1 < ((p ++ [x] ++ []).length : Int) := by simp
    simp only [spec_arts_call, spec_AreArticles.l2, spec_AreArticles.g2, n1, decide_false, Bool.false_eq_true, if_false, artsF, if_true]
  | cons a r ih =>
    intro p x k hb hk hz
    simp only [List.length_cons] at hb hk
    obtain ⟨k, rfl⟩ : ∃ j, k = j + 1 := ⟨k - 1, by omega⟩
    have hl : ((p ++ [x] ++ a :: r).length : Int) = p.length + r.length + 2 := by simp; omega
    have w1 := w64 (n := (p.length : Int) + 1 - 1) (by omega) (by omega)
    have w2 := w64 (n := (p.length : Int) + 1 + 1) (by omega) (by omega)
    have c1 : (p.length : Int) + 1 < ((p ++ [x] ++ a :: r).length : Int) := by omega
    have c2 : (0 : Int) ≤ (p.length : Int) + 1 - 1 := by omega
    have c3 : (p.length : Int) + 1 - 1 < ((p ++ [x] ++ a :: r).length : Int) := by omega
    have c4 : (0 : Int) ≤ (p.length : Int) + 1 := by omega
    have c5 : (0 : Int) < (p.length : Int) + 1 := by omega
    have g1 : ∀ z, (p ++ [x] ++ a :: r).getD ((p.length : Int) + 1).toNat z = a := fun z => by
      rw [show ((p.length : Int) + 1).toNat = (p ++ [x]).length by simp, mid_getn]
    have g2 : ∀ z, (p ++ [x] ++ a :: r).getD ((p.length : Int) + 1 - 1).toNat z = x := fun z => by
      rw [show ((p.length : Int) + 1 - 1).toNat = p.length by omega, snoc_getl']
    have i1 := ih (p ++ [x]) a k (by simp; omega) (by omega) (fun b hb => hz b (by simp [hb]))
    have e1 : (((p ++ [x]).length : Nat) : Int) + 1 = (p.length : Int) + 1 + 1 := by simp
    have e2 : p ++ [x] ++ [a] ++ r = p ++ [x] ++ a :: r := by simp
    rw [e1, e2] at i1
    simp only [spec_arts_call] at i1
    simp only [spec_arts_call, spec_AreArticles.l2, spec_AreArticles.g2, w1, w2, c1, c2, c3, c4, c5, g1, g2, and_self, decide_true, if_true, Option.bind_some, spec_IsArticle_f a (hz a (by simp)), artsF]
    rcases Bool.eq_false_or_eq_true (artB a) with h1 | h1
    · rcases Bool.eq_false_or_eq_true (ltS x.1 a.1) with h2 | h2
      · have h2' : Op.bytesLess x.1.toList a.1.toList = true := h2
        simp only [h1, h2, h2', Bool.not_true, Bool.false_eq_true, if_false, if_true, Bool.true_and, Bool.and_true]
        exact i1
      · have h2' : Op.bytesLess x.1.toList a.1.toList = false := h2
        simp [h1, h2, h2']
    · simp [h1]
theorem spec_arts_all (xs : List Art) (hb : xs.length ≤ 140737488355328) (hz : ∀ a ∈ xs, Sz a.1) : spec_arts_call NN xs 0 = if artsL xs = true then some ((fun xs : List Art => decide (((xs.length : Int) : Int) ≤ 12)) xs) else some false := by
  obtain ⟨k, hk⟩ : ∃ j, NN = j + 1 := ⟨NN - 1, by have := NNb; omega⟩
  have hkb : 1000000000000000 < k := by rw [NN_eq] at hk; omega
  unfold spec_arts_call
  rw [show spec_AreArticles.l2 NN NN = spec_AreArticles.l2 NN (k + 1) by rw [← hk]]
  cases xs with
  | nil =>
    have n1 : ¬ (0 : Int) < (([] : List Art).length : Int) := by simp
    simp only [spec_AreArticles.l2, spec_AreArticles.g2, n1, decide_false, Bool.false_eq_true, if_false, artsL, if_true]
  | cons a r =>
    simp only [List.length_cons] at hb
    have i1 := spec_arts_loop r [] a k (by simp; omega) (by omega) (fun b hb => hz b (by simp [hb]))
    simp only [spec_arts_call, List.nil_append, List.length_nil] at i1
    have n1 : (0 : Int) < ((a :: r).length : Int) := by simp only [List.length_cons]; omega
    have w2 := w64 (n := (0 : Int) + 1) (by omega) (by omega)
    have g1 : ∀ z, (a :: r).getD (0 : Int).toNat z = a := fun z => rfl
    simp only [spec_AreArticles.l2, spec_AreArticles.g2, n1, w2, g1, Int.le_refl, Int.lt_irrefl, and_self, decide_true, decide_false, if_true, Option.bind_some, spec_IsArticle_f a (hz a (by simp)), artsL]
    rcases Bool.eq_false_or_eq_true (artB a) with h1 | h1
    · simp only [h1, Bool.not_true, Bool.false_eq_true, if_false, if_true, Bool.true_and]
      exact i1
    · simp [h1]
theorem impl_AreArticles_f (xs : List Art) (hb : xs.length ≤ 140737488355328) (hz : ∀ a ∈ xs, Sz a.1) : impl_AreArticles.f xs = some (artsB xs) := by
  unfold impl_AreArticles.f impl_AreArticles.fn impl_AreArticles.top artsB
  have := impl_arts_all xs hb hz
  unfold impl_arts_call at this
  by_cases h : (12 : Int) < (xs.length : Int)
  · have h2 : ¬ xs.length ≤ 12 := by omega
    simp only [h, h2, decide_true, decide_false, if_true, Bool.false_and]
  · have h2 : xs.length ≤ 12 := by omega
    simp only [h, h2, decide_true, decide_false, Bool.false_eq_true, if_false, Bool.true_and]
    rw [this]
    cases artsL xs <;> rfl
theorem spec_AreArticles_f (xs : List Art) (hb : xs.length ≤ 140737488355328) (hz : ∀ a ∈ xs, Sz a.1) : spec_AreArticles.f xs = some (artsB xs) := by
  unfold spec_AreArticles.f spec_AreArticles.fn spec_AreArticles.top artsB
  have := spec_arts_all xs hb hz
  unfold spec_arts_call at this
  rw [this]
  have e : decide (((xs.length : Int) : Int) ≤ 12) = decide (xs.length ≤ 12) := by
    by_cases h : xs.length ≤ 12
    · have : (xs.length : Int) ≤ 12 := by omega
      simp [h, this]
    · have : ¬ (xs.length : Int) ≤ 12 := by omega
      simp [h, this]
  simp only [e]
  cases artsL xs <;> simp
theorem artsF_ok : ∀ (r : List Art) (x : Art), artsF x r = true → ∀ a ∈ r, artB a = true := by
  intro r
  induction r with
  | nil => intro x _ a ha; cases ha
  | cons b r ih =>
    intro x h a ha
    simp only [artsF, Bool.and_eq_true] at h
    rcases List.mem_cons.1 ha with rfl | ha
    · exact h.1.1
    · exact ih b h.2 a ha
theorem artsB_ok {xs : List Art} (h : artsB xs = true) : xs.length ≤ 12 ∧ ∀ a ∈ xs, artB a = true := by
  unfold artsB at h
  simp only [Bool.and_eq_true, decide_eq_true_eq] at h
  refine ⟨h.1, ?_⟩
  cases xs with
  | nil => intro a ha; cases ha
  | cons b r =>
    intro a ha
    have h2 := h.2
    simp only [artsL, Bool.and_eq_true] at h2
    rcases List.mem_cons.1 ha with rfl | ha
    · exact h2.1
    · exact artsF_ok r b h2.2 a ha
theorem artB_iff {a : Art} (h : artB a = true) : wordB a.1 = true ∧ (0 ≤ a.2.1 ∧ a.2.1 ≤ 3) ∧ (20 ≤ a.2.2.1 ∧ a.2.2.1 ≤ 300) ∧ (1 ≤ a.2.2.2.2.2.2.2.1 ∧ a.2.2.2.2.2.2.2.1 ≤ 100000) ∧ (0 ≤ a.2.2.2.2.2.2.2.2 ∧ a.2.2.2.2.2.2.2.2 ≤ 3) := by
  unfold artB at h
  simp only [Bool.and_eq_true, inB_iff] at h
  exact ⟨h.1.1.1.1.1.1.1.1, h.1.1.1.1.1.1.1.2, h.1.1.1.1.1.1.2, h.1.2, h.2⟩
/-- the number of an article, or -1 -/
def artI (xs : List Art) (c : ByteArray) : Int := (firstOf (fun l : Art => decide (l.1 = c)) 0 xs).elim (-1) (fun x => (x.1 : Int))
theorem impl_articleOf_f (xs : List Art) (c : ByteArray) (h : xs.length ≤ 140737488355328) : impl_articleOf.f xs c = some (artI xs c) := by
  have := find_loop (E := fun _ => True) (fun l : Art => decide (l.1 = c)) (fun i _ => some (i : Int)) (fun _ => some (-1)) (fun k xs i => impl_articleOf.l2 NN k c xs xs.length i) ?_ ?_ xs (fun _ _ => trivial) (by omega) NN (NN_lt (by omega))
  · refine this.trans ?_
    unfold artI
    cases firstOf (fun l : Art => decide (l.1 = c)) 0 xs <;> rfl
  · intro k p
    simp [impl_articleOf.l2, impl_articleOf.g2]
  · intro k p l r _ c0 c1 c2 cw
    simp only [impl_articleOf.l2, impl_articleOf.g2, c0, c1, cw, and_self, and_true, true_and, decide_true, decide_false, if_true, if_false, mid_get, mid_set, mid_getn, mid_setn, bt_mid, Option.bind_some, Bool.not_true, Bool.not_false, Bool.false_eq_true, Bool.true_eq_false, beq_self_eq_true, bne_self_eq_false, Int.toNat_natCast, ba_beq]
theorem spec_l03Find_f (xs : List Art) (c : ByteArray) (h : xs.length ≤ 140737488355328) : spec_l03Find.f xs c = some (artI xs c) := by
  have := find_loop (E := fun _ => True) (fun l : Art => decide (l.1 = c)) (fun i _ => some (i : Int)) (fun _ => some (-1)) (fun k xs i => spec_l03Find.l2 NN k xs c i) ?_ ?_ xs (fun _ _ => trivial) (by omega) NN (NN_lt (by omega))
  · refine this.trans ?_
    unfold artI
    cases firstOf (fun l : Art => decide (l.1 = c)) 0 xs <;> rfl
  · intro k p
    simp [spec_l03Find.l2, spec_l03Find.g2]
  · intro k p l r _ c0 c1 c2 cw
    simp only [spec_l03Find.l2, spec_l03Find.g2, c0, c1, cw, and_self, and_true, true_and, decide_true, decide_false, if_true, if_false, mid_get, mid_set, mid_getn, mid_setn, bt_mid, Option.bind_some, Bool.not_true, Bool.not_false, Bool.false_eq_true, Bool.true_eq_false, beq_self_eq_true, bne_self_eq_false, Int.toNat_natCast, ba_beq]
theorem artI_bd (xs : List Art) (c : ByteArray) : artI xs c < (xs.length : Int) := by
  unfold artI
  cases h : firstOf (fun l : Art => decide (l.1 = c)) 0 xs with
  | none => simp only [Option.elim_none]; omega
  | some x =>
    have := firstOf_spec _ xs 0 x.1 x.2 h
    simp only [Option.elim_some]; omega
theorem firstOf_none {α : Type} (P : α → Bool) : ∀ (xs : List α) (i : Nat), firstOf P i xs = none → ∀ x ∈ xs, P x = false := by
  intro xs
  induction xs with
  | nil => intro i _ x hx; cases hx
  | cons a r ih =>
    intro i h x hx
    simp only [firstOf] at h
    split at h
    · cases h
    · rename_i hp
      rcases List.mem_cons.1 hx with rfl | hx
      · simpa using hp
      · exact ih _ h x hx
end Go.Pl

namespace Go.Pl
open Go.Ev
set_option linter.unusedVariables false
noncomputable section
def impl_bit.top (is0 : Bool) (n1 : Int) : Option Int :=
  if is0 = true then
    some n1
  else
    some 0
def impl_bit.fn (n : Nat) (is0 : Bool) (n1 : Int) : Option Int := impl_bit.top is0 n1
def impl_bit.f (is0 : Bool) (n1 : Int) : Option Int := impl_bit.fn NN is0 n1
end
end Go.Pl

namespace Go.Pl
open Go.Ev
set_option linter.unusedVariables false
noncomputable section
def impl_orderNet.g3 (L3 : List Int → Int → (List (ByteArray × Int × Int × Int × Int × Int × Int × Int × Int)) → Int → Int → Option Int) (counts1 : List Int) (sum5 : Int) (v8 : List (ByteArray × Int × Int × Int × Int × Int × Int × Int × Int)) (v9 : Int) (v10 : Int) : Option Int :=
  if (decide ((v10 : Int) < v9)) = true then
    if (0 : Int) ≤ v10 ∧ (v10 : Int) < v8.length then
      if (0 : Int) ≤ v10 ∧ (v10 : Int) < counts1.length then
        L3 counts1 (IntKind.i64.wrap (sum5 + (IntKind.i64.wrap ((((((((((v8.getD (v10 : Int).toNat (ByteArray.empty, (0, (0, (0, (0, (0, (0, (0, 0))))))))).2).2).2).2).2).2).2).1) * (counts1.getD (v10 : Int).toNat 0))))) v8 v9 (IntKind.i64.wrap (v10 + 1))
      else
        none
    else
      none
  else
    some sum5
def impl_orderNet.l3 (n : Nat) : Nat → List Int → Int → (List (ByteArray × Int × Int × Int × Int × Int × Int × Int × Int)) → Int → Int → Option Int
  | 0 => fun _ _ _ _ _ => none
  | k + 1 => impl_orderNet.g3 (impl_orderNet.l3 n k)
def impl_orderNet.top (I3 : List Int → Int → (List (ByteArray × Int × Int × Int × Int × Int × Int × Int × Int)) → Int → Int → Option Int) (list0 : List (ByteArray × Int × Int × Int × Int × Int × Int × Int × Int)) (counts1 : List Int) : Option Int :=
  I3 counts1 0 list0 (list0.length : Int) 0
def impl_orderNet.fn (n : Nat) (list0 : List (ByteArray × Int × Int × Int × Int × Int × Int × Int × Int)) (counts1 : List Int) : Option Int := impl_orderNet.top (impl_orderNet.l3 n n) list0 counts1
def impl_orderNet.f (list0 : List (ByteArray × Int × Int × Int × Int × Int × Int × Int × Int)) (counts1 : List Int) : Option Int := impl_orderNet.fn NN list0 counts1
end
end Go.Pl

namespace Go.Pl
open Go.Ev
set_option linter.unusedVariables false
noncomputable section
def impl_areCounts.top (list0 : List (ByteArray × Int × Int × Int × Int × Int × Int × Int × Int)) (counts1 : List Int) : Option Bool :=
  if (((counts1.length : Int) : Int) == (list0.length : Int)) = true then
    (impl_allWithin.f counts1 0 1000).bind fun r1 =>
    some r1
  else
    some false
def impl_areCounts.fn (n : Nat) (list0 : List (ByteArray × Int × Int × Int × Int × Int × Int × Int × Int)) (counts1 : List Int) : Option Bool := impl_areCounts.top list0 counts1
def impl_areCounts.f (list0 : List (ByteArray × Int × Int × Int × Int × Int × Int × Int × Int)) (counts1 : List Int) : Option Bool := impl_areCounts.fn NN list0 counts1
end
end Go.Pl

namespace Go.Pl
open Go.Ev
set_option linter.unusedVariables false
noncomputable section
def impl_refusalsOf.g10 (L5 : List Int → (List (ByteArray × Int × Int × Int × Int × Int × Int × Int × Int)) → Int → Int → (Int × Int × Int × Int × List Int × Int) → List Bool → Option Int) (L10 : List Int → Bool → (List (ByteArray × Int × Int × Int × Int × Int × Int × Int × Int)) → Int → Int → List Int → Int → Int → (Int × Int × Int × Int × List Int × Int) → List Bool → (ByteArray × Int × Int × Int × Int × Int × Int × Int × Int) → Option Int) (counts2 : List Int) (kind12 : Bool) (v30 : List (ByteArray × Int × Int × Int × Int × Int × Int × Int × Int)) (v31 : Int) (v32 : Int) (v43 : List Int) (v44 : Int) (v45 : Int) (p4 : Int × Int × Int × Int × List Int × Int) (has9 : List Bool) (a11 : ByteArray × Int × Int × Int × Int × Int × Int × Int × Int) : Option Int :=
  if (decide ((v45 : Int) < v44)) = true then
    if (0 : Int) ≤ v45 ∧ (v45 : Int) < v43.length then
      if kind12 = false then
        L10 counts2 (((v43.getD (v45 : Int).toNat 0) : Int) == a11.2.1) v30 v31 v32 v43 v44 (IntKind.i64.wrap (v45 + 1)) p4 has9 a11
      else
        L10 counts2 true v30 v31 v32 v43 v44 (IntKind.i64.wrap (v45 + 1)) p4 has9 a11
    else
      none
  else if (0 : Int) ≤ 2 ∧ (2 : Int) < 5 then
    if (has9.getD (2 : Int).toNat false) = false then
      if (0 : Int) ≤ 2 ∧ (2 : Int) < 5 then
        if (0 : Int) ≤ 3 ∧ (3 : Int) < 5 then
          if ((has9.set (2 : Int).toNat (decide ((p4.2.2.2.1 : Int) < a11.2.2.1))).getD (3 : Int).toNat false) = false then
            if (0 : Int) ≤ 3 ∧ (3 : Int) < 5 then
              if (0 : Int) ≤ 4 ∧ (4 : Int) < 5 then
                if (((has9.set (2 : Int).toNat (decide ((p4.2.2.2.1 : Int) < a11.2.2.1))).set (3 : Int).toNat (!kind12)).getD (4 : Int).toNat false) = false then
                  if (0 : Int) ≤ 4 ∧ (4 : Int) < 5 then
                    L5 counts2 v30 v31 (IntKind.i64.wrap (v32 + 1)) p4 (((has9.set (2 : Int).toNat (decide ((p4.2.2.2.1 : Int) < a11.2.2.1))).set (3 : Int).toNat (!kind12)).set (4 : Int).toNat (decide ((p4.2.2.2.2.2 : Int) < a11.2.2.2.2.2.2.2.2)))
                  else
                    none
                else if (0 : Int) ≤ 4 ∧ (4 : Int) < 5 then
                  L5 counts2 v30 v31 (IntKind.i64.wrap (v32 + 1)) p4 (((has9.set (2 : Int).toNat (decide ((p4.2.2.2.1 : Int) < a11.2.2.1))).set (3 : Int).toNat (!kind12)).set (4 : Int).toNat true)
                else
                  none
              else
                none
            else
              none
          else if (0 : Int) ≤ 3 ∧ (3 : Int) < 5 then
            if (0 : Int) ≤ 4 ∧ (4 : Int) < 5 then
              if (((has9.set (2 : Int).toNat (decide ((p4.2.2.2.1 : Int) < a11.2.2.1))).set (3 : Int).toNat true).getD (4 : Int).toNat false) = false then
                if (0 : Int) ≤ 4 ∧ (4 : Int) < 5 then
                  L5 counts2 v30 v31 (IntKind.i64.wrap (v32 + 1)) p4 (((has9.set (2 : Int).toNat (decide ((p4.2.2.2.1 : Int) < a11.2.2.1))).set (3 : Int).toNat true).set (4 : Int).toNat (decide ((p4.2.2.2.2.2 : Int) < a11.2.2.2.2.2.2.2.2)))
                else
                  none
              else if (0 : Int) ≤ 4 ∧ (4 : Int) < 5 then
                L5 counts2 v30 v31 (IntKind.i64.wrap (v32 + 1)) p4 (((has9.set (2 : Int).toNat (decide ((p4.2.2.2.1 : Int) < a11.2.2.1))).set (3 : Int).toNat true).set (4 : Int).toNat true)
              else
                none
            else
              none
          else
            none
        else
          none
      else
        none
    else if (0 : Int) ≤ 2 ∧ (2 : Int) < 5 then
      if (0 : Int) ≤ 3 ∧ (3 : Int) < 5 then
        if ((has9.set (2 : Int).toNat true).getD (3 : Int).toNat false) = false then
          if (0 : Int) ≤ 3 ∧ (3 : Int) < 5 then
            if (0 : Int) ≤ 4 ∧ (4 : Int) < 5 then
              if (((has9.set (2 : Int).toNat true).set (3 : Int).toNat (!kind12)).getD (4 : Int).toNat false) = false then
                if (0 : Int) ≤ 4 ∧ (4 : Int) < 5 then
                  L5 counts2 v30 v31 (IntKind.i64.wrap (v32 + 1)) p4 (((has9.set (2 : Int).toNat true).set (3 : Int).toNat (!kind12)).set (4 : Int).toNat (decide ((p4.2.2.2.2.2 : Int) < a11.2.2.2.2.2.2.2.2)))
                else
                  none
              else if (0 : Int) ≤ 4 ∧ (4 : Int) < 5 then
                L5 counts2 v30 v31 (IntKind.i64.wrap (v32 + 1)) p4 (((has9.set (2 : Int).toNat true).set (3 : Int).toNat (!kind12)).set (4 : Int).toNat true)
              else
                none
            else
              none
          else
            none
        else if (0 : Int) ≤ 3 ∧ (3 : Int) < 5 then
          if (0 : Int) ≤ 4 ∧ (4 : Int) < 5 then
            if (((has9.set (2 : Int).toNat true).set (3 : Int).toNat true).getD (4 : Int).toNat false) = false then
              if (0 : Int) ≤ 4 ∧ (4 : Int) < 5 then
                L5 counts2 v30 v31 (IntKind.i64.wrap (v32 + 1)) p4 (((has9.set (2 : Int).toNat true).set (3 : Int).toNat true).set (4 : Int).toNat (decide ((p4.2.2.2.2.2 : Int) < a11.2.2.2.2.2.2.2.2)))
              else
                none
            else if (0 : Int) ≤ 4 ∧ (4 : Int) < 5 then
              L5 counts2 v30 v31 (IntKind.i64.wrap (v32 + 1)) p4 (((has9.set (2 : Int).toNat true).set (3 : Int).toNat true).set (4 : Int).toNat true)
            else
              none
          else
            none
        else
          none
      else
        none
    else
      none
  else
    none
def impl_refusalsOf.l10 (n : Nat) (L5 : List Int → (List (ByteArray × Int × Int × Int × Int × Int × Int × Int × Int)) → Int → Int → (Int × Int × Int × Int × List Int × Int) → List Bool → Option Int) : Nat → List Int → Bool → (List (ByteArray × Int × Int × Int × Int × Int × Int × Int × Int)) → Int → Int → List Int → Int → Int → (Int × Int × Int × Int × List Int × Int) → List Bool → (ByteArray × Int × Int × Int × Int × Int × Int × Int × Int) → Option Int
  | 0 => fun _ _ _ _ _ _ _ _ _ _ _ => none
  | k + 1 => impl_refusalsOf.g10 L5 (impl_refusalsOf.l10 n L5 k)
def impl_refusalsOf.g5 (I10 : List Int → Bool → (List (ByteArray × Int × Int × Int × Int × Int × Int × Int × Int)) → Int → Int → List Int → Int → Int → (Int × Int × Int × Int × List Int × Int) → List Bool → (ByteArray × Int × Int × Int × Int × Int × Int × Int × Int) → Option Int) (L5 : List Int → (List (ByteArray × Int × Int × Int × Int × Int × Int × Int × Int)) → Int → Int → (Int × Int × Int × Int × List Int × Int) → List Bool → Option Int) (counts2 : List Int) (v30 : List (ByteArray × Int × Int × Int × Int × Int × Int × Int × Int)) (v31 : Int) (v32 : Int) (p4 : Int × Int × Int × Int × List Int × Int) (has9 : List Bool) : Option Int :=
  if (decide ((v32 : Int) < v31)) = true then
    if (0 : Int) ≤ v32 ∧ (v32 : Int) < v30.length then
      if (0 : Int) ≤ v32 ∧ (v32 : Int) < counts2.length then
        if (((counts2.getD (v32 : Int).toNat 0) : Int) == 0) = true then
          L5 counts2 v30 v31 (IntKind.i64.wrap (v32 + 1)) p4 has9
        else
          I10 counts2 false v30 v31 v32 p4.2.2.2.2.1 (p4.2.2.2.2.1.length : Int) 0 p4 has9 (v30.getD (v32 : Int).toNat (ByteArray.empty, (0, (0, (0, (0, (0, (0, (0, 0)))))))))
      else
        none
    else
      none
  else if (0 : Int) ≤ 0 ∧ (0 : Int) < 5 then
    if (0 : Int) ≤ 1 ∧ (1 : Int) < 5 then
      if (0 : Int) ≤ 2 ∧ (2 : Int) < 5 then
        if (0 : Int) ≤ 3 ∧ (3 : Int) < 5 then
          if (0 : Int) ≤ 4 ∧ (4 : Int) < 5 then
            (impl_bit.f (has9.getD (0 : Int).toNat false) 1).bind fun r3 =>
            (impl_bit.f (has9.getD (1 : Int).toNat false) 2).bind fun r4 =>
            (impl_bit.f (has9.getD (2 : Int).toNat false) 4).bind fun r5 =>
            (impl_bit.f (has9.getD (3 : Int).toNat false) 8).bind fun r6 =>
            (impl_bit.f (has9.getD (4 : Int).toNat false) 16).bind fun r7 =>
            some (IntKind.i64.wrap ((IntKind.i64.wrap ((IntKind.i64.wrap ((IntKind.i64.wrap (r3 + r4)) + r5)) + r6)) + r7))
          else
            none
        else
          none
      else
        none
    else
      none
  else
    none
def impl_refusalsOf.l5 (n : Nat) : Nat → List Int → (List (ByteArray × Int × Int × Int × Int × Int × Int × Int × Int)) → Int → Int → (Int × Int × Int × Int × List Int × Int) → List Bool → Option Int
  | 0 => fun _ _ _ _ _ _ => none
  | k + 1 => impl_refusalsOf.g5 (impl_refusalsOf.l10 n (impl_refusalsOf.l5 n k) n) (impl_refusalsOf.l5 n k)
def impl_refusalsOf.top (I5 : List Int → (List (ByteArray × Int × Int × Int × Int × Int × Int × Int × Int)) → Int → Int → (Int × Int × Int × Int × List Int × Int) → List Bool → Option Int) (p0 : Int × Int × Int × Int × List Int × Int) (list1 : List (ByteArray × Int × Int × Int × Int × Int × Int × Int × Int)) (counts2 : List Int) (day3 : Int) : Option Int :=
  (impl_within.f day3 p0.1 p0.2.1).bind fun r1 =>
  if (0 : Int) ≤ 0 ∧ (0 : Int) < 5 then
    (impl_orderNet.f list1 counts2).bind fun r2 =>
    if (0 : Int) ≤ 1 ∧ (1 : Int) < 5 then
      I5 counts2 list1 (list1.length : Int) 0 p0 (((List.replicate 5 false).set (0 : Int).toNat (!r1)).set (1 : Int).toNat (decide ((p0.2.2.1 : Int) < r2)))
    else
      none
  else
    none
def impl_refusalsOf.fn (n : Nat) (p0 : Int × Int × Int × Int × List Int × Int) (list1 : List (ByteArray × Int × Int × Int × Int × Int × Int × Int × Int)) (counts2 : List Int) (day3 : Int) : Option Int := impl_refusalsOf.top (impl_refusalsOf.l5 n n) p0 list1 counts2 day3
def impl_refusalsOf.f (p0 : Int × Int × Int × Int × List Int × Int) (list1 : List (ByteArray × Int × Int × Int × Int × Int × Int × Int × Int)) (counts2 : List Int) (day3 : Int) : Option Int := impl_refusalsOf.fn NN p0 list1 counts2 day3
end
end Go.Pl

namespace Go.Pl
open Go.Ev
set_option linter.unusedVariables false
noncomputable section
def impl_RefusalsOf.top (p0 : Int × Int × Int × Int × List Int × Int) (list1 : List (ByteArray × Int × Int × Int × Int × Int × Int × Int × Int)) (counts2 : List Int) (day3 : Int) : Option (Int × Int) :=
  (impl_IsPermit.f p0).bind fun r1 =>
  if (!r1) = false then
    (impl_AreArticles.f list1).bind fun r2 =>
    if (!r2) = true then
      some (0, 1)
    else
      (impl_areCounts.f list1 counts2).bind fun r3 =>
      if (!r3) = false then
        (impl_isDay.f day3).bind fun r4 =>
        if (!r4) = true then
          some (0, 2)
        else
          (impl_refusalsOf.f p0 list1 counts2 day3).bind fun r5 =>
          some (r5, 0)
      else
        some (0, 2)
  else
    some (0, 1)
def impl_RefusalsOf.fn (n : Nat) (p0 : Int × Int × Int × Int × List Int × Int) (list1 : List (ByteArray × Int × Int × Int × Int × Int × Int × Int × Int)) (counts2 : List Int) (day3 : Int) : Option (Int × Int) := impl_RefusalsOf.top p0 list1 counts2 day3
def impl_RefusalsOf.f (p0 : Int × Int × Int × Int × List Int × Int) (list1 : List (ByteArray × Int × Int × Int × Int × Int × Int × Int × Int)) (counts2 : List Int) (day3 : Int) : Option (Int × Int) := impl_RefusalsOf.fn NN p0 list1 counts2 day3
end
end Go.Pl

namespace Go.Pl
open Go.Ev
set_option linter.unusedVariables false
noncomputable section
def spec_l01Has.g2 (L2 : List Int → Int → Int → Option Bool) (list0 : List Int) (x1 : Int) (i5 : Int) : Option Bool :=
  if (decide ((i5 : Int) < (list0.length : Int))) = true then
    if (0 : Int) ≤ i5 ∧ (i5 : Int) < list0.length then
      if (((list0.getD (i5 : Int).toNat 0) : Int) == x1) = true then
        some true
      else
        L2 list0 x1 (IntKind.i64.wrap (i5 + 1))
    else
      none
  else
    some false
def spec_l01Has.l2 (n : Nat) : Nat → List Int → Int → Int → Option Bool
  | 0 => fun _ _ _ => none
  | k + 1 => spec_l01Has.g2 (spec_l01Has.l2 n k)
def spec_l01Has.top (I2 : List Int → Int → Int → Option Bool) (list0 : List Int) (x1 : Int) : Option Bool :=
  I2 list0 x1 0
def spec_l01Has.fn (n : Nat) (list0 : List Int) (x1 : Int) : Option Bool := spec_l01Has.top (spec_l01Has.l2 n n) list0 x1
def spec_l01Has.f (list0 : List Int) (x1 : Int) : Option Bool := spec_l01Has.fn NN list0 x1
end
end Go.Pl

namespace Go.Pl
open Go.Ev
set_option linter.unusedVariables false
noncomputable section
def spec_l03Code.g4 (L4 : (List (ByteArray × Int × Int × Int × Int × Int × Int × Int × Int)) → List Int → Int → Option Int) (list0 : List (ByteArray × Int × Int × Int × Int × Int × Int × Int × Int)) (counts1 : List Int) (i5 : Int) : Option Int :=
  if (decide ((i5 : Int) < (counts1.length : Int))) = true then
    if (0 : Int) ≤ i5 ∧ (i5 : Int) < counts1.length then
      (spec_l01In.f (counts1.getD (i5 : Int).toNat 0) 0 1000).bind fun r2 =>
      if (!r2) = true then
        some 2
      else
        L4 list0 counts1 (IntKind.i64.wrap (i5 + 1))
    else
      none
  else if (((counts1.length : Int) : Int) != (list0.length : Int)) = true then
    some 2
  else
    some 0
def spec_l03Code.l4 (n : Nat) : Nat → (List (ByteArray × Int × Int × Int × Int × Int × Int × Int × Int)) → List Int → Int → Option Int
  | 0 => fun _ _ _ => none
  | k + 1 => spec_l03Code.g4 (spec_l03Code.l4 n k)
def spec_l03Code.top (I4 : (List (ByteArray × Int × Int × Int × Int × Int × Int × Int × Int)) → List Int → Int → Option Int) (list0 : List (ByteArray × Int × Int × Int × Int × Int × Int × Int × Int)) (counts1 : List Int) : Option Int :=
  (spec_AreArticles.f list0).bind fun r1 =>
  if (!r1) = true then
    some 1
  else
    I4 list0 counts1 0
def spec_l03Code.fn (n : Nat) (list0 : List (ByteArray × Int × Int × Int × Int × Int × Int × Int × Int)) (counts1 : List Int) : Option Int := spec_l03Code.top (spec_l03Code.l4 n n) list0 counts1
def spec_l03Code.f (list0 : List (ByteArray × Int × Int × Int × Int × Int × Int × Int × Int)) (counts1 : List Int) : Option Int := spec_l03Code.fn NN list0 counts1
end
end Go.Pl

namespace Go.Pl
open Go.Ev
set_option linter.unusedVariables false
noncomputable section
def spec_l30Code.top (permits0 : List (Int × Int × Int × Int × List Int × Int)) (list1 : List (ByteArray × Int × Int × Int × Int × Int × Int × Int × Int)) (counts2 : List Int) (day3 : Int) : Option Int :=
  (spec_l30All.f permits0).bind fun r1 =>
  if (!r1) = true then
    some 1
  else
    (spec_l03Code.f list1 counts2).bind fun r2 =>
    if ((r2 : Int) == 0) = true then
      (spec_l01In.f day3 0 100000).bind fun r3 =>
      if (!r3) = true then
        some 2
      else
        some r2
    else
      some r2
def spec_l30Code.fn (n : Nat) (permits0 : List (Int × Int × Int × Int × List Int × Int)) (list1 : List (ByteArray × Int × Int × Int × Int × Int × Int × Int × Int)) (counts2 : List Int) (day3 : Int) : Option Int := spec_l30Code.top permits0 list1 counts2 day3
def spec_l30Code.f (permits0 : List (Int × Int × Int × Int × List Int × Int)) (list1 : List (ByteArray × Int × Int × Int × Int × Int × Int × Int × Int)) (counts2 : List Int) (day3 : Int) : Option Int := spec_l30Code.fn NN permits0 list1 counts2 day3
end
end Go.Pl

namespace Go.Pl
open Go.Ev
set_option linter.unusedVariables false
noncomputable section
def spec_l30Refusals.g14 (L14 : Int → Int → Int → List Bool → Option Int) (n15 : Int) (weight16 : Int) (i17 : Int) (truths14 : List Bool) : Option Int :=
  if (decide ((i17 : Int) < (truths14.length : Int))) = true then
    if (0 : Int) ≤ i17 ∧ (i17 : Int) < truths14.length then
      if (truths14.getD (i17 : Int).toNat false) = true then
        L14 (IntKind.i64.wrap (n15 + weight16)) (IntKind.i64.wrap (2 * weight16)) (IntKind.i64.wrap (i17 + 1)) truths14
      else
        L14 n15 (IntKind.i64.wrap (2 * weight16)) (IntKind.i64.wrap (i17 + 1)) truths14
    else
      none
  else
    some n15
def spec_l30Refusals.l14 (n : Nat) : Nat → Int → Int → Int → List Bool → Option Int
  | 0 => fun _ _ _ _ => none
  | k + 1 => spec_l30Refusals.g14 (spec_l30Refusals.l14 n k)
def spec_l30Refusals.g4 (I14 : Int → Int → Int → List Bool → Option Int) (L4 : (List (ByteArray × Int × Int × Int × Int × Int × Int × Int × Int)) → List Int → Int → Int → Bool → Bool → Bool → Int → (Int × Int × Int × Int × List Int × Int) → Option Int) (list1 : List (ByteArray × Int × Int × Int × Int × Int × Int × Int × Int)) (counts2 : List Int) (day3 : Int) (net9 : Int) (calibre10 : Bool) (kind11 : Bool) (group12 : Bool) (i13 : Int) (p4 : Int × Int × Int × Int × List Int × Int) : Option Int :=
  if (decide ((i13 : Int) < (list1.length : Int))) = true then
    if (0 : Int) ≤ i13 ∧ (i13 : Int) < counts2.length then
      if (((counts2.getD (i13 : Int).toNat 0) : Int) == 0) = true then
        L4 list1 counts2 day3 net9 calibre10 kind11 group12 (IntKind.i64.wrap (i13 + 1)) p4
      else if (0 : Int) ≤ i13 ∧ (i13 : Int) < list1.length then
        if (0 : Int) ≤ i13 ∧ (i13 : Int) < counts2.length then
          if calibre10 = false then
            if (0 : Int) ≤ i13 ∧ (i13 : Int) < list1.length then
              if kind11 = false then
                if (0 : Int) ≤ i13 ∧ (i13 : Int) < list1.length then
                  (spec_l01Has.f p4.2.2.2.2.1 (((list1.getD (i13 : Int).toNat (ByteArray.empty, (0, (0, (0, (0, (0, (0, (0, 0))))))))).2).1)).bind fun r1 =>
                  if group12 = false then
                    if (0 : Int) ≤ i13 ∧ (i13 : Int) < list1.length then
                      L4 list1 counts2 day3 (IntKind.i64.wrap (net9 + (IntKind.i64.wrap ((((((((((list1.getD (i13 : Int).toNat (ByteArray.empty, (0, (0, (0, (0, (0, (0, (0, 0))))))))).2).2).2).2).2).2).2).1) * (counts2.getD (i13 : Int).toNat 0))))) (decide ((p4.2.2.2.1 : Int) < ((((list1.getD (i13 : Int).toNat (ByteArray.empty, (0, (0, (0, (0, (0, (0, (0, 0))))))))).2).2).1))) (!r1) (decide ((p4.2.2.2.2.2 : Int) < (((((((((list1.getD (i13 : Int).toNat (ByteArray.empty, (0, (0, (0, (0, (0, (0, (0, 0))))))))).2).2).2).2).2).2).2).2))) (IntKind.i64.wrap (i13 + 1)) p4
                    else
                      none
                  else
                    L4 list1 counts2 day3 (IntKind.i64.wrap (net9 + (IntKind.i64.wrap ((((((((((list1.getD (i13 : Int).toNat (ByteArray.empty, (0, (0, (0, (0, (0, (0, (0, 0))))))))).2).2).2).2).2).2).2).1) * (counts2.getD (i13 : Int).toNat 0))))) (decide ((p4.2.2.2.1 : Int) < ((((list1.getD (i13 : Int).toNat (ByteArray.empty, (0, (0, (0, (0, (0, (0, (0, 0))))))))).2).2).1))) (!r1) true (IntKind.i64.wrap (i13 + 1)) p4
                else
                  none
              else if group12 = false then
                if (0 : Int) ≤ i13 ∧ (i13 : Int) < list1.length then
                  L4 list1 counts2 day3 (IntKind.i64.wrap (net9 + (IntKind.i64.wrap ((((((((((list1.getD (i13 : Int).toNat (ByteArray.empty, (0, (0, (0, (0, (0, (0, (0, 0))))))))).2).2).2).2).2).2).2).1) * (counts2.getD (i13 : Int).toNat 0))))) (decide ((p4.2.2.2.1 : Int) < ((((list1.getD (i13 : Int).toNat (ByteArray.empty, (0, (0, (0, (0, (0, (0, (0, 0))))))))).2).2).1))) true (decide ((p4.2.2.2.2.2 : Int) < (((((((((list1.getD (i13 : Int).toNat (ByteArray.empty, (0, (0, (0, (0, (0, (0, (0, 0))))))))).2).2).2).2).2).2).2).2))) (IntKind.i64.wrap (i13 + 1)) p4
                else
                  none
              else
                L4 list1 counts2 day3 (IntKind.i64.wrap (net9 + (IntKind.i64.wrap ((((((((((list1.getD (i13 : Int).toNat (ByteArray.empty, (0, (0, (0, (0, (0, (0, (0, 0))))))))).2).2).2).2).2).2).2).1) * (counts2.getD (i13 : Int).toNat 0))))) (decide ((p4.2.2.2.1 : Int) < ((((list1.getD (i13 : Int).toNat (ByteArray.empty, (0, (0, (0, (0, (0, (0, (0, 0))))))))).2).2).1))) true true (IntKind.i64.wrap (i13 + 1)) p4
            else
              none
          else if kind11 = false then
            if (0 : Int) ≤ i13 ∧ (i13 : Int) < list1.length then
              (spec_l01Has.f p4.2.2.2.2.1 (((list1.getD (i13 : Int).toNat (ByteArray.empty, (0, (0, (0, (0, (0, (0, (0, 0))))))))).2).1)).bind fun r2 =>
              if group12 = false then
                if (0 : Int) ≤ i13 ∧ (i13 : Int) < list1.length then
                  L4 list1 counts2 day3 (IntKind.i64.wrap (net9 + (IntKind.i64.wrap ((((((((((list1.getD (i13 : Int).toNat (ByteArray.empty, (0, (0, (0, (0, (0, (0, (0, 0))))))))).2).2).2).2).2).2).2).1) * (counts2.getD (i13 : Int).toNat 0))))) true (!r2) (decide ((p4.2.2.2.2.2 : Int) < (((((((((list1.getD (i13 : Int).toNat (ByteArray.empty, (0, (0, (0, (0, (0, (0, (0, 0))))))))).2).2).2).2).2).2).2).2))) (IntKind.i64.wrap (i13 + 1)) p4
                else
                  none
              else
                L4 list1 counts2 day3 (IntKind.i64.wrap (net9 + (IntKind.i64.wrap ((((((((((list1.getD (i13 : Int).toNat (ByteArray.empty, (0, (0, (0, (0, (0, (0, (0, 0))))))))).2).2).2).2).2).2).2).1) * (counts2.getD (i13 : Int).toNat 0))))) true (!r2) true (IntKind.i64.wrap (i13 + 1)) p4
            else
              none
          else if group12 = false then
            if (0 : Int) ≤ i13 ∧ (i13 : Int) < list1.length then
              L4 list1 counts2 day3 (IntKind.i64.wrap (net9 + (IntKind.i64.wrap ((((((((((list1.getD (i13 : Int).toNat (ByteArray.empty, (0, (0, (0, (0, (0, (0, (0, 0))))))))).2).2).2).2).2).2).2).1) * (counts2.getD (i13 : Int).toNat 0))))) true true (decide ((p4.2.2.2.2.2 : Int) < (((((((((list1.getD (i13 : Int).toNat (ByteArray.empty, (0, (0, (0, (0, (0, (0, (0, 0))))))))).2).2).2).2).2).2).2).2))) (IntKind.i64.wrap (i13 + 1)) p4
            else
              none
          else
            L4 list1 counts2 day3 (IntKind.i64.wrap (net9 + (IntKind.i64.wrap ((((((((((list1.getD (i13 : Int).toNat (ByteArray.empty, (0, (0, (0, (0, (0, (0, (0, 0))))))))).2).2).2).2).2).2).2).1) * (counts2.getD (i13 : Int).toNat 0))))) true true true (IntKind.i64.wrap (i13 + 1)) p4
        else
          none
      else
        none
    else
      none
  else
    (spec_l01In.f day3 p4.1 p4.2.1).bind fun r3 =>
    I14 0 1 0 ([!r3, decide ((p4.2.2.1 : Int) < net9), calibre10, kind11, group12])
def spec_l30Refusals.l4 (n : Nat) : Nat → (List (ByteArray × Int × Int × Int × Int × Int × Int × Int × Int)) → List Int → Int → Int → Bool → Bool → Bool → Int → (Int × Int × Int × Int × List Int × Int) → Option Int
  | 0 => fun _ _ _ _ _ _ _ _ _ => none
  | k + 1 => spec_l30Refusals.g4 (spec_l30Refusals.l14 n n) (spec_l30Refusals.l4 n k)
def spec_l30Refusals.top (I4 : (List (ByteArray × Int × Int × Int × Int × Int × Int × Int × Int)) → List Int → Int → Int → Bool → Bool → Bool → Int → (Int × Int × Int × Int × List Int × Int) → Option Int) (p0 : Int × Int × Int × Int × List Int × Int) (list1 : List (ByteArray × Int × Int × Int × Int × Int × Int × Int × Int)) (counts2 : List Int) (day3 : Int) : Option Int :=
  I4 list1 counts2 day3 0 false false false 0 p0
def spec_l30Refusals.fn (n : Nat) (p0 : Int × Int × Int × Int × List Int × Int) (list1 : List (ByteArray × Int × Int × Int × Int × Int × Int × Int × Int)) (counts2 : List Int) (day3 : Int) : Option Int := spec_l30Refusals.top (spec_l30Refusals.l4 n n) p0 list1 counts2 day3
def spec_l30Refusals.f (p0 : Int × Int × Int × Int × List Int × Int) (list1 : List (ByteArray × Int × Int × Int × Int × Int × Int × Int × Int)) (counts2 : List Int) (day3 : Int) : Option Int := spec_l30Refusals.fn NN p0 list1 counts2 day3
end
end Go.Pl

namespace Go.Pl
open Go.Ev
set_option linter.unusedVariables false
noncomputable section
def spec_RefusalsOf.top (p0 : Int × Int × Int × Int × List Int × Int) (list1 : List (ByteArray × Int × Int × Int × Int × Int × Int × Int × Int)) (counts2 : List Int) (day3 : Int) : Option (Int × Int) :=
  (spec_l30Code.f ([p0]) list1 counts2 day3).bind fun r1 =>
  if ((r1 : Int) != 0) = true then
    some (0, r1)
  else
    (spec_l30Refusals.f p0 list1 counts2 day3).bind fun r2 =>
    some (r2, 0)
def spec_RefusalsOf.fn (n : Nat) (p0 : Int × Int × Int × Int × List Int × Int) (list1 : List (ByteArray × Int × Int × Int × Int × Int × Int × Int × Int)) (counts2 : List Int) (day3 : Int) : Option (Int × Int) := spec_RefusalsOf.top p0 list1 counts2 day3
def spec_RefusalsOf.f (p0 : Int × Int × Int × Int × List Int × Int) (list1 : List (ByteArray × Int × Int × Int × Int × Int × Int × Int × Int)) (counts2 : List Int) (day3 : Int) : Option (Int × Int) := spec_RefusalsOf.fn NN p0 list1 counts2 day3
end
end Go.Pl

namespace Go.Pl
open Go.Ev
set_option linter.unusedVariables false
set_option linter.unusedSimpArgs false
abbrev Prm := Int × Int × Int × Int × List Int × Int
def hasK (ks : List Int) (k : Int) : Bool := ks.any fun x => decide (x = k)
theorem any_foldl (k : Int) : ∀ (ks : List Int) (b : Bool), ks.foldl (fun st x => st || decide (x = k)) b = (b || hasK ks k) := by
  intro ks
  induction ks with
  | nil => intro b; simp [hasK]
  | cons x r ih => intro b; rw [List.foldl_cons, ih]; simp [hasK, Bool.or_assoc]
theorem first_any {α : Type} (P : α → Bool) : ∀ (xs : List α) (i : Nat), (firstOf P i xs).elim (some false) (fun _ => some true) = some (xs.any P) := by
  intro xs
  induction xs with
  | nil => intro i; rfl
  | cons x r ih =>
    intro i
    simp only [firstOf, List.any_cons]
    cases P x
    · simp only [Bool.false_eq_true, if_false, Bool.false_or]; exact ih _
    · rfl
theorem spec_l01Has_f (ks : List Int) (k : Int) (h : ks.length ≤ 140737488355328) : spec_l01Has.f ks k = some (hasK ks k) := by
  have := find_loop (E := fun _ => True) (fun x : Int => decide (x = k)) (fun _ _ => some true) (fun _ => some false) (fun j xs i => spec_l01Has.l2 NN j xs k i) ?_ ?_ ks (fun _ _ => trivial) (by omega) NN (NN_lt (by omega))
  · refine this.trans ?_
    exact first_any _ _ _
  · intro j p
    simp [spec_l01Has.l2, spec_l01Has.g2]
  · intro j p x r _ c0 c1 c2 cw
    simp only [spec_l01Has.l2, spec_l01Has.g2, c0, c1, cw, and_self, and_true, true_and, decide_true, decide_false, if_true, if_false, mid_get, mid_set, mid_getn, mid_setn, bt_mid, Option.bind_some, Bool.not_true, Bool.not_false, Bool.false_eq_true, Bool.true_eq_false, beq_self_eq_true, bne_self_eq_false, Int.toNat_natCast]
    by_cases hx : x = k <;> simp [hx]
/-- counts that go with articles -/
def cntsB (xs : List Art) (cs : List Int) : Bool := decide (cs.length = xs.length) && cs.all (inB · 0 1000)
theorem cntsB_iff {xs : List Art} {cs : List Int} (h : cntsB xs cs = true) : cs.length = xs.length ∧ ∀ i : Nat, 0 ≤ cs.getD i 0 ∧ cs.getD i 0 ≤ 1000 := by
  unfold cntsB at h
  simp only [Bool.and_eq_true, decide_eq_true_eq, List.all_eq_true, inB_iff] at h
  refine ⟨h.1, fun i => ?_⟩
  rw [List.getD_eq_getElem?_getD]
  cases e : cs[i]? with
  | none => simp
  | some c => exact h.2 c (List.mem_of_getElem? e)
theorem impl_areCounts_f (xs : List Art) (cs : List Int) (h : cs.length ≤ 1000000) : impl_areCounts.f xs cs = some (cntsB xs cs) := by
  unfold impl_areCounts.f impl_areCounts.fn impl_areCounts.top cntsB
  rw [impl_allWithin_f cs 0 1000 (by omega)]
  by_cases e : cs.length = xs.length
  · simp [e]
  · have e' : ¬ ((cs.length : Int) = (xs.length : Int)) := by omega
    simp [e, e']
theorem spec_l03Code_f (xs : List Art) (cs : List Int) (hb : xs.length ≤ 140737488355328) (hz : ∀ a ∈ xs, Sz a.1) (h : cs.length ≤ 1000000) : spec_l03Code.f xs cs = some (if artsB xs = true then (if cntsB xs cs = true then 0 else 2) else 1) := by
  unfold spec_l03Code.f spec_l03Code.fn spec_l03Code.top
  rw [spec_AreArticles_f xs hb hz]
  cases hx : artsB xs
  · rfl
  have := find_loop (E := fun _ => True) (fun x : Int => !inB x 0 1000) (fun _ _ => some (2 : Int)) (fun p => if (((p.length : Int) : Int) != (xs.length : Int)) = true then some 2 else some 0) (fun j ys i => spec_l03Code.l4 NN j xs ys i) ?_ ?_ cs (fun _ _ => trivial) (by omega) NN (NN_lt (by omega))
  · simp only [Option.bind_some, Bool.not_true, Bool.false_eq_true, if_false, if_true]
    rw [this]
    unfold cntsB
    have ha : ∀ (ys : List Int) (i : Nat), (firstOf (fun x : Int => !inB x 0 1000) i ys).isSome = !(ys.all (inB · 0 1000)) := by
      intro ys
      induction ys with
      | nil => intro i; rfl
      | cons y r ih => intro i; rcases Bool.eq_false_or_eq_true (inB y 0 1000) with q | q <;> simp [firstOf, q, ih]
    have ha := ha cs 0
    cases hf : firstOf (fun x : Int => !inB x 0 1000) 0 cs with
    | none =>
      rw [hf] at ha
      simp only [Option.isSome_none] at ha
      have ha2 : cs.all (inB · 0 1000) = true := by rw [← Bool.not_eq_false']; exact ha.symm
      simp only [Option.elim_none, ha2, Bool.and_true, decide_eq_true_eq]
      by_cases e : cs.length = xs.length
      · simp [e]
      · have e' : ¬ ((cs.length : Int) = (xs.length : Int)) := by omega
        simp [e, e']
    | some y =>
      rw [hf] at ha
      simp only [Option.isSome_some] at ha
      have ha2 : cs.all (inB · 0 1000) = false := by rw [← Bool.not_eq_true']; exact ha.symm
      simp only [Option.elim_some, ha2, Bool.and_false, Bool.false_eq_true, if_false]
  · intro j p
    simp [spec_l03Code.l4, spec_l03Code.g4]
  · intro j p x r _ c0 c1 c2 cw
    simp only [spec_l03Code.l4, spec_l03Code.g4, c0, c1, cw, and_self, and_true, true_and, decide_true, decide_false, if_true, if_false, mid_get, mid_set, mid_getn, mid_setn, bt_mid, Option.bind_some, Bool.not_true, Bool.not_false, Bool.false_eq_true, Bool.true_eq_false, beq_self_eq_true, bne_self_eq_false, Int.toNat_natCast, spec_l01In_f]
/-- the net mass of an order -/
def netS (cs : List Int) (i : Nat) (st : Int) (a : Art) : Int := st + a.2.2.2.2.2.2.2.1 * cs.getD i 0
def netO (xs : List Art) (cs : List Int) : Int := foldi (netS cs) 0 0 xs
theorem mul_bd {a c : Int} (h1 : 1 ≤ a ∧ a ≤ 100000) (h2 : 0 ≤ c ∧ c ≤ 1000) : 0 ≤ a * c ∧ a * c ≤ 100000000 := by
  refine ⟨Int.mul_nonneg (by omega) h2.1, ?_⟩
  have := Int.mul_le_mul h1.2 h2.2 h2.1 (show (0 : Int) ≤ 100000 by omega)
  omega
theorem impl_orderNet_f (xs : List Art) (cs : List Int) (hx : artsB xs = true) (hc : cntsB xs cs = true) : (0 ≤ netO xs cs ∧ netO xs cs ≤ 1200000000) ∧ impl_orderNet.f xs cs = some (netO xs cs) := by
  obtain ⟨h1, h2⟩ := artsB_ok hx
  obtain ⟨h3, h4⟩ := cntsB_iff hc
  have := fold_fix (E := fun a : Art => artB a = true) (fun p (st : Int) => 0 ≤ st ∧ st ≤ 100000000 * p.length) (netS cs) (fun st => some st) (fun k i st => impl_orderNet.l3 NN k cs st xs xs.length i) xs ?_ ?_ 0 h2 (by simp) (by omega) NN (NN_lt (by omega))
  · exact ⟨⟨this.1.1, by have := this.1.2; unfold netO; omega⟩, this.2⟩
  · intro k st _
    simp [impl_orderNet.l3, impl_orderNet.g3]
  · intro k p a r st hxx ha hI c0 c1 c2 cw g
    have hpl : p.length ≤ 12 := by rw [hxx] at h1; simp at h1; omega
    have hb := mul_bd (artB_iff ha).2.2.2.1 (h4 p.length)
    have w1 := w64 (n := a.2.2.2.2.2.2.2.1 * cs.getD p.length 0) (by omega) (by omega)
    have w2 := w64 (n := st + a.2.2.2.2.2.2.2.1 * cs.getD p.length 0) (by omega) (by omega)
    have c3 : (p.length : Int) < (cs.length : Int) := by omega
    refine ⟨by unfold netS; rw [List.length_append, List.length_singleton]; omega, ?_⟩
    simp only [impl_orderNet.l3, impl_orderNet.g3, c0, c1, c3, cw, and_self, and_true, true_and, decide_true, decide_false, if_true, if_false, mid_get, mid_set, mid_getn, mid_setn, bt_mid, Option.bind_some, Bool.not_true, Bool.not_false, Bool.false_eq_true, Bool.true_eq_false, beq_self_eq_true, bne_self_eq_false, Int.toNat_natCast, g, w1, w2]
    rfl
def refF (p : Prm) (cs : List Int) (i : Nat) (st : Bool × Bool × Bool) (a : Art) : Bool × Bool × Bool :=
  if cs.getD i 0 = 0 then st else (st.1 || decide (p.2.2.2.1 < a.2.2.1), st.2.1 || !hasK p.2.2.2.2.1 a.2.1, st.2.2 || decide (p.2.2.2.2.2 < a.2.2.2.2.2.2.2.2))
def bitsV (l : List Bool) : Int := (l.foldl (fun (st : Int × Int) t => (if t = true then st.1 + st.2 else st.1, 2 * st.2)) (0, 1)).1
/-- the refusals of an order -/
def refV (p : Prm) (xs : List Art) (cs : List Int) (day : Int) : Int :=
  bitsV [!inB day p.1 p.2.1, decide (p.2.2.1 < netO xs cs), (foldi (refF p cs) 0 (false, false, false) xs).1, (foldi (refF p cs) 0 (false, false, false) xs).2.1, (foldi (refF p cs) 0 (false, false, false) xs).2.2]
theorem bits_impl (a b c d e : Bool) : IntKind.i64.wrap ((IntKind.i64.wrap ((IntKind.i64.wrap ((IntKind.i64.wrap ((if a = true then 1 else 0) + (if b = true then 2 else 0))) + (if c = true then 4 else 0))) + (if d = true then 8 else 0))) + (if e = true then 16 else 0)) = bitsV [a, b, c, d, e] := by
  cases a <;> cases b <;> cases c <;> cases d <;> cases e <;> rfl
theorem impl_bit_f (b : Bool) (n : Int) : impl_bit.f b n = some (if b = true then n else 0) := by
  unfold impl_bit.f impl_bit.fn impl_bit.top
  cases b <;> rfl
theorem impl_ref_in (p : Prm) (cs : List Int) (xs : List Art) (v i : Int) (L : List Int → List Art → Int → Int → Prm → List Bool → Option Int) (a : Art) (b0 b1 c k g : Bool) (h : p.2.2.2.2.1.length ≤ 140737488355328) :
    impl_refusalsOf.l10 NN L NN cs false xs v i p.2.2.2.2.1 p.2.2.2.2.1.length 0 p [b0, b1, c, k, g] a = L cs xs v (IntKind.i64.wrap (i + 1)) p [b0, b1, c || decide (p.2.2.2.1 < a.2.2.1), k || !hasK p.2.2.2.2.1 a.2.1, g || decide (p.2.2.2.2.2 < a.2.2.2.2.2.2.2.2)] := by
  have := (fold_fix (E := fun _ => True) (fun _ _ => True) (fun _ st x => st || decide (x = a.2.1)) (fun kd => L cs xs v (IntKind.i64.wrap (i + 1)) p [b0, b1, c || decide (p.2.2.2.1 < a.2.2.1), k || !kd, g || decide (p.2.2.2.2.2 < a.2.2.2.2.2.2.2.2)]) (fun j m kd => impl_refusalsOf.l10 NN L j cs kd xs v i p.2.2.2.2.1 p.2.2.2.2.1.length m p [b0, b1, c, k, g] a) p.2.2.2.2.1 ?_ ?_ false (fun _ _ => trivial) trivial h NN (NN_lt (by omega))).2
  · rw [foldi_foldl, any_foldl, Bool.false_or] at this
    exact this
  · intro j kd _
    cases c <;> cases k <;> cases g <;> simp [impl_refusalsOf.l10, impl_refusalsOf.g10]
  · intro j q x r kd hx _ _ c0 c1 c2 cw gg
    refine ⟨trivial, ?_⟩
    simp only [impl_refusalsOf.l10, impl_refusalsOf.g10, c0, c1, cw, and_self, and_true, true_and, decide_true, decide_false, if_true, if_false, mid_get, mid_set, mid_getn, mid_setn, bt_mid, Option.bind_some, Bool.not_true, Bool.not_false, Bool.false_eq_true, Bool.true_eq_false, beq_self_eq_true, bne_self_eq_false, Int.toNat_natCast, gg]
    cases kd
    · simp only [if_true, Bool.false_or]; rfl
    · simp
theorem impl_refusalsOf_f (p : Prm) (xs : List Art) (cs : List Int) (day : Int) (hx : artsB xs = true) (hc : cntsB xs cs = true) (h : p.2.2.2.2.1.length ≤ 140737488355328) : impl_refusalsOf.f p xs cs day = some (refV p xs cs day) := by
  obtain ⟨h1, h2⟩ := artsB_ok hx
  obtain ⟨h3, h4⟩ := cntsB_iff hc
  unfold impl_refusalsOf.f impl_refusalsOf.fn impl_refusalsOf.top
  rw [impl_within_f, (impl_orderNet_f xs cs hx hc).2]
  have := (fold_fix (E := fun a : Art => artB a = true) (fun _ _ => True) (refF p cs) (fun st => some (bitsV [!inB day p.1 p.2.1, decide (p.2.2.1 < netO xs cs), st.1, st.2.1, st.2.2])) (fun k i st => impl_refusalsOf.l5 NN k cs xs xs.length i p [!inB day p.1 p.2.1, decide (p.2.2.1 < netO xs cs), st.1, st.2.1, st.2.2]) xs ?_ ?_ (false, false, false) h2 trivial (by omega) NN (NN_lt (by omega))).2
  · simp only [Option.bind_some]
    rw [if_pos (by omega), if_pos (by omega)]
    exact this
  · intro k st _
    simp only [impl_refusalsOf.l5, impl_refusalsOf.g5, Int.lt_irrefl, and_self, and_true, true_and, decide_true, decide_false, if_true, if_false, mid_get, mid_set, mid_getn, mid_setn, bt_mid, Option.bind_some, Bool.not_true, Bool.not_false, Bool.false_eq_true, Bool.true_eq_false, beq_self_eq_true, bne_self_eq_false, Int.toNat_natCast, impl_bit_f]
    rw [if_pos (by omega), if_pos (by omega), if_pos (by omega), if_pos (by omega), if_pos (by omega)]
    exact congrArg some (bits_impl (!inB day p.1 p.2.1) (decide (p.2.2.1 < netO xs cs)) st.1 st.2.1 st.2.2)
  · intro k q a r st hxx ha _ c0 c1 c2 cw g
    refine ⟨trivial, ?_⟩
    have c3 : (q.length : Int) < (cs.length : Int) := by omega
    simp only [impl_refusalsOf.l5, impl_refusalsOf.g5, c0, c1, c3, cw, and_self, and_true, true_and, decide_true, decide_false, if_true, if_false, mid_get, mid_set, mid_getn, mid_setn, bt_mid, Option.bind_some, Bool.not_true, Bool.not_false, Bool.false_eq_true, Bool.true_eq_false, beq_self_eq_true, bne_self_eq_false, Int.toNat_natCast, g]
    unfold refF
    by_cases e : cs.getD q.length 0 = 0
    · simp only [e, and_self, and_true, true_and, decide_true, decide_false, if_true, if_false, mid_get, mid_set, mid_getn, mid_setn, bt_mid, Option.bind_some, Bool.not_true, Bool.not_false, Bool.false_eq_true, Bool.true_eq_false, beq_self_eq_true, bne_self_eq_false, Int.toNat_natCast, if_true]
    · have e' : (cs.getD q.length 0 == 0) = false := by simpa using e
      simp only [e, e', and_self, and_true, true_and, decide_true, decide_false, if_true, if_false, mid_get, mid_set, mid_getn, mid_setn, bt_mid, Option.bind_some, Bool.not_true, Bool.not_false, Bool.false_eq_true, Bool.true_eq_false, beq_self_eq_true, bne_self_eq_false, Int.toNat_natCast, if_false]
      rw [impl_ref_in p cs xs xs.length q.length _ a _ _ _ _ _ h, cw]
def refG (p : Prm) (cs : List Int) (i : Nat) (st : Int × Bool × Bool × Bool) (a : Art) : Int × Bool × Bool × Bool := (netS cs i st.1 a, refF p cs i st.2 a)
theorem refG_fold (p : Prm) (cs : List Int) : ∀ (xs : List Art) (i : Nat) (st : Int × Bool × Bool × Bool), foldi (refG p cs) i st xs = (foldi (netS cs) i st.1 xs, foldi (refF p cs) i st.2 xs) := by
  intro xs
  induction xs with
  | nil => intro i st; rfl
  | cons a r ih => intro i st; simp only [foldi, ih, refG]
theorem spec_bits (l : List Bool) (h : l.length ≤ 5) : spec_l30Refusals.l14 NN NN 0 1 0 l = some (bitsV l) := by
  have := (fold_fix (E := fun _ => True) (fun (p : List Bool) (st : Int × Int) => st.2 = 2 ^ p.length ∧ 0 ≤ st.1 ∧ st.1 ≤ 2 ^ p.length) (fun _ (st : Int × Int) t => (if t = true then st.1 + st.2 else st.1, 2 * st.2)) (fun st => some st.1) (fun k i st => spec_l30Refusals.l14 NN k st.1 st.2 i l) l ?_ ?_ (0, 1) (fun _ _ => trivial) (by simp) (by omega) NN (NN_lt (by omega))).2
  · rw [foldi_foldl] at this
    exact this
  · intro k st _
    simp [spec_l30Refusals.l14, spec_l30Refusals.g14]
  · intro k q t r st hx _ hI c0 c1 c2 cw g
    have hq : q.length ≤ 4 := by rw [hx] at h; simp at h; omega
    have hp : (2 : Int) ^ q.length ≤ 16 := by
      rcases Nat.lt_or_ge q.length 1 with h | h
      · rw [show q.length = 0 by omega]; decide
      rcases Nat.lt_or_ge q.length 2 with h | h
      · rw [show q.length = 1 by omega]; decide
      rcases Nat.lt_or_ge q.length 3 with h | h
      · rw [show q.length = 2 by omega]; decide
      rcases Nat.lt_or_ge q.length 4 with h | h
      · rw [show q.length = 3 by omega]; decide
      · rw [show q.length = 4 by omega]; decide
    obtain ⟨i1, i2, i3⟩ := hI
    have w1 := w64 (n := st.1 + st.2) (by omega) (by omega)
    have w2 := w64 (n := 2 * st.2) (by omega) (by omega)
    refine ⟨?_, ?_⟩
    · rw [List.length_append, List.length_singleton, Int.pow_succ]
      refine ⟨by simp only; omega, ?_⟩
      cases t <;> simp only [if_true, Bool.false_eq_true, if_false] <;> omega
    · simp only [spec_l30Refusals.l14, spec_l30Refusals.g14, c0, c1, cw, and_self, and_true, true_and, decide_true, decide_false, if_true, if_false, mid_get, mid_set, mid_getn, mid_setn, bt_mid, Option.bind_some, Bool.not_true, Bool.not_false, Bool.false_eq_true, Bool.true_eq_false, beq_self_eq_true, bne_self_eq_false, Int.toNat_natCast, g, w1, w2]
      cases t <;> rfl
theorem spec_l30Refusals_f (p : Prm) (xs : List Art) (cs : List Int) (day : Int) (hx : artsB xs = true) (hc : cntsB xs cs = true) (h : p.2.2.2.2.1.length ≤ 140737488355328) : spec_l30Refusals.f p xs cs day = some (refV p xs cs day) := by
  obtain ⟨h1, h2⟩ := artsB_ok hx
  obtain ⟨h3, h4⟩ := cntsB_iff hc
  unfold spec_l30Refusals.f spec_l30Refusals.fn spec_l30Refusals.top
  have := (fold_fix (E := fun a : Art => artB a = true) (fun q (st : Int × Bool × Bool × Bool) => 0 ≤ st.1 ∧ st.1 ≤ 100000000 * q.length) (refG p cs) (fun st => some (bitsV [!inB day p.1 p.2.1, decide (p.2.2.1 < st.1), st.2.1, st.2.2.1, st.2.2.2])) (fun k i st => spec_l30Refusals.l4 NN k xs cs day st.1 st.2.1 st.2.2.1 st.2.2.2 i p) xs ?_ ?_ (0, false, false, false) h2 (by simp) (by omega) NN (NN_lt (by omega))).2
  · rw [refG_fold] at this
    exact this
  · intro k st _
    simp only [spec_l30Refusals.l4, spec_l30Refusals.g4, Int.lt_irrefl, and_self, and_true, true_and, decide_true, decide_false, if_true, if_false, mid_get, mid_set, mid_getn, mid_setn, bt_mid, Option.bind_some, Bool.not_true, Bool.not_false, Bool.false_eq_true, Bool.true_eq_false, beq_self_eq_true, bne_self_eq_false, Int.toNat_natCast, spec_l01In_f]
    exact spec_bits _ (by simp)
  · intro k q a r st hxx ha hI c0 c1 c2 cw g
    have hpl : q.length ≤ 12 := by rw [hxx] at h1; simp at h1; omega
    have c3 : (q.length : Int) < (cs.length : Int) := by omega
    have hb := mul_bd (artB_iff ha).2.2.2.1 (h4 q.length)
    have w1 := w64 (n := a.2.2.2.2.2.2.2.1 * cs.getD q.length 0) (by omega) (by omega)
    have w2 := w64 (n := st.1 + a.2.2.2.2.2.2.2.1 * cs.getD q.length 0) (by omega) (by omega)
    refine ⟨by unfold refG netS; rw [List.length_append, List.length_singleton]; simp only; omega, ?_⟩
    simp only [spec_l30Refusals.l4, spec_l30Refusals.g4, c0, c1, c3, cw, and_self, and_true, true_and, decide_true, decide_false, if_true, if_false, mid_get, mid_set, mid_getn, mid_setn, bt_mid, Option.bind_some, Bool.not_true, Bool.not_false, Bool.false_eq_true, Bool.true_eq_false, beq_self_eq_true, bne_self_eq_false, Int.toNat_natCast, g, w1, w2, spec_l01Has_f _ _ h]
    unfold refG refF netS
    obtain ⟨n, c, kd, gr⟩ := st
    by_cases e : cs.getD q.length 0 = 0
    · simp only [e, and_self, and_true, true_and, decide_true, decide_false, if_true, if_false, mid_get, mid_set, mid_getn, mid_setn, bt_mid, Option.bind_some, Bool.not_true, Bool.not_false, Bool.false_eq_true, Bool.true_eq_false, beq_self_eq_true, bne_self_eq_false, Int.toNat_natCast, Int.mul_zero, Int.add_zero]
    · have e' : (cs.getD q.length 0 == 0) = false := by simpa using e
      simp only [e, e', and_self, and_true, true_and, decide_true, decide_false, if_true, if_false, mid_get, mid_set, mid_getn, mid_setn, bt_mid, Option.bind_some, Bool.not_true, Bool.not_false, Bool.false_eq_true, Bool.true_eq_false, beq_self_eq_true, bne_self_eq_false, Int.toNat_natCast]
      cases c <;> cases kd <;> cases gr <;> simp
def askO (b : Bool) (xs : List Art) (cs : List Int) (day : Int) : Int := if b = true then (if artsB xs = true then (if cntsB xs cs = true then (if inB day 0 100000 = true then 0 else 2) else 2) else 1) else 1
def permsL (ps : List Prm) : Bool := decide (ps.length ≤ 8) && ps.all permB
theorem spec_l30All_f (ps : List Prm) (h : ps.length ≤ 1000000) (hk : ∀ p ∈ ps, p.2.2.2.2.1.length ≤ 140737488355328) : spec_l30All.f ps = some (permsL ps) := by
  have := all_loop (E := fun p : Prm => p.2.2.2.2.1.length ≤ 140737488355328) permB (fun p => some (decide (((p.length : Int) : Int) ≤ 8))) (fun k xs i => spec_l30All.l2 NN k xs i) ?_ ?_ ps hk (by omega) NN (NN_lt (by omega))
  · unfold spec_l30All.f spec_l30All.fn spec_l30All.top permsL
    refine this.trans ?_
    have e : decide ((ps.length : Int) ≤ 8) = decide (ps.length ≤ 8) := by congr 1; exact propext (by omega)
    cases ps.all permB <;> simp [e]
  · intro k p
    simp [spec_l30All.l2, spec_l30All.g2]
  · intro k p a r ha c0 c1 cw
    simp only [spec_l30All.l2, spec_l30All.g2, c0, c1, cw, and_self, and_true, true_and, decide_true, decide_false, if_true, if_false, mid_get, mid_set, mid_getn, mid_setn, bt_mid, Option.bind_some, Bool.not_true, Bool.not_false, Bool.false_eq_true, Bool.true_eq_false, beq_self_eq_true, bne_self_eq_false, Int.toNat_natCast, spec_IsPermit_f a ha]
    cases permB a <;> simp
theorem spec_l30Code_f (ps : List Prm) (xs : List Art) (cs : List Int) (day : Int) (h : ps.length ≤ 1000000) (hk : ∀ p ∈ ps, p.2.2.2.2.1.length ≤ 140737488355328) (hb : xs.length ≤ 140737488355328) (hz : ∀ a ∈ xs, Sz a.1) (hc : cs.length ≤ 1000000) :
    spec_l30Code.f ps xs cs day = some (askO (permsL ps) xs cs day) := by
  unfold spec_l30Code.f spec_l30Code.fn spec_l30Code.top askO
  rw [spec_l30All_f ps h hk, spec_l03Code_f xs cs hb hz hc, spec_l01In_f]
  cases permsL ps
  · rfl
  cases artsB xs
  · rfl
  cases cntsB xs cs
  · rfl
  cases inB day 0 100000 <;> rfl
def refR (p : Prm) (xs : List Art) (cs : List Int) (day : Int) : Int × Int := if askO (permB p) xs cs day = 0 then (refV p xs cs day, 0) else (0, askO (permB p) xs cs day)
theorem askO_zero {b : Bool} {xs : List Art} {cs : List Int} {day : Int} (h : askO b xs cs day = 0) : b = true ∧ artsB xs = true ∧ cntsB xs cs = true ∧ inB day 0 100000 = true := by
  unfold askO at h
  cases b
  · simp at h
  cases h1 : artsB xs
  · rw [h1] at h; simp at h
  cases h2 : cntsB xs cs
  · rw [h1, h2] at h; simp at h
  cases h3 : inB day 0 100000
  · rw [h1, h2, h3] at h; simp at h
  exact ⟨rfl, rfl, rfl, rfl⟩
theorem arts_z {xs : List Art} (h : Lm OkArticle xs) : ∀ a ∈ xs, Sz a.1 := fun a ha => Nat.le_trans (h.2 a ha).1 (by omega)
theorem RefusalsOf_both (p : Prm) (xs : List Art) (cs : List Int) (day : Int) (hp : OkPermit p) (hx : Lm OkArticle xs) (hc : Lm (Rg .i64) cs) : spec_RefusalsOf.f p xs cs day = some (refR p xs cs day) ∧ impl_RefusalsOf.f p xs cs day = some (refR p xs cs day) := by
  have hk : p.2.2.2.2.1.length ≤ 140737488355328 := Nat.le_trans hp.2.2.2.2.1.1 (by omega)
  have hb : xs.length ≤ 140737488355328 := Nat.le_trans hx.1 (by omega)
  refine ⟨?_, ?_⟩
  · unfold spec_RefusalsOf.f spec_RefusalsOf.fn spec_RefusalsOf.top refR
    rw [spec_l30Code_f [p] xs cs day (by simp) (fun q hq => by rw [List.mem_singleton.1 hq]; exact hk) hb (arts_z hx) hc.1]
    have e1 : permsL [p] = permB p := by simp [permsL]
    rw [e1]
    simp only [Option.bind_some]
    by_cases h0 : askO (permB p) xs cs day = 0
    · obtain ⟨_, a1, a2, _⟩ := askO_zero h0
      rw [if_pos h0, if_neg (by rw [h0]; decide), spec_l30Refusals_f p xs cs day a1 a2 hk]; rfl
    · rw [if_neg h0, if_pos (by simpa using h0)]
  · unfold impl_RefusalsOf.f impl_RefusalsOf.fn impl_RefusalsOf.top refR askO
    rw [impl_IsPermit_f p hk, impl_AreArticles_f xs hb (arts_z hx), impl_areCounts_f xs cs hc.1, impl_isDay_f]
    cases permB p
    · rfl
    cases h1 : artsB xs
    · rfl
    cases h2 : cntsB xs cs
    · rfl
    cases inB day 0 100000
    · rfl
    rw [impl_refusalsOf_f p xs cs day h1 h2 hk]; rfl
theorem RefusalsOf_core (p : Prm) (xs : List Art) (cs : List Int) (day : Int) (hp : OkPermit p) (hx : Lm OkArticle xs) (hc : Lm (Rg .i64) cs) (_ : Rg .i64 day) : ∃ w, spec_RefusalsOf.f p xs cs day = some w ∧ impl_RefusalsOf.f p xs cs day = some w ∧ True :=
  ⟨_, (RefusalsOf_both p xs cs day hp hx hc).1, (RefusalsOf_both p xs cs day hp hx hc).2, trivial⟩
end Go.Pl

namespace Go.Pl
open Go.Ev
set_option linter.unusedVariables false
noncomputable section
def impl_FirstPermit.g6 (L6 : (List (ByteArray × Int × Int × Int × Int × Int × Int × Int × Int)) → List Int → Int → (List (Int × Int × Int × Int × List Int × Int)) → Int → Int → Option (Int × Int)) (list1 : List (ByteArray × Int × Int × Int × Int × Int × Int × Int × Int)) (counts2 : List Int) (day3 : Int) (v29 : List (Int × Int × Int × Int × List Int × Int)) (v30 : Int) (v31 : Int) : Option (Int × Int) :=
  if (decide ((v31 : Int) < v30)) = true then
    if (0 : Int) ≤ v31 ∧ (v31 : Int) < v29.length then
      (impl_refusalsOf.f (v29.getD (v31 : Int).toNat (0, (0, (0, (0, ([], 0)))))) list1 counts2 day3).bind fun r5 =>
      if ((r5 : Int) == 0) = true then
        some (v31, 0)
      else
        L6 list1 counts2 day3 v29 v30 (IntKind.i64.wrap (v31 + 1))
    else
      none
  else
    some (0, 4)
def impl_FirstPermit.l6 (n : Nat) : Nat → (List (ByteArray × Int × Int × Int × Int × Int × Int × Int × Int)) → List Int → Int → (List (Int × Int × Int × Int × List Int × Int)) → Int → Int → Option (Int × Int)
  | 0 => fun _ _ _ _ _ _ => none
  | k + 1 => impl_FirstPermit.g6 (impl_FirstPermit.l6 n k)
def impl_FirstPermit.top (I6 : (List (ByteArray × Int × Int × Int × Int × Int × Int × Int × Int)) → List Int → Int → (List (Int × Int × Int × Int × List Int × Int)) → Int → Int → Option (Int × Int)) (permits0 : List (Int × Int × Int × Int × List Int × Int)) (list1 : List (ByteArray × Int × Int × Int × Int × Int × Int × Int × Int)) (counts2 : List Int) (day3 : Int) : Option (Int × Int) :=
  (impl_arePermits.f permits0).bind fun r1 =>
  if (!r1) = false then
    (impl_AreArticles.f list1).bind fun r2 =>
    if (!r2) = true then
      some (0, 1)
    else
      (impl_areCounts.f list1 counts2).bind fun r3 =>
      if (!r3) = false then
        (impl_isDay.f day3).bind fun r4 =>
        if (!r4) = true then
          some (0, 2)
        else
          I6 list1 counts2 day3 permits0 (permits0.length : Int) 0
      else
        some (0, 2)
  else
    some (0, 1)
def impl_FirstPermit.fn (n : Nat) (permits0 : List (Int × Int × Int × Int × List Int × Int)) (list1 : List (ByteArray × Int × Int × Int × Int × Int × Int × Int × Int)) (counts2 : List Int) (day3 : Int) : Option (Int × Int) := impl_FirstPermit.top (impl_FirstPermit.l6 n n) permits0 list1 counts2 day3
def impl_FirstPermit.f (permits0 : List (Int × Int × Int × Int × List Int × Int)) (list1 : List (ByteArray × Int × Int × Int × Int × Int × Int × Int × Int)) (counts2 : List Int) (day3 : Int) : Option (Int × Int) := impl_FirstPermit.fn NN permits0 list1 counts2 day3
end
end Go.Pl

namespace Go.Pl
open Go.Ev
set_option linter.unusedVariables false
noncomputable section
def spec_l30First.g2 (L2 : (List (Int × Int × Int × Int × List Int × Int)) → (List (ByteArray × Int × Int × Int × Int × Int × Int × Int × Int)) → List Int → Int → Int → Option Int) (permits0 : List (Int × Int × Int × Int × List Int × Int)) (list1 : List (ByteArray × Int × Int × Int × Int × Int × Int × Int × Int)) (counts2 : List Int) (day3 : Int) (i9 : Int) : Option Int :=
  if (decide ((i9 : Int) < (permits0.length : Int))) = true then
    if (0 : Int) ≤ i9 ∧ (i9 : Int) < permits0.length then
      (spec_l30Refusals.f (permits0.getD (i9 : Int).toNat (0, (0, (0, (0, ([], 0)))))) list1 counts2 day3).bind fun r1 =>
      if ((r1 : Int) == 0) = true then
        some i9
      else
        L2 permits0 list1 counts2 day3 (IntKind.i64.wrap (i9 + 1))
    else
      none
  else
    some (-1)
def spec_l30First.l2 (n : Nat) : Nat → (List (Int × Int × Int × Int × List Int × Int)) → (List (ByteArray × Int × Int × Int × Int × Int × Int × Int × Int)) → List Int → Int → Int → Option Int
  | 0 => fun _ _ _ _ _ => none
  | k + 1 => spec_l30First.g2 (spec_l30First.l2 n k)
def spec_l30First.top (I2 : (List (Int × Int × Int × Int × List Int × Int)) → (List (ByteArray × Int × Int × Int × Int × Int × Int × Int × Int)) → List Int → Int → Int → Option Int) (permits0 : List (Int × Int × Int × Int × List Int × Int)) (list1 : List (ByteArray × Int × Int × Int × Int × Int × Int × Int × Int)) (counts2 : List Int) (day3 : Int) : Option Int :=
  I2 permits0 list1 counts2 day3 0
def spec_l30First.fn (n : Nat) (permits0 : List (Int × Int × Int × Int × List Int × Int)) (list1 : List (ByteArray × Int × Int × Int × Int × Int × Int × Int × Int)) (counts2 : List Int) (day3 : Int) : Option Int := spec_l30First.top (spec_l30First.l2 n n) permits0 list1 counts2 day3
def spec_l30First.f (permits0 : List (Int × Int × Int × Int × List Int × Int)) (list1 : List (ByteArray × Int × Int × Int × Int × Int × Int × Int × Int)) (counts2 : List Int) (day3 : Int) : Option Int := spec_l30First.fn NN permits0 list1 counts2 day3
end
end Go.Pl

namespace Go.Pl
open Go.Ev
set_option linter.unusedVariables false
noncomputable section
def spec_FirstPermit.top (permits0 : List (Int × Int × Int × Int × List Int × Int)) (list1 : List (ByteArray × Int × Int × Int × Int × Int × Int × Int × Int)) (counts2 : List Int) (day3 : Int) : Option (Int × Int) :=
  (spec_l30Code.f permits0 list1 counts2 day3).bind fun r1 =>
  if ((r1 : Int) != 0) = true then
    some (0, r1)
  else
    (spec_l30First.f permits0 list1 counts2 day3).bind fun r2 =>
    if (decide ((r2 : Int) < 0)) = true then
      some (0, 4)
    else
      some (r2, 0)
def spec_FirstPermit.fn (n : Nat) (permits0 : List (Int × Int × Int × Int × List Int × Int)) (list1 : List (ByteArray × Int × Int × Int × Int × Int × Int × Int × Int)) (counts2 : List Int) (day3 : Int) : Option (Int × Int) := spec_FirstPermit.top permits0 list1 counts2 day3
def spec_FirstPermit.f (permits0 : List (Int × Int × Int × Int × List Int × Int)) (list1 : List (ByteArray × Int × Int × Int × Int × Int × Int × Int × Int)) (counts2 : List Int) (day3 : Int) : Option (Int × Int) := spec_FirstPermit.fn NN permits0 list1 counts2 day3
end
end Go.Pl

namespace Go.Pl
open Go.Ev
set_option linter.unusedVariables false
noncomputable section
def impl_NextDay.g7 (L7 : (List (ByteArray × Int × Int × Int × Int × Int × Int × Int × Int)) → List Int → Int → Int → (List (Int × Int × Int × Int × List Int × Int)) → Int → Int → Option (Int × Int)) (list1 : List (ByteArray × Int × Int × Int × Int × Int × Int × Int × Int)) (counts2 : List Int) (day3 : Int) (best10 : Int) (v31 : List (Int × Int × Int × Int × List Int × Int)) (v32 : Int) (v33 : Int) : Option (Int × Int) :=
  if (decide ((v33 : Int) < v32)) = true then
    if (0 : Int) ≤ v33 ∧ (v33 : Int) < v31.length then
      (impl_refusalsOf.f (v31.getD (v33 : Int).toNat (0, (0, (0, (0, ([], 0)))))) list1 counts2 (if ((v31.getD (v33 : Int).toNat (0, (0, (0, (0, ([], 0)))))).1) > day3 then ((v31.getD (v33 : Int).toNat (0, (0, (0, (0, ([], 0)))))).1) else day3)).bind fun r5 =>
      if ((r5 : Int) == 0) = true then
        if (decide ((best10 : Int) < 0)) = false then
          if (decide (((if ((v31.getD (v33 : Int).toNat (0, (0, (0, (0, ([], 0)))))).1) > day3 then ((v31.getD (v33 : Int).toNat (0, (0, (0, (0, ([], 0)))))).1) else day3) : Int) < best10)) = true then
            L7 list1 counts2 day3 (if ((v31.getD (v33 : Int).toNat (0, (0, (0, (0, ([], 0)))))).1) > day3 then ((v31.getD (v33 : Int).toNat (0, (0, (0, (0, ([], 0)))))).1) else day3) v31 v32 (IntKind.i64.wrap (v33 + 1))
          else
            L7 list1 counts2 day3 best10 v31 v32 (IntKind.i64.wrap (v33 + 1))
        else
          L7 list1 counts2 day3 (if ((v31.getD (v33 : Int).toNat (0, (0, (0, (0, ([], 0)))))).1) > day3 then ((v31.getD (v33 : Int).toNat (0, (0, (0, (0, ([], 0)))))).1) else day3) v31 v32 (IntKind.i64.wrap (v33 + 1))
      else
        L7 list1 counts2 day3 best10 v31 v32 (IntKind.i64.wrap (v33 + 1))
    else
      none
  else if (decide ((best10 : Int) < 0)) = true then
    some (0, 4)
  else
    some (best10, 0)
def impl_NextDay.l7 (n : Nat) : Nat → (List (ByteArray × Int × Int × Int × Int × Int × Int × Int × Int)) → List Int → Int → Int → (List (Int × Int × Int × Int × List Int × Int)) → Int → Int → Option (Int × Int)
  | 0 => fun _ _ _ _ _ _ _ => none
  | k + 1 => impl_NextDay.g7 (impl_NextDay.l7 n k)
def impl_NextDay.top (I7 : (List (ByteArray × Int × Int × Int × Int × Int × Int × Int × Int)) → List Int → Int → Int → (List (Int × Int × Int × Int × List Int × Int)) → Int → Int → Option (Int × Int)) (permits0 : List (Int × Int × Int × Int × List Int × Int)) (list1 : List (ByteArray × Int × Int × Int × Int × Int × Int × Int × Int)) (counts2 : List Int) (day3 : Int) : Option (Int × Int) :=
  (impl_arePermits.f permits0).bind fun r1 =>
  if (!r1) = false then
    (impl_AreArticles.f list1).bind fun r2 =>
    if (!r2) = true then
      some (0, 1)
    else
      (impl_areCounts.f list1 counts2).bind fun r3 =>
      if (!r3) = false then
        (impl_isDay.f day3).bind fun r4 =>
        if (!r4) = true then
          some (0, 2)
        else
          I7 list1 counts2 day3 (-1) permits0 (permits0.length : Int) 0
      else
        some (0, 2)
  else
    some (0, 1)
def impl_NextDay.fn (n : Nat) (permits0 : List (Int × Int × Int × Int × List Int × Int)) (list1 : List (ByteArray × Int × Int × Int × Int × Int × Int × Int × Int)) (counts2 : List Int) (day3 : Int) : Option (Int × Int) := impl_NextDay.top (impl_NextDay.l7 n n) permits0 list1 counts2 day3
def impl_NextDay.f (permits0 : List (Int × Int × Int × Int × List Int × Int)) (list1 : List (ByteArray × Int × Int × Int × Int × Int × Int × Int × Int)) (counts2 : List Int) (day3 : Int) : Option (Int × Int) := impl_NextDay.fn NN permits0 list1 counts2 day3
end
end Go.Pl

namespace Go.Pl
open Go.Ev
set_option linter.unusedVariables false
noncomputable section
def spec_NextDay.g6 (L6 : (List (Int × Int × Int × Int × List Int × Int)) → (List (ByteArray × Int × Int × Int × Int × Int × Int × Int × Int)) → List Int → Int → Int → Int → Option (Int × Int)) (permits0 : List (Int × Int × Int × Int × List Int × Int)) (list1 : List (ByteArray × Int × Int × Int × Int × Int × Int × Int × Int)) (counts2 : List Int) (day3 : Int) (best11 : Int) (i12 : Int) : Option (Int × Int) :=
  if (decide ((i12 : Int) < (permits0.length : Int))) = true then
    if (0 : Int) ≤ i12 ∧ (i12 : Int) < permits0.length then
      if (0 : Int) ≤ i12 ∧ (i12 : Int) < permits0.length then
        (spec_l30Refusals.f (permits0.getD (i12 : Int).toNat (0, (0, (0, (0, ([], 0)))))) list1 counts2 (if ((permits0.getD (i12 : Int).toNat (0, (0, (0, (0, ([], 0)))))).1) > day3 then ((permits0.getD (i12 : Int).toNat (0, (0, (0, (0, ([], 0)))))).1) else day3)).bind fun r2 =>
        if ((r2 : Int) == 0) = true then
          if (decide ((best11 : Int) < 0)) = false then
            if (decide (((if ((permits0.getD (i12 : Int).toNat (0, (0, (0, (0, ([], 0)))))).1) > day3 then ((permits0.getD (i12 : Int).toNat (0, (0, (0, (0, ([], 0)))))).1) else day3) : Int) < best11)) = true then
              L6 permits0 list1 counts2 day3 (if ((permits0.getD (i12 : Int).toNat (0, (0, (0, (0, ([], 0)))))).1) > day3 then ((permits0.getD (i12 : Int).toNat (0, (0, (0, (0, ([], 0)))))).1) else day3) (IntKind.i64.wrap (i12 + 1))
            else
              L6 permits0 list1 counts2 day3 best11 (IntKind.i64.wrap (i12 + 1))
          else
            L6 permits0 list1 counts2 day3 (if ((permits0.getD (i12 : Int).toNat (0, (0, (0, (0, ([], 0)))))).1) > day3 then ((permits0.getD (i12 : Int).toNat (0, (0, (0, (0, ([], 0)))))).1) else day3) (IntKind.i64.wrap (i12 + 1))
        else
          L6 permits0 list1 counts2 day3 best11 (IntKind.i64.wrap (i12 + 1))
      else
        none
    else
      none
  else if (decide ((best11 : Int) < 0)) = true then
    some (0, 4)
  else
    some (best11, 0)
def spec_NextDay.l6 (n : Nat) : Nat → (List (Int × Int × Int × Int × List Int × Int)) → (List (ByteArray × Int × Int × Int × Int × Int × Int × Int × Int)) → List Int → Int → Int → Int → Option (Int × Int)
  | 0 => fun _ _ _ _ _ _ => none
  | k + 1 => spec_NextDay.g6 (spec_NextDay.l6 n k)
def spec_NextDay.top (I6 : (List (Int × Int × Int × Int × List Int × Int)) → (List (ByteArray × Int × Int × Int × Int × Int × Int × Int × Int)) → List Int → Int → Int → Int → Option (Int × Int)) (permits0 : List (Int × Int × Int × Int × List Int × Int)) (list1 : List (ByteArray × Int × Int × Int × Int × Int × Int × Int × Int)) (counts2 : List Int) (day3 : Int) : Option (Int × Int) :=
  (spec_l30Code.f permits0 list1 counts2 day3).bind fun r1 =>
  if ((r1 : Int) != 0) = true then
    some (0, r1)
  else
    I6 permits0 list1 counts2 day3 (-1) 0
def spec_NextDay.fn (n : Nat) (permits0 : List (Int × Int × Int × Int × List Int × Int)) (list1 : List (ByteArray × Int × Int × Int × Int × Int × Int × Int × Int)) (counts2 : List Int) (day3 : Int) : Option (Int × Int) := spec_NextDay.top (spec_NextDay.l6 n n) permits0 list1 counts2 day3
def spec_NextDay.f (permits0 : List (Int × Int × Int × Int × List Int × Int)) (list1 : List (ByteArray × Int × Int × Int × Int × Int × Int × Int × Int)) (counts2 : List Int) (day3 : Int) : Option (Int × Int) := spec_NextDay.fn NN permits0 list1 counts2 day3
end
end Go.Pl

namespace Go.Pl
open Go.Ev
set_option linter.unusedVariables false
set_option linter.unusedSimpArgs false
theorem impl_arePermits_f (ps : List Prm) (h : ps.length ≤ 1000000) (hk : ∀ p ∈ ps, p.2.2.2.2.1.length ≤ 140737488355328) : impl_arePermits.f ps = some (permsL ps) := by
  unfold impl_arePermits.f impl_arePermits.fn impl_arePermits.top permsL
  by_cases h8 : (8 : Int) < (ps.length : Int)
  · have : ¬ ps.length ≤ 8 := by omega
    simp [h8, this]
  have e8 : ps.length ≤ 8 := by omega
  simp only [h8, e8, and_self, and_true, true_and, decide_true, decide_false, if_true, if_false, mid_get, mid_set, mid_getn, mid_setn, bt_mid, Option.bind_some, Bool.not_true, Bool.not_false, Bool.false_eq_true, Bool.true_eq_false, beq_self_eq_true, bne_self_eq_false, Int.toNat_natCast]
  have := all_loop (E := fun p : Prm => p.2.2.2.2.1.length ≤ 140737488355328) permB (fun _ => some true) (fun k xs i => impl_arePermits.l4 NN k xs xs.length i) ?_ ?_ ps hk (by omega) NN (NN_lt (by omega))
  · refine this.trans ?_
    cases ps.all permB <;> simp
  · intro k p
    simp [impl_arePermits.l4, impl_arePermits.g4]
  · intro k p a r ha c0 c1 cw
    simp only [impl_arePermits.l4, impl_arePermits.g4, c0, c1, cw, and_self, and_true, true_and, decide_true, decide_false, if_true, if_false, mid_get, mid_set, mid_getn, mid_setn, bt_mid, Option.bind_some, Bool.not_true, Bool.not_false, Bool.false_eq_true, Bool.true_eq_false, beq_self_eq_true, bne_self_eq_false, Int.toNat_natCast, impl_IsPermit_f a ha]
    cases permB a <;> simp
theorem permB_iff {p : Prm} (h : permB p = true) : (0 ≤ p.1 ∧ p.1 ≤ 100000) ∧ (p.1 ≤ p.2.1 ∧ p.2.1 ≤ 100000) := by
  unfold permB at h
  simp only [Bool.and_eq_true, inB_iff] at h
  omega
def fstP (ps : List Prm) (xs : List Art) (cs : List Int) (day : Int) : Option (Nat × Prm) := firstOf (fun p : Prm => decide (refV p xs cs day = 0)) 0 ps
def frsR (ps : List Prm) (xs : List Art) (cs : List Int) (day : Int) : Int × Int := if askO (permsL ps) xs cs day = 0 then (fstP ps xs cs day).elim (0, 4) (fun x => ((x.1 : Int), 0)) else (0, askO (permsL ps) xs cs day)
theorem perms_k {ps : List Prm} (hp : Lm OkPermit ps) : ∀ p ∈ ps, p.2.2.2.2.1.length ≤ 140737488355328 := fun p h => Nat.le_trans (hp.2 p h).2.2.2.2.1.1 (by omega)
theorem FirstPermit_both (ps : List Prm) (xs : List Art) (cs : List Int) (day : Int) (hp : Lm OkPermit ps) (hx : Lm OkArticle xs) (hc : Lm (Rg .i64) cs) : spec_FirstPermit.f ps xs cs day = some (frsR ps xs cs day) ∧ impl_FirstPermit.f ps xs cs day = some (frsR ps xs cs day) := by
  have hk := perms_k hp
  have hpl := hp.1
  have hb : xs.length ≤ 140737488355328 := Nat.le_trans hx.1 (by omega)
  refine ⟨?_, ?_⟩
  · unfold spec_FirstPermit.f spec_FirstPermit.fn spec_FirstPermit.top frsR
    rw [spec_l30Code_f ps xs cs day hpl hk hb (arts_z hx) hc.1]
    simp only [Option.bind_some]
    by_cases h0 : askO (permsL ps) xs cs day = 0
    · obtain ⟨_, a1, a2, _⟩ := askO_zero h0
      rw [if_pos h0, if_neg (by rw [h0]; decide)]
      have := find_loop (E := fun p : Prm => p.2.2.2.2.1.length ≤ 140737488355328) (fun p : Prm => decide (refV p xs cs day = 0)) (fun i _ => some (i : Int)) (fun _ => some (-1)) (fun k ys i => spec_l30First.l2 NN k ys xs cs day i) ?_ ?_ ps hk (by omega) NN (NN_lt (by omega))
      · unfold spec_l30First.f spec_l30First.fn spec_l30First.top
        rw [this]
        unfold fstP
        cases firstOf (fun p : Prm => decide (refV p xs cs day = 0)) 0 ps with
        | none => rfl
        | some y =>
          have : ¬ (y.1 : Int) < 0 := by omega
          simp [this]
      · intro k q
        simp [spec_l30First.l2, spec_l30First.g2]
      · intro k q p r he c0 c1 c2 cw
        simp only [spec_l30First.l2, spec_l30First.g2, c0, c1, cw, and_self, and_true, true_and, decide_true, decide_false, if_true, if_false, mid_get, mid_set, mid_getn, mid_setn, bt_mid, Option.bind_some, Bool.not_true, Bool.not_false, Bool.false_eq_true, Bool.true_eq_false, beq_self_eq_true, bne_self_eq_false, Int.toNat_natCast, spec_l30Refusals_f p xs cs day a1 a2 he]
        by_cases h : refV p xs cs day = 0 <;> simp [h]
    · rw [if_neg h0, if_pos (by simpa using h0)]
  · unfold impl_FirstPermit.f impl_FirstPermit.fn impl_FirstPermit.top frsR
    rw [impl_arePermits_f ps hpl hk, impl_AreArticles_f xs hb (arts_z hx), impl_areCounts_f xs cs hc.1, impl_isDay_f]
    have ea : ∀ v : Int × Int, (if askO (permsL ps) xs cs day = 0 then v else (0, askO (permsL ps) xs cs day)) = if permsL ps = true then (if artsB xs = true then (if cntsB xs cs = true then (if inB day 0 100000 = true then v else (0, 2)) else (0, 2)) else (0, 1)) else (0, 1) := fun v => by
      unfold askO
      cases permsL ps
      · rfl
      cases artsB xs
      · rfl
      cases cntsB xs cs
      · rfl
      cases inB day 0 100000 <;> rfl
    rw [ea]
    cases permsL ps
    · rfl
    cases h1 : artsB xs
    · rfl
    cases h2 : cntsB xs cs
    · rfl
    cases inB day 0 100000
    · rfl
    have := find_loop (E := fun p : Prm => p.2.2.2.2.1.length ≤ 140737488355328) (fun p : Prm => decide (refV p xs cs day = 0)) (fun i _ => some ((i : Int), (0 : Int))) (fun _ => some (0, 4)) (fun k ys i => impl_FirstPermit.l6 NN k xs cs day ys ys.length i) ?_ ?_ ps hk (by omega) NN (NN_lt (by omega))
    · simp only [Option.bind_some, Bool.not_true, Bool.false_eq_true, if_false, if_true]
      refine this.trans ?_
      unfold fstP
      cases firstOf (fun p : Prm => decide (refV p xs cs day = 0)) 0 ps <;> rfl
    · intro k q
      simp [impl_FirstPermit.l6, impl_FirstPermit.g6]
    · intro k q p r he c0 c1 c2 cw
      simp only [impl_FirstPermit.l6, impl_FirstPermit.g6, c0, c1, cw, and_self, and_true, true_and, decide_true, decide_false, if_true, if_false, mid_get, mid_set, mid_getn, mid_setn, bt_mid, Option.bind_some, Bool.not_true, Bool.not_false, Bool.false_eq_true, Bool.true_eq_false, beq_self_eq_true, bne_self_eq_false, Int.toNat_natCast, impl_refusalsOf_f p xs cs day h1 h2 he]
      by_cases h : refV p xs cs day = 0 <;> simp [h]
theorem FirstPermit_core (ps : List Prm) (xs : List Art) (cs : List Int) (day : Int) (hp : Lm OkPermit ps) (hx : Lm OkArticle xs) (hc : Lm (Rg .i64) cs) (_ : Rg .i64 day) : ∃ w, spec_FirstPermit.f ps xs cs day = some w ∧ impl_FirstPermit.f ps xs cs day = some w ∧ True :=
  ⟨_, (FirstPermit_both ps xs cs day hp hx hc).1, (FirstPermit_both ps xs cs day hp hx hc).2, trivial⟩
def maxD (a b : Int) : Int := if a > b then a else b
def nxtF (xs : List Art) (cs : List Int) (day : Int) (best : Int) (p : Prm) : Int :=
  if refV p xs cs (maxD p.1 day) = 0 then (if best < 0 then maxD p.1 day else if maxD p.1 day < best then maxD p.1 day else best) else best
def nxtL (ps : List Prm) (xs : List Art) (cs : List Int) (day : Int) : Int := ps.foldl (nxtF xs cs day) (-1)
def nxtR (ps : List Prm) (xs : List Art) (cs : List Int) (day : Int) : Int × Int := if askO (permsL ps) xs cs day = 0 then (if nxtL ps xs cs day < 0 then (0, 4) else (nxtL ps xs cs day, 0)) else (0, askO (permsL ps) xs cs day)
theorem ask_iff (b : Bool) (xs : List Art) (cs : List Int) (day : Int) (v : Int × Int) : (if askO b xs cs day = 0 then v else (0, askO b xs cs day)) = if b = true then (if artsB xs = true then (if cntsB xs cs = true then (if inB day 0 100000 = true then v else (0, 2)) else (0, 2)) else (0, 1)) else (0, 1) := by
  unfold askO
  cases b
  · rfl
  cases artsB xs
  · rfl
  cases cntsB xs cs
  · rfl
  cases inB day 0 100000 <;> rfl
theorem NextDay_both (ps : List Prm) (xs : List Art) (cs : List Int) (day : Int) (hp : Lm OkPermit ps) (hx : Lm OkArticle xs) (hc : Lm (Rg .i64) cs) : spec_NextDay.f ps xs cs day = some (nxtR ps xs cs day) ∧ impl_NextDay.f ps xs cs day = some (nxtR ps xs cs day) := by
  have hk := perms_k hp
  have hpl := hp.1
  have hb : xs.length ≤ 140737488355328 := Nat.le_trans hx.1 (by omega)
  have fin : ∀ st : Int, (if (decide ((st : Int) < 0)) = true then some ((0 : Int), (4 : Int)) else some (st, 0)) = some (if st < 0 then (0, 4) else (st, 0)) := fun st => by
    by_cases h : st < 0 <;> simp [h]
  refine ⟨?_, ?_⟩
  · unfold spec_NextDay.f spec_NextDay.fn spec_NextDay.top nxtR
    rw [spec_l30Code_f ps xs cs day hpl hk hb (arts_z hx) hc.1]
    simp only [Option.bind_some]
    by_cases h0 : askO (permsL ps) xs cs day = 0
    · obtain ⟨_, a1, a2, _⟩ := askO_zero h0
      rw [if_pos h0, if_neg (by rw [h0]; decide)]
      have := (fold_fix (E := fun p : Prm => p.2.2.2.2.1.length ≤ 140737488355328) (fun _ _ => True) (fun _ => nxtF xs cs day) (fun st => some (if st < 0 then ((0 : Int), (4 : Int)) else (st, 0))) (fun k i st => spec_NextDay.l6 NN k ps xs cs day st i) ps ?_ ?_ (-1) hk trivial (by omega) NN (NN_lt (by omega))).2
      · rw [foldi_foldl] at this
        exact this
      · intro k st _
        simp only [spec_NextDay.l6, spec_NextDay.g6, Int.lt_irrefl, and_self, and_true, true_and, decide_true, decide_false, if_true, if_false, mid_get, mid_set, mid_getn, mid_setn, bt_mid, Option.bind_some, Bool.not_true, Bool.not_false, Bool.false_eq_true, Bool.true_eq_false, beq_self_eq_true, bne_self_eq_false, Int.toNat_natCast]
        exact fin st
      · intro k q p r st hxx he _ c0 c1 c2 cw g
        refine ⟨trivial, ?_⟩
        simp only [spec_NextDay.l6, spec_NextDay.g6, c0, c1, cw, and_self, and_true, true_and, decide_true, decide_false, if_true, if_false, mid_get, mid_set, mid_getn, mid_setn, bt_mid, Option.bind_some, Bool.not_true, Bool.not_false, Bool.false_eq_true, Bool.true_eq_false, beq_self_eq_true, bne_self_eq_false, Int.toNat_natCast, g]
        rw [spec_l30Refusals_f p xs cs _ a1 a2 he]
        rw [show (if p.1 > day then p.1 else day) = maxD p.1 day from rfl]
        unfold nxtF
        simp only [Option.bind_some]
        by_cases h : refV p xs cs (maxD p.1 day) = 0
        · by_cases h2 : st < 0
          · simp [h, h2]
          · by_cases h3 : maxD p.1 day < st
            · simp [h, h2, h3]
            · simp [h, h2, h3]
        · simp [h]
    · rw [if_neg h0, if_pos (by simpa using h0)]
  · unfold impl_NextDay.f impl_NextDay.fn impl_NextDay.top nxtR
    rw [impl_arePermits_f ps hpl hk, impl_AreArticles_f xs hb (arts_z hx), impl_areCounts_f xs cs hc.1, impl_isDay_f, ask_iff]
    cases permsL ps
    · rfl
    cases h1 : artsB xs
    · rfl
    cases h2 : cntsB xs cs
    · rfl
    cases inB day 0 100000
    · rfl
    have := (fold_fix (E := fun p : Prm => p.2.2.2.2.1.length ≤ 140737488355328) (fun _ _ => True) (fun _ => nxtF xs cs day) (fun st => some (if st < 0 then ((0 : Int), (4 : Int)) else (st, 0))) (fun k i st => impl_NextDay.l7 NN k xs cs day st ps ps.length i) ps ?_ ?_ (-1) hk trivial (by omega) NN (NN_lt (by omega))).2
    · rw [foldi_foldl] at this
      simp only [Option.bind_some, Bool.not_true, Bool.false_eq_true, if_false, if_true]
      exact this
    · intro k st _
      simp only [impl_NextDay.l7, impl_NextDay.g7, Int.lt_irrefl, and_self, and_true, true_and, decide_true, decide_false, if_true, if_false, mid_get, mid_set, mid_getn, mid_setn, bt_mid, Option.bind_some, Bool.not_true, Bool.not_false, Bool.false_eq_true, Bool.true_eq_false, beq_self_eq_true, bne_self_eq_false, Int.toNat_natCast]
      exact fin st
    · intro k q p r st hxx he _ c0 c1 c2 cw g
      refine ⟨trivial, ?_⟩
      simp only [impl_NextDay.l7, impl_NextDay.g7, c0, c1, cw, and_self, and_true, true_and, decide_true, decide_false, if_true, if_false, mid_get, mid_set, mid_getn, mid_setn, bt_mid, Option.bind_some, Bool.not_true, Bool.not_false, Bool.false_eq_true, Bool.true_eq_false, beq_self_eq_true, bne_self_eq_false, Int.toNat_natCast, g]
      rw [impl_refusalsOf_f p xs cs _ h1 h2 he]
      rw [show (if p.1 > day then p.1 else day) = maxD p.1 day from rfl]
      unfold nxtF
      simp only [Option.bind_some]
      by_cases h : refV p xs cs (maxD p.1 day) = 0
      · by_cases h2 : st < 0
        · simp [h, h2]
        · by_cases h3 : maxD p.1 day < st
          · simp [h, h2, h3]
          · simp [h, h2, h3]
      · simp [h]
theorem NextDay_core (ps : List Prm) (xs : List Art) (cs : List Int) (day : Int) (hp : Lm OkPermit ps) (hx : Lm OkArticle xs) (hc : Lm (Rg .i64) cs) (_ : Rg .i64 day) : ∃ w, spec_NextDay.f ps xs cs day = some w ∧ impl_NextDay.f ps xs cs day = some w ∧ True :=
  ⟨_, (NextDay_both ps xs cs day hp hx hc).1, (NextDay_both ps xs cs day hp hx hc).2, trivial⟩
end Go.Pl

namespace Go.Pl
open Go.Ev
set_option linter.unusedVariables false
set_option linter.unusedSimpArgs false
def covB (ps : List Prm) (day : Int) : Bool := ps.any fun p => inB day p.1 p.2.1
def nextF (frm : Int) (nx : Int) (p : Prm) : Int := if inB frm p.1 p.2.1 = true then (if p.2.1 + 1 > nx then p.2.1 + 1 else nx) else nx
theorem next_bd (frm : Int) : ∀ (ps : List Prm) (nx : Int), (∀ p ∈ ps, permB p = true) → frm ≤ nx → nx ≤ 100001 → nx ≤ ps.foldl (nextF frm) nx ∧ ps.foldl (nextF frm) nx ≤ 100001 ∧ (covB ps frm = true → frm < ps.foldl (nextF frm) nx) ∧ (covB ps frm = false → ps.foldl (nextF frm) nx = nx) := by
  intro ps
  induction ps with
  | nil => intro nx _ h1 h2; exact ⟨by simp, by simpa using h2, by simp [covB], by simp⟩
  | cons p r ih =>
    intro nx hv h1 h2
    have hp := permB_iff (hv p (by simp))
    have hs : nx ≤ nextF frm nx p ∧ nextF frm nx p ≤ 100001 := by unfold nextF; split <;> (try split) <;> omega
    obtain ⟨k1, k2, k3, k4⟩ := ih (nextF frm nx p) (fun x hx => hv x (by simp [hx])) (by omega) hs.2
    rw [List.foldl_cons]
    refine ⟨by omega, k2, fun h => ?_, fun h => ?_⟩
    · simp only [covB, List.any_cons, Bool.or_eq_true] at h
      rcases h with h | h
      · have : frm < nextF frm nx p := by
          unfold nextF
          rw [if_pos h]
          have := inB_iff.1 h
          split <;> omega
        omega
      · exact k3 h
    · simp only [covB, List.any_cons, Bool.or_eq_false_iff] at h
      have : nextF frm nx p = nx := by unfold nextF; rw [h.1]; simp
      rw [k4 h.2, this]
theorem impl_covers_in (ps : List Prm) (frm to : Int) (L : List Prm → Int → Int → Option Bool) (hv : ∀ p ∈ ps, permB p = true) (hl : ps.length ≤ 1000000) (hf : 0 ≤ frm ∧ frm ≤ 100000) :
    impl_covers.l4 NN L NN ps frm to frm ps ps.length 0 = if ps.foldl (nextF frm) frm = frm then some false else L ps (ps.foldl (nextF frm) frm) to := by
  have := (fold_fix (E := fun p : Prm => permB p = true) (fun _ nx => frm ≤ nx ∧ nx ≤ 100001) (fun _ => nextF frm) (fun nx => if nx = frm then some false else L ps nx to) (fun k i nx => impl_covers.l4 NN L k ps frm to nx ps ps.length i) ps ?_ ?_ frm hv (by omega) (by omega) NN (NN_lt (by omega))).2
  · rw [foldi_foldl] at this
    exact this
  · intro k nx _
    simp only [impl_covers.l4, impl_covers.g4, Int.lt_irrefl, and_self, and_true, true_and, decide_true, decide_false, if_true, if_false, mid_get, mid_set, mid_getn, mid_setn, bt_mid, Option.bind_some, Bool.not_true, Bool.not_false, Bool.false_eq_true, Bool.true_eq_false, beq_self_eq_true, bne_self_eq_false, Int.toNat_natCast]
    by_cases h : nx = frm <;> simp [h]
  · intro k q p r nx hx hp hI c0 c1 c2 cw g
    have hb := permB_iff hp
    have w1 := w64 (n := p.2.1 + 1) (by omega) (by omega)
    refine ⟨by unfold nextF; split <;> (try split) <;> omega, ?_⟩
    simp only [impl_covers.l4, impl_covers.g4, c0, c1, cw, and_self, and_true, true_and, decide_true, decide_false, if_true, if_false, mid_get, mid_set, mid_getn, mid_setn, bt_mid, Option.bind_some, Bool.not_true, Bool.not_false, Bool.false_eq_true, Bool.true_eq_false, beq_self_eq_true, bne_self_eq_false, Int.toNat_natCast, g, impl_within_f, w1]
    unfold nextF
    cases inB frm p.1 p.2.1 <;> simp
theorem NN_3 : ∃ j, NN = j + 1 + 1 + 1 := ⟨NN - 3, by have := NNb; omega⟩
theorem impl_covers_day (ps : List Prm) (day : Int) (hv : ∀ p ∈ ps, permB p = true) (hl : ps.length ≤ 1000000) (hf : 0 ≤ day ∧ day ≤ 100000) : impl_covers.f ps day day = some (covB ps day) := by
  unfold impl_covers.f impl_covers.fn impl_covers.top
  obtain ⟨k, hk⟩ := NN_3
  rw [show impl_covers.l1 NN NN = impl_covers.l1 NN (k + 1 + 1 + 1) by rw [← hk]]
  obtain ⟨h1, h2, h3, h4⟩ := next_bd day ps day hv (by omega) (by omega)
  have e1 := impl_covers_in ps day day (impl_covers.l1 NN (k + 1 + 1)) hv hl hf
  have q : day ≤ day := by omega
  rw [impl_covers.l1]
  unfold impl_covers.g1
  simp only [q, decide_true, if_true]
  rw [e1]
  cases hc : covB ps day
  · rw [if_pos (h4 hc)]
  · have h5 := h3 hc
    rw [if_neg (by omega)]
    rw [impl_covers.l1]
    unfold impl_covers.g1
    have q2 : ¬ (ps.foldl (nextF day) day ≤ day) := by omega
    simp only [q2, decide_false, Bool.false_eq_true, if_false]
def cntD (ps : List Prm) : Nat → Int → Int
  | 0, _ => 0
  | d + 1, day => (if covB ps day = true then 1 else 0) + cntD ps d (day + 1)
theorem cntD_bd (ps : List Prm) : ∀ (d : Nat) (day : Int), 0 ≤ cntD ps d day ∧ cntD ps d day ≤ d := by
  intro d
  induction d with
  | zero => intro day; simp [cntD]
  | succ d ih => intro day; have := ih (day + 1); simp only [cntD]; split <;> omega
theorem impl_days_l (ps : List Prm) (to : Int) (hv : ∀ p ∈ ps, permB p = true) (hl : ps.length ≤ 1000000) (ht : to ≤ 100000) : ∀ (d : Nat) (day c : Int) (k : Nat), day + d = to + 1 → 0 ≤ day → 0 ≤ c → c ≤ 200000 - d → d < k →
    impl_DaysCovered.l7 NN k ps to c day = some (c + cntD ps d day, 0) := by
  intro d
  induction d with
  | zero =>
    intro day c k h1 _ _ _ hk
    obtain ⟨k, rfl⟩ : ∃ j, k = j + 1 := ⟨k - 1, by omega⟩
    have q : ¬ day ≤ to := by omega
    simp only [impl_DaysCovered.l7, impl_DaysCovered.g7, q, and_self, and_true, true_and, decide_true, decide_false, if_true, if_false, mid_get, mid_set, mid_getn, mid_setn, bt_mid, Option.bind_some, Bool.not_true, Bool.not_false, Bool.false_eq_true, Bool.true_eq_false, beq_self_eq_true, bne_self_eq_false, Int.toNat_natCast, cntD, Int.add_zero]
  | succ d ih =>
    intro day c k h1 h0 hc1 hc2 hk
    obtain ⟨k, rfl⟩ : ∃ j, k = j + 1 := ⟨k - 1, by omega⟩
    have q : day ≤ to := by omega
    have w1 := w64 (n := day + 1) (by omega) (by omega)
    have w2 := w64 (n := c + 1) (by omega) (by omega)
    simp only [impl_DaysCovered.l7, impl_DaysCovered.g7, q, and_self, and_true, true_and, decide_true, decide_false, if_true, if_false, mid_get, mid_set, mid_getn, mid_setn, bt_mid, Option.bind_some, Bool.not_true, Bool.not_false, Bool.false_eq_true, Bool.true_eq_false, beq_self_eq_true, bne_self_eq_false, Int.toNat_natCast, impl_covers_day ps day hv hl (by omega), w1, w2, cntD]
    cases covB ps day
    · simp only [Bool.false_eq_true, if_false]
      rw [ih (day + 1) c k (by omega) (by omega) hc1 (by omega) (by omega)]
      simp
    · simp only [if_true]
      rw [ih (day + 1) (c + 1) k (by omega) (by omega) (by omega) (by omega) (by omega)]
      congr 2; omega
def everyL (n : Nat) : List Int := (List.range n).map fun (i : Nat) => (i : Int)
theorem every_len (n : Nat) : (everyL n).length = n := by simp [everyL]
theorem every_get {n i : Nat} (h : i < n) (z : Int) : (everyL n).getD i z = i := by
  rw [List.getD_eq_getElem?_getD, List.getElem?_eq_getElem (by rw [every_len]; exact h)]
  simp [everyL]
theorem every_any {α : Type} (P : α → Bool) (xs : List α) (z : α) : (everyL xs.length).any (fun i => P (xs.getD i.toNat z)) = xs.any P := by
  unfold everyL
  rw [List.any_map]
  have key : ∀ (ys p : List α), xs = p ++ ys → ((List.range' p.length ys.length).any fun i => P (xs.getD i z)) = ys.any P := by
    intro ys
    induction ys with
    | nil => intro p _; rfl
    | cons y ys ih =>
      intro p hp
      have := ih (p ++ [y]) (by rw [hp]; simp)
      rw [List.length_append, List.length_singleton] at this
      rw [List.length_cons, List.range'_succ, List.any_cons, List.any_cons, this, hp, mid_getn]
  have := key xs [] rfl
  rw [List.range_eq_range']
  exact this
theorem spec_every_l (n : Nat) (hn : n ≤ 1000000) : ∀ (d i k : Nat), i + d = n → d < k → spec_l30Every.l3 NN k n i (everyL i) = some (everyL n) := by
  intro d
  induction d with
  | zero =>
    intro i k h hk
    obtain ⟨k, rfl⟩ : ∃ j, k = j + 1 := ⟨k - 1, by omega⟩
    obtain rfl : i = n := by omega
    simp only [spec_l30Every.l3, spec_l30Every.g3, Int.lt_irrefl, and_self, and_true, true_and, decide_true, decide_false, if_true, if_false, mid_get, mid_set, mid_getn, mid_setn, bt_mid, Option.bind_some, Bool.not_true, Bool.not_false, Bool.false_eq_true, Bool.true_eq_false, beq_self_eq_true, bne_self_eq_false, Int.toNat_natCast]
  | succ d ih =>
    intro i k h hk
    obtain ⟨k, rfl⟩ : ∃ j, k = j + 1 := ⟨k - 1, by omega⟩
    have c1 : (i : Int) < (n : Int) := by omega
    have cw := w64 (n := (i : Int) + 1) (by omega) (by omega)
    have hr : (everyL i).length + [(i : Int)].length < room 8 := by rw [room8, every_len]; simp; omega
    have := ih (i + 1) k (by omega) (by omega)
    have e : everyL (i + 1) = everyL i ++ [(i : Int)] := by simp [everyL, List.range_succ]
    rw [e] at this
    simp only [spec_l30Every.l3, spec_l30Every.g3, c1, cw, hr, and_self, and_true, true_and, decide_true, decide_false, if_true, if_false, mid_get, mid_set, mid_getn, mid_setn, bt_mid, Option.bind_some, Bool.not_true, Bool.not_false, Bool.false_eq_true, Bool.true_eq_false, beq_self_eq_true, bne_self_eq_false, Int.toNat_natCast]
    exact this
theorem spec_l30Every_f (ps : List Prm) (h : ps.length ≤ 1000000) : spec_l30Every.f ps = some (everyL ps.length) :=
  spec_every_l ps.length h ps.length 0 NN (by omega) (NN_lt (by omega))
theorem spec_l30Holds_f (ps : List Prm) (is : List Int) (day : Int) (hi : ∀ i ∈ is, 0 ≤ i ∧ i < (ps.length : Int)) (hl : is.length ≤ 1000000) : spec_l30Holds.f ps is day = some (is.any fun i => inB day (ps.getD i.toNat (0, (0, (0, (0, ([], 0)))))).1 (ps.getD i.toNat (0, (0, (0, (0, ([], 0)))))).2.1) := by
  have := find_loop (E := fun i : Int => 0 ≤ i ∧ i < (ps.length : Int)) (fun i : Int => inB day (ps.getD i.toNat (0, (0, (0, (0, ([], 0)))))).1 (ps.getD i.toNat (0, (0, (0, (0, ([], 0)))))).2.1) (fun _ _ => some true) (fun _ => some false) (fun k xs i => spec_l30Holds.l2 NN k ps xs day i) ?_ ?_ is hi (by omega) NN (NN_lt (by omega))
  · refine this.trans ?_
    exact first_any _ _ _
  · intro k p
    simp [spec_l30Holds.l2, spec_l30Holds.g2]
  · intro k p x r hx c0 c1 c2 cw
    simp only [spec_l30Holds.l2, spec_l30Holds.g2, c0, c1, cw, hx.1, hx.2, and_self, and_true, true_and, decide_true, decide_false, if_true, if_false, mid_get, mid_set, mid_getn, mid_setn, bt_mid, Option.bind_some, Bool.not_true, Bool.not_false, Bool.false_eq_true, Bool.true_eq_false, beq_self_eq_true, bne_self_eq_false, Int.toNat_natCast, spec_l01In_f]
theorem spec_days_l (ps : List Prm) (to : Int) (hl : ps.length ≤ 1000000) (ht : to ≤ 100000) : ∀ (d : Nat) (day c : Int) (k : Nat), day + d = to + 1 → 0 ≤ day → 0 ≤ c → c ≤ 200000 - d → d < k →
    spec_DaysCovered.l7 NN k ps to c day (everyL ps.length) = some (c + cntD ps d day, 0) := by
  have hev : ∀ i ∈ everyL ps.length, 0 ≤ i ∧ i < (ps.length : Int) := fun i hi => by
    unfold everyL at hi
    obtain ⟨j, hj, rfl⟩ := List.mem_map.1 hi
    have := List.mem_range.1 hj
    omega
  intro d
  induction d with
  | zero =>
    intro day c k h1 _ _ _ hk
    obtain ⟨k, rfl⟩ : ∃ j, k = j + 1 := ⟨k - 1, by omega⟩
    have q : ¬ day ≤ to := by omega
    simp only [spec_DaysCovered.l7, spec_DaysCovered.g7, q, and_self, and_true, true_and, decide_true, decide_false, if_true, if_false, mid_get, mid_set, mid_getn, mid_setn, bt_mid, Option.bind_some, Bool.not_true, Bool.not_false, Bool.false_eq_true, Bool.true_eq_false, beq_self_eq_true, bne_self_eq_false, Int.toNat_natCast, cntD, Int.add_zero]
  | succ d ih =>
    intro day c k h1 h0 hc1 hc2 hk
    obtain ⟨k, rfl⟩ : ∃ j, k = j + 1 := ⟨k - 1, by omega⟩
    have q : day ≤ to := by omega
    have w1 := w64 (n := day + 1) (by omega) (by omega)
    have w2 := w64 (n := c + 1) (by omega) (by omega)
    have hh := spec_l30Holds_f ps (everyL ps.length) day hev (by rw [every_len]; exact hl)
    rw [every_any (fun p : Prm => inB day p.1 p.2.1) ps] at hh
    simp only [spec_DaysCovered.l7, spec_DaysCovered.g7, q, and_self, and_true, true_and, decide_true, decide_false, if_true, if_false, mid_get, mid_set, mid_getn, mid_setn, bt_mid, Option.bind_some, Bool.not_true, Bool.not_false, Bool.false_eq_true, Bool.true_eq_false, beq_self_eq_true, bne_self_eq_false, Int.toNat_natCast, hh, w1, w2, cntD]
    rw [show (ps.any fun p => inB day p.1 p.2.1) = covB ps day from rfl]
    cases covB ps day
    · simp only [Bool.false_eq_true, if_false]
      rw [ih (day + 1) c k (by omega) (by omega) hc1 (by omega) (by omega)]
      simp
    · simp only [if_true]
      rw [ih (day + 1) (c + 1) k (by omega) (by omega) (by omega) (by omega) (by omega)]
      congr 2; omega
def daysB (frm to : Int) : Bool := inB frm 0 100000 && inB to frm 100000
theorem impl_areDays_f (frm to : Int) : impl_areDays.f frm to = some (daysB frm to) := by
  unfold impl_areDays.f impl_areDays.fn impl_areDays.top daysB
  rw [impl_isDay_f, impl_isDay_f]
  unfold inB
  by_cases h1 : 0 ≤ frm <;> by_cases h2 : frm ≤ 100000 <;> by_cases h3 : 0 ≤ to <;> by_cases h4 : to ≤ 100000 <;> by_cases h5 : frm ≤ to <;> simp [h1, h2, h3, h4, h5] <;> omega
theorem spec_l30Days_f (ps : List Prm) (frm to : Int) (h : ps.length ≤ 1000000) (hk : ∀ p ∈ ps, p.2.2.2.2.1.length ≤ 140737488355328) : spec_l30Days.f ps frm to = some (if permsL ps = true then (if daysB frm to = true then 0 else 2) else 1) := by
  unfold spec_l30Days.f spec_l30Days.fn spec_l30Days.top daysB
  rw [spec_l30All_f ps h hk, spec_l01In_f, spec_l01In_f]
  cases permsL ps
  · rfl
  cases inB frm 0 100000
  · rfl
  cases inB to frm 100000 <;> rfl
theorem permsL_ok {ps : List Prm} (h : permsL ps = true) : ps.length ≤ 8 ∧ ∀ p ∈ ps, permB p = true := by
  unfold permsL at h
  simp only [Bool.and_eq_true, decide_eq_true_eq, List.all_eq_true] at h
  exact h
theorem daysB_iff {frm to : Int} (h : daysB frm to = true) : 0 ≤ frm ∧ frm ≤ to ∧ to ≤ 100000 := by
  unfold daysB at h
  simp only [Bool.and_eq_true, inB_iff] at h
  omega
def dcvR (ps : List Prm) (frm to : Int) : Int × Int := if permsL ps = true then (if daysB frm to = true then (cntD ps (to + 1 - frm).toNat frm, 0) else (0, 2)) else (0, 1)
theorem DaysCovered_both (ps : List Prm) (frm to : Int) (hp : Lm OkPermit ps) : spec_DaysCovered.f ps frm to = some (dcvR ps frm to) ∧ impl_DaysCovered.f ps frm to = some (dcvR ps frm to) := by
  have hk := perms_k hp
  unfold spec_DaysCovered.f spec_DaysCovered.fn spec_DaysCovered.top impl_DaysCovered.f impl_DaysCovered.fn impl_DaysCovered.top dcvR
  rw [spec_l30Days_f ps frm to hp.1 hk, impl_arePermits_f ps hp.1 hk, impl_areDays_f]
  cases h1 : permsL ps
  · exact ⟨rfl, rfl⟩
  cases h2 : daysB frm to
  · exact ⟨rfl, rfl⟩
  obtain ⟨v1, v2⟩ := permsL_ok h1
  have hd := daysB_iff h2
  have e1 := spec_days_l ps to (by omega) (by omega) (to + 1 - frm).toNat frm 0 NN (by omega) (by omega) (by omega) (by omega) (NN_lt (by omega))
  have e2 := impl_days_l ps to v2 (by omega) (by omega) (to + 1 - frm).toNat frm 0 NN (by omega) (by omega) (by omega) (by omega) (NN_lt (by omega))
  rw [Int.zero_add] at e1 e2
  simp only [Option.bind_some, Bool.not_true, Bool.false_eq_true, if_false, if_true, bne_self_eq_false, spec_l30Every_f ps hp.1, e1, e2, and_self]
theorem DaysCovered_core (ps : List Prm) (frm to : Int) (hp : Lm OkPermit ps) (_ : Rg .i64 frm) (_ : Rg .i64 to) : ∃ w, spec_DaysCovered.f ps frm to = some w ∧ impl_DaysCovered.f ps frm to = some w ∧ True :=
  ⟨_, (DaysCovered_both ps frm to hp).1, (DaysCovered_both ps frm to hp).2, trivial⟩
end Go.Pl

namespace Go.Pl
open Go.Ev
set_option linter.unusedVariables false
set_option linter.unusedSimpArgs false
theorem NN0 : 0 < NN := by have := NNb; omega
/-- all days are covered -/
def cvB (ps : List Prm) (frm to : Int) : Bool := decide (cntD ps (to + 1 - frm).toNat frm = ((to + 1 - frm).toNat : Int))
theorem cntD_full (ps : List Prm) : ∀ (d : Nat) (day : Int), cntD ps d day = (d : Int) ↔ ∀ e, day ≤ e → e < day + d → covB ps e = true := by
  intro d
  induction d with
  | zero => intro day; simp only [cntD]; exact ⟨fun _ e h1 h2 => by omega, fun _ => rfl⟩
  | succ d ih =>
    intro day
    have hb := cntD_bd ps d (day + 1)
    have i := ih (day + 1)
    simp only [cntD]
    constructor
    · intro h
      have hc : covB ps day = true := by
        cases q : covB ps day
        · rw [q] at h; simp at h; omega
        · rfl
      rw [hc] at h
      simp only [if_true] at h
      have h2 := i.1 (by omega)
      intro e h3 h4
      by_cases he : e = day
      · rw [he]; exact hc
      · exact h2 e (by omega) (by omega)
    · intro h
      have hc := h day (by omega) (by omega)
      rw [hc]
      simp only [if_true]
      have := i.2 (fun e h3 h4 => h e (by omega) (by omega))
      omega
theorem cvB_iff (ps : List Prm) (frm to : Int) : cvB ps frm to = true ↔ ∀ e, frm ≤ e → e ≤ to → covB ps e = true := by
  unfold cvB
  rw [decide_eq_true_eq, cntD_full]
  exact ⟨fun h e h1 h2 => h e h1 (by omega), fun h e h1 h2 => h e h1 (by omega)⟩
theorem next_cov (frm : Int) : ∀ (ps : List Prm) (nx : Int) (e : Int), frm ≤ e → e < ps.foldl (nextF frm) nx → e < nx ∨ covB ps e = true := by
  intro ps
  induction ps with
  | nil => intro nx e _ h; exact .inl h
  | cons p r ih =>
    intro nx e h1 h2
    rw [List.foldl_cons] at h2
    unfold covB
    rw [List.any_cons]
    rcases ih _ e h1 h2 with h | h
    · unfold nextF at h
      split at h
      · rename_i hp
        have hb := inB_iff.1 hp
        split at h
        · right
          rw [Bool.or_eq_true]; left
          exact inB_iff.2 (by omega)
        · exact .inl h
      · exact .inl h
    · right
      rw [Bool.or_eq_true]; right; exact h
theorem cvB_jump (ps : List Prm) (frm to : Int) (h : frm < ps.foldl (nextF frm) frm) : cvB ps frm to = cvB ps (ps.foldl (nextF frm) frm) to := by
  rw [Bool.eq_iff_iff, cvB_iff, cvB_iff]
  constructor
  · intro k e h1 h2; exact k e (by omega) h2
  · intro k e h1 h2
    by_cases he : e < ps.foldl (nextF frm) frm
    · rcases next_cov frm ps frm e h1 he with q | q
      · omega
      · exact q
    · exact k e (by omega) h2
theorem cvB_stop (ps : List Prm) (frm to : Int) (hv : ∀ p ∈ ps, permB p = true) (h0 : 0 ≤ frm ∧ frm ≤ to ∧ to ≤ 100000) (h : ps.foldl (nextF frm) frm = frm) : cvB ps frm to = false := by
  obtain ⟨_, _, h3, _⟩ := next_bd frm ps frm hv (by omega) (by omega)
  cases q : cvB ps frm to
  · rfl
  · have := h3 ((cvB_iff ps frm to).1 q frm (by omega) (by omega))
    omega
theorem cvB_none (ps : List Prm) (frm to : Int) (h : ¬ frm ≤ to) : cvB ps frm to = true := (cvB_iff ps frm to).2 fun e h1 h2 => by omega
theorem impl_covers_l (ps : List Prm) (to : Int) (hv : ∀ p ∈ ps, permB p = true) (hl : ps.length ≤ 1000000) (ht : to ≤ 100000) : ∀ (d : Nat) (frm : Int) (k : Nat), to + 1 - frm ≤ d → 0 ≤ frm → d < k → impl_covers.l1 NN k ps frm to = some (cvB ps frm to) := by
  intro d
  induction d with
  | zero =>
    intro frm k h1 h0 hk
    obtain ⟨k, rfl⟩ : ∃ j, k = j + 1 := ⟨k - 1, by omega⟩
    have q : ¬ frm ≤ to := by omega
    simp only [impl_covers.l1, impl_covers.g1, q, and_self, and_true, true_and, decide_true, decide_false, if_true, if_false, mid_get, mid_set, mid_getn, mid_setn, bt_mid, Option.bind_some, Bool.not_true, Bool.not_false, Bool.false_eq_true, Bool.true_eq_false, beq_self_eq_true, bne_self_eq_false, Int.toNat_natCast, cvB_none ps frm to q]
  | succ d ih =>
    intro frm k h1 h0 hk
    obtain ⟨k, rfl⟩ : ∃ j, k = j + 1 := ⟨k - 1, by omega⟩
    by_cases q : frm ≤ to
    · obtain ⟨n1, n2, _, _⟩ := next_bd frm ps frm hv (by omega) (by omega)
      simp only [impl_covers.l1, impl_covers.g1, q, and_self, and_true, true_and, decide_true, decide_false, if_true, if_false, mid_get, mid_set, mid_getn, mid_setn, bt_mid, Option.bind_some, Bool.not_true, Bool.not_false, Bool.false_eq_true, Bool.true_eq_false, beq_self_eq_true, bne_self_eq_false, Int.toNat_natCast]
      rw [impl_covers_in ps frm to _ hv hl (by omega)]
      by_cases e : ps.foldl (nextF frm) frm = frm
      · rw [if_pos e, cvB_stop ps frm to hv (by omega) e]
      · rw [if_neg e, ih _ k (by omega) (by omega) (by omega), ← cvB_jump ps frm to (by omega)]
    · simp only [impl_covers.l1, impl_covers.g1, q, and_self, and_true, true_and, decide_true, decide_false, if_true, if_false, mid_get, mid_set, mid_getn, mid_setn, bt_mid, Option.bind_some, Bool.not_true, Bool.not_false, Bool.false_eq_true, Bool.true_eq_false, beq_self_eq_true, bne_self_eq_false, Int.toNat_natCast, cvB_none ps frm to q]
theorem impl_covers_f (ps : List Prm) (frm to : Int) (hv : ∀ p ∈ ps, permB p = true) (hl : ps.length ≤ 1000000) (h : 0 ≤ frm ∧ frm ≤ to ∧ to ≤ 100000) : impl_covers.f ps frm to = some (cvB ps frm to) := by
  unfold impl_covers.f impl_covers.fn impl_covers.top
  exact impl_covers_l ps to hv hl h.2.2 (to + 1 - frm).toNat frm NN (by omega) h.1 (NN_lt (by omega))
/-- the permits of a list of numbers -/
def chs (ps : List Prm) (l : List Int) : List Prm := l.map fun i => ps.getD i.toNat (0, (0, (0, (0, ([], 0)))))
theorem chs_ok {ps : List Prm} {l : List Int} (hi : ∀ i ∈ l, 0 ≤ i ∧ i < (ps.length : Int)) {P : Prm → Prop} (hv : ∀ p ∈ ps, P p) : ∀ p ∈ chs ps l, P p := fun p hp => by
  obtain ⟨i, h1, rfl⟩ := List.mem_map.1 hp
  have h2 := hi i h1
  refine hv _ ?_
  rw [List.getD_eq_getElem?_getD, List.getElem?_eq_getElem (show i.toNat < ps.length by omega)]; exact List.getElem_mem _
def lastF (day : Int) (la : Int) (p : Prm) : Int := if inB day p.1 p.2.1 = true then (if p.2.1 > la then p.2.1 else la) else la
theorem last_next (day : Int) : ∀ (ps : List Prm) (la : Int), ps.foldl (lastF day) la + 1 = ps.foldl (nextF day) (la + 1) := by
  intro ps
  induction ps with
  | nil => intro la; rfl
  | cons p r ih =>
    intro la
    rw [List.foldl_cons, List.foldl_cons, ih]
    congr 1
    unfold lastF nextF
    split
    · split <;> split <;> omega
    · rfl
theorem spec_cover_in (ps : List Prm) (l : List Int) (day to : Int) (L : List Prm → List Int → Int → Int → Option Bool) (hv : ∀ p ∈ ps, permB p = true) (hi : ∀ i ∈ l, 0 ≤ i ∧ i < (ps.length : Int)) (hl : l.length ≤ 1000000) (hf : 0 ≤ day ∧ day ≤ 100000) :
    spec_l30Cover.l5 NN L NN ps l to day (day - 1) 0 = if (chs ps l).foldl (nextF day) day = day then some false else L ps l to ((chs ps l).foldl (nextF day) day) := by
  have := (fold_fix (E := fun i : Int => 0 ≤ i ∧ i < (ps.length : Int)) (fun _ la => day - 1 ≤ la ∧ la ≤ 100000) (fun _ la i => lastF day la (ps.getD i.toNat (0, (0, (0, (0, ([], 0))))))) (fun la => if la + 1 = day then some false else L ps l to (la + 1)) (fun k i la => spec_l30Cover.l5 NN L k ps l to day la i) l ?_ ?_ (day - 1) hi (by omega) (by omega) NN (NN_lt (by omega))).2
  · rw [foldi_foldl] at this
    have e : l.foldl (fun la i => lastF day la (ps.getD i.toNat (0, (0, (0, (0, ([], 0))))))) (day - 1) = (chs ps l).foldl (lastF day) (day - 1) := by
      unfold chs; rw [List.foldl_map]
    rw [e, last_next day (chs ps l) (day - 1), show day - 1 + 1 = day by omega] at this
    exact this
  · intro k la hI
    simp only [spec_l30Cover.l5, spec_l30Cover.g5, Int.lt_irrefl, and_self, and_true, true_and, decide_true, decide_false, if_true, if_false, mid_get, mid_set, mid_getn, mid_setn, bt_mid, Option.bind_some, Bool.not_true, Bool.not_false, Bool.false_eq_true, Bool.true_eq_false, beq_self_eq_true, bne_self_eq_false, Int.toNat_natCast]
    have w1 := w64 (n := la + 1) (by omega) (by omega)
    by_cases h : la + 1 = day
    · have h2 : la < day := by omega
      simp [h, h2]
    · have h2 : ¬ la < day := by omega
      simp [h, h2, w1]
  · intro k q i r la hx hp hI c0 c1 c2 cw g
    have hpb : permB (ps.getD i.toNat (0, (0, (0, (0, ([], 0)))))) = true := hv _ (by
      rw [List.getD_eq_getElem?_getD, List.getElem?_eq_getElem (show i.toNat < ps.length by omega)]; exact List.getElem_mem _)
    have hb := permB_iff hpb
    refine ⟨by unfold lastF; split <;> (try split) <;> omega, ?_⟩
    simp only [spec_l30Cover.l5, spec_l30Cover.g5, c0, c1, cw, and_self, and_true, true_and, decide_true, decide_false, if_true, if_false, mid_get, mid_set, mid_getn, mid_setn, bt_mid, Option.bind_some, Bool.not_true, Bool.not_false, Bool.false_eq_true, Bool.true_eq_false, beq_self_eq_true, bne_self_eq_false, Int.toNat_natCast, g, hp.1, hp.2, spec_l01In_f]
    unfold lastF
    cases inB day (ps.getD i.toNat (0, (0, (0, (0, ([], 0)))))).1 (ps.getD i.toNat (0, (0, (0, (0, ([], 0)))))).2.1 <;> simp
theorem spec_cover_l (ps : List Prm) (l : List Int) (to : Int) (hv : ∀ p ∈ ps, permB p = true) (hi : ∀ i ∈ l, 0 ≤ i ∧ i < (ps.length : Int)) (hl : l.length ≤ 1000000) (ht : to ≤ 100000) : ∀ (d : Nat) (frm : Int) (k : Nat), to + 1 - frm ≤ d → 0 ≤ frm → d < k → spec_l30Cover.l2 NN k ps l to frm = some (cvB (chs ps l) frm to) := by
  have hv2 := chs_ok hi hv
  intro d
  induction d with
  | zero =>
    intro frm k h1 h0 hk
    obtain ⟨k, rfl⟩ : ∃ j, k = j + 1 := ⟨k - 1, by omega⟩
    have q : ¬ frm ≤ to := by omega
    simp only [spec_l30Cover.l2, spec_l30Cover.g2, q, and_self, and_true, true_and, decide_true, decide_false, if_true, if_false, mid_get, mid_set, mid_getn, mid_setn, bt_mid, Option.bind_some, Bool.not_true, Bool.not_false, Bool.false_eq_true, Bool.true_eq_false, beq_self_eq_true, bne_self_eq_false, Int.toNat_natCast, cvB_none _ frm to q]
  | succ d ih =>
    intro frm k h1 h0 hk
    obtain ⟨k, rfl⟩ : ∃ j, k = j + 1 := ⟨k - 1, by omega⟩
    by_cases q : frm ≤ to
    · obtain ⟨n1, n2, _, _⟩ := next_bd frm (chs ps l) frm hv2 (by omega) (by omega)
      have w := w64 (n := frm - 1) (by omega) (by omega)
      simp only [spec_l30Cover.l2, spec_l30Cover.g2, q, and_self, and_true, true_and, decide_true, decide_false, if_true, if_false, mid_get, mid_set, mid_getn, mid_setn, bt_mid, Option.bind_some, Bool.not_true, Bool.not_false, Bool.false_eq_true, Bool.true_eq_false, beq_self_eq_true, bne_self_eq_false, Int.toNat_natCast, w]
      rw [spec_cover_in ps l frm to _ hv hi hl (by omega)]
      by_cases e : (chs ps l).foldl (nextF frm) frm = frm
      · rw [if_pos e, cvB_stop (chs ps l) frm to hv2 (by omega) e]
      · rw [if_neg e, ih _ k (by omega) (by omega) (by omega), ← cvB_jump (chs ps l) frm to (by omega)]
    · simp only [spec_l30Cover.l2, spec_l30Cover.g2, q, and_self, and_true, true_and, decide_true, decide_false, if_true, if_false, mid_get, mid_set, mid_getn, mid_setn, bt_mid, Option.bind_some, Bool.not_true, Bool.not_false, Bool.false_eq_true, Bool.true_eq_false, beq_self_eq_true, bne_self_eq_false, Int.toNat_natCast, cvB_none _ frm to q]
theorem spec_l30Cover_f (ps : List Prm) (l : List Int) (frm to : Int) (hv : ∀ p ∈ ps, permB p = true) (hi : ∀ i ∈ l, 0 ≤ i ∧ i < (ps.length : Int)) (hl : l.length ≤ 1000000) (h : 0 ≤ frm ∧ frm ≤ to ∧ to ≤ 100000) : spec_l30Cover.f ps l frm to = some (cvB (chs ps l) frm to) := by
  unfold spec_l30Cover.f spec_l30Cover.fn spec_l30Cover.top
  exact spec_cover_l ps l to hv hi hl h.2.2 (to + 1 - frm).toNat frm NN (by omega) h.1 (NN_lt (by omega))
/-- the rising lists of k numbers from f to below n, in their order -/
def lst (n : Nat) : Nat → Nat → List (List Int)
  | 0, _ => [[]]
  | k + 1, f => (List.range' f (n - f)).flatMap fun i => (lst n k (i + 1)).map ((i : Int) :: ·)
theorem flat_len {α : Type} (g : Nat → List α) (M : Nat) : ∀ (is : List Nat), (∀ i ∈ is, (g i).length ≤ M) → (is.flatMap g).length ≤ is.length * M := by
  intro is
  induction is with
  | nil => intro _; simp
  | cons i r ih =>
    intro h
    have h1 := h i (by simp)
    have h2 := ih (fun j hj => h j (by simp [hj]))
    rw [List.flatMap_cons, List.length_append, List.length_cons, Nat.succ_mul]
    omega
theorem lst_len (n : Nat) (hn : n ≤ 8) : ∀ (k f : Nat), (lst n k f).length ≤ 8 ^ k := by
  intro k
  induction k with
  | zero => intro f; simp [lst]
  | succ k ih =>
    intro f
    simp only [lst]
    refine Nat.le_trans (flat_len _ (8 ^ k) _ (fun i _ => by simpa using ih (i + 1))) ?_
    rw [List.length_range', Nat.pow_succ, Nat.mul_comm (8 ^ k) 8]
    exact Nat.mul_le_mul_right _ (by omega)
theorem mem_lst (n : Nat) : ∀ (k f : Nat) (l : List Int), l ∈ lst n k f ↔ l.length = k ∧ l.Pairwise (· < ·) ∧ ∀ x ∈ l, (f : Int) ≤ x ∧ x < (n : Int) := by
  intro k
  induction k with
  | zero =>
    intro f l
    simp only [lst, List.mem_singleton]
    constructor
    · rintro rfl; simp
    · intro h; exact List.length_eq_zero_iff.1 h.1
  | succ k ih =>
    intro f l
    simp only [lst, List.mem_flatMap, List.mem_map, List.mem_range'_1]
    constructor
    · rintro ⟨i, ⟨h1, h2⟩, r, h3, rfl⟩
      obtain ⟨q1, q2, q3⟩ := (ih (i + 1) r).1 h3
      refine ⟨by simp [q1], List.pairwise_cons.2 ⟨fun x hx => by have := q3 x hx; omega, q2⟩, fun x hx => ?_⟩
      rcases List.mem_cons.1 hx with rfl | hx
      · omega
      · have := q3 x hx; omega
    · rintro ⟨h1, h2, h3⟩
      cases l with
      | nil => simp at h1
      | cons a r =>
        obtain ⟨p1, p2⟩ := List.pairwise_cons.1 h2
        have ha := h3 a (by simp)
        refine ⟨a.toNat, by omega, r, (ih _ r).2 ⟨by simpa using h1, p2, fun x hx => ?_⟩, by rw [show ((a.toNat : Nat) : Int) = a by omega]⟩
        have := p1 x hx
        have := h3 x (by simp [hx])
        omega
theorem fold_snoc {α β : Type} (g : α → β) : ∀ (R : List α) (out : List β), R.foldl (fun o r => o ++ [g r]) out = out ++ R.map g := by
  intro R
  induction R with
  | nil => intro out; simp
  | cons a r ih => intro out; rw [List.foldl_cons, ih]; simp
theorem listsOf_in (S : Int → Int → Int → Option (List (List Int))) (n more : Int) (i : Nat) (L5 : Int → Int → Int → List (List Int) → Option (List (List Int))) (R out : List (List Int)) (hR : ∀ r ∈ R, r.length ≤ 100) (hl : out.length + R.length ≤ 1000000000) :
    impl_listsOf.l8 S NN L5 NN n more i R.length 0 out R = L5 n more (IntKind.i64.wrap ((i : Int) + 1)) (out ++ R.map ((i : Int) :: ·)) := by
  have := (fold_fix (E := fun r : List Int => r.length ≤ 100) (fun p (o : List (List Int)) => o.length = out.length + p.length) (fun _ o r => o ++ [(i : Int) :: r]) (fun o => L5 n more (IntKind.i64.wrap ((i : Int) + 1)) o) (fun k j o => impl_listsOf.l8 S NN L5 k n more i R.length j o R) R ?_ ?_ out hR (by simp) (by omega) NN (NN_lt (by omega))).2
  · rw [foldi_foldl, fold_snoc] at this
    exact this
  · intro k o _
    simp only [impl_listsOf.l8, impl_listsOf.g8, Int.lt_irrefl, and_self, and_true, true_and, decide_true, decide_false, if_true, if_false, mid_get, mid_set, mid_getn, mid_setn, bt_mid, Option.bind_some, Bool.not_true, Bool.not_false, Bool.false_eq_true, Bool.true_eq_false, beq_self_eq_true, bne_self_eq_false, Int.toNat_natCast]
  · intro k p a r o hx ha hI c0 c1 c2 cw g
    have hlr : p.length < R.length := by rw [hx]; simp
    refine ⟨by simp [hI]; omega, ?_⟩
    simp only [impl_listsOf.l8, impl_listsOf.g8, c0, c1, and_self, and_true, true_and, decide_true, decide_false, if_true, if_false, mid_get, mid_set, mid_getn, mid_setn, bt_mid, Option.bind_some, Bool.not_true, Bool.not_false, Bool.false_eq_true, Bool.true_eq_false, beq_self_eq_true, bne_self_eq_false, Int.toNat_natCast, g]
    rw [impl_listsOf.c1000010 S NN0]
    unfold impl_listsOf.g1000010
    rw [if_pos (by rw [room8]; simp; omega), if_pos (by rw [room24]; simp; omega), cw]
    rfl
theorem len_mem {n k f : Nat} {l : List Int} (h : l ∈ lst n k f) : l.length = k := ((mem_lst n k f l).1 h).1
theorem pow8 {k : Nat} (h : k ≤ 8) : 8 ^ k ≤ 16777216 := Nat.le_trans (Nat.pow_le_pow_right (by omega) h) (by decide)
theorem impl_listsOf_rc (n : Nat) (hn : n ≤ 8) : ∀ (more : Nat), more ≤ 8 → ∀ (j f : Nat), more < j → f ≤ n → impl_listsOf.rc j n f more = some (lst n more f) := by
  intro more
  induction more with
  | zero =>
    intro _ j f hj _
    obtain ⟨j, rfl⟩ : ∃ i, j = i + 1 := ⟨j - 1, by omega⟩
    simp [impl_listsOf.rc, impl_listsOf.fn, impl_listsOf.top, lst]
  | succ more ih =>
    intro hm j f hj hf
    obtain ⟨j, rfl⟩ : ∃ i, j = i + 1 := ⟨j - 1, by omega⟩
    have w := w64 (n := ((more + 1 : Nat) : Int) - 1) (by omega) (by omega)
    have key : ∀ (d i k : Nat) (out : List (List Int)), i + d = n → d < k → out.length + d * 8 ^ more ≤ 500000000 → impl_listsOf.l5 (impl_listsOf.rc j) NN k n ((more + 1 : Nat) : Int) i out = some (out ++ (List.range' i d).flatMap fun i => (lst n more (i + 1)).map ((i : Int) :: ·)) := by
      intro d
      induction d with
      | zero =>
        intro i k out h1 hk _
        obtain ⟨k, rfl⟩ : ∃ j, k = j + 1 := ⟨k - 1, by omega⟩
        have q : ¬ (i : Int) < (n : Int) := by omega
        simp only [impl_listsOf.l5, impl_listsOf.g5, q, and_self, and_true, true_and, decide_true, decide_false, if_true, if_false, mid_get, mid_set, mid_getn, mid_setn, bt_mid, Option.bind_some, Bool.not_true, Bool.not_false, Bool.false_eq_true, Bool.true_eq_false, beq_self_eq_true, bne_self_eq_false, Int.toNat_natCast, List.range'_zero, List.flatMap_nil, List.append_nil]
      | succ d ihd =>
        intro i k out h1 hk hl
        obtain ⟨k, rfl⟩ : ∃ j, k = j + 1 := ⟨k - 1, by omega⟩
        have q : (i : Int) < (n : Int) := by omega
        have w1 := w64 (n := (i : Int) + 1) (by omega) (by omega)
        have hs := ih (by omega) j (i + 1) (by omega) (by omega)
        have hll := lst_len n hn more (i + 1)
        rw [show ((i + 1 : Nat) : Int) = (i : Int) + 1 by omega] at hs
        rw [Nat.succ_mul] at hl
        simp only [impl_listsOf.l5, impl_listsOf.g5, q, and_self, and_true, true_and, decide_true, decide_false, if_true, if_false, mid_get, mid_set, mid_getn, mid_setn, bt_mid, Option.bind_some, Bool.not_true, Bool.not_false, Bool.false_eq_true, Bool.true_eq_false, beq_self_eq_true, bne_self_eq_false, Int.toNat_natCast, w1]
        rw [show IntKind.i64.wrap (((more + 1 : Nat) : Int) - 1) = (more : Int) by rw [w]; omega, hs]
        simp only [Option.bind_some]
        rw [listsOf_in (impl_listsOf.rc j) n _ i _ _ _ (fun r hr => by rw [len_mem hr]; omega) (by omega), w1]
        have := ihd (i + 1) k (out ++ (lst n more (i + 1)).map ((i : Int) :: ·)) (by omega) (by omega) (by simp; omega)
        rw [show ((i + 1 : Nat) : Int) = (i : Int) + 1 by omega] at this
        rw [this, List.range'_succ, List.flatMap_cons, List.append_assoc]
    have hp := pow8 (show more ≤ 8 by omega)
    have := key (n - f) f NN [] (by omega) (NN_lt (by omega)) (by
      have : (n - f) * 8 ^ more ≤ 8 * 16777216 := Nat.mul_le_mul (by omega) hp
      simp; omega)
    have q : (((more + 1 : Nat) : Int) == 0) = false := by rw [beq_eq_false_iff_ne]; omega
    simp only [impl_listsOf.rc, impl_listsOf.fn, impl_listsOf.top, q, Bool.false_eq_true, if_false, lst]
    rw [this, List.nil_append]
theorem impl_listsOf_f (n : Nat) (hn : n ≤ 8) (more : Nat) (hm : more ≤ 8) : impl_listsOf.f n 0 more = some (lst n more 0) := impl_listsOf_rc n hn more hm NN 0 (NN_lt (by omega)) (by omega)
theorem own_f (xs : List Int) (h : xs.length ≤ 1000000) : spec_l01Own.f xs = some xs := by
  unfold spec_l01Own.f spec_l01Own.fn spec_l01Own.top
  rw [if_pos (by rw [room8]; simp; omega), List.nil_append]
theorem spec_lists_rc (n : Nat) (hn : n ≤ 8) : ∀ (more : Nat), more ≤ 8 → ∀ (j f : Nat) (bg : List Int), more < j → f ≤ n → bg.length ≤ 1000 - more → spec_l19Lists.rc j n f more bg = some ((lst n more f).map (bg ++ ·)) := by
  intro more
  induction more with
  | zero =>
    intro _ j f bg hj _ _
    obtain ⟨j, rfl⟩ : ∃ i, j = i + 1 := ⟨j - 1, by omega⟩
    simp [spec_l19Lists.rc, spec_l19Lists.fn, spec_l19Lists.top, lst]
  | succ more ih =>
    intro hm j f bg hj hf hbg
    obtain ⟨j, rfl⟩ : ∃ i, j = i + 1 := ⟨j - 1, by omega⟩
    have w := w64 (n := ((more + 1 : Nat) : Int) - 1) (by omega) (by omega)
    have key : ∀ (d i k : Nat) (out : List (List Int)), i + d = n → d < k → out.length + d * 8 ^ more ≤ 500000000 → spec_l19Lists.l5 (spec_l19Lists.rc j) NN k n ((more + 1 : Nat) : Int) bg i out = some (out ++ ((List.range' i d).flatMap fun i => (lst n more (i + 1)).map ((i : Int) :: ·)).map (bg ++ ·)) := by
      intro d
      induction d with
      | zero =>
        intro i k out h1 hk _
        obtain ⟨k, rfl⟩ : ∃ j, k = j + 1 := ⟨k - 1, by omega⟩
        have q : ¬ (i : Int) < (n : Int) := by omega
        simp only [spec_l19Lists.l5, spec_l19Lists.g5, q, and_self, and_true, true_and, decide_true, decide_false, if_true, if_false, mid_get, mid_set, mid_getn, mid_setn, bt_mid, Option.bind_some, Bool.not_true, Bool.not_false, Bool.false_eq_true, Bool.true_eq_false, beq_self_eq_true, bne_self_eq_false, Int.toNat_natCast, List.range'_zero, List.flatMap_nil, List.map_nil, List.append_nil]
      | succ d ihd =>
        intro i k out h1 hk hl
        obtain ⟨k, rfl⟩ : ∃ j, k = j + 1 := ⟨k - 1, by omega⟩
        have q : (i : Int) < (n : Int) := by omega
        have w1 := w64 (n := (i : Int) + 1) (by omega) (by omega)
        have hs := ih (by omega) j (i + 1) (bg ++ [(i : Int)]) (by omega) (by omega) (by simp; omega)
        have hll := lst_len n hn more (i + 1)
        have hp := pow8 (show more ≤ 8 by omega)
        rw [show ((i + 1 : Nat) : Int) = (i : Int) + 1 by omega] at hs
        rw [Nat.succ_mul] at hl
        simp only [spec_l19Lists.l5, spec_l19Lists.g5, q, and_self, and_true, true_and, decide_true, decide_false, if_true, if_false, mid_get, mid_set, mid_getn, mid_setn, bt_mid, Option.bind_some, Bool.not_true, Bool.not_false, Bool.false_eq_true, Bool.true_eq_false, beq_self_eq_true, bne_self_eq_false, Int.toNat_natCast, w1]
        rw [own_f bg (by omega)]
        simp only [Option.bind_some]
        rw [if_pos (by rw [room8]; simp; omega), show IntKind.i64.wrap (((more + 1 : Nat) : Int) - 1) = (more : Int) by rw [w]; omega, hs]
        simp only [Option.bind_some]
        rw [if_pos (by rw [room24]; simp; omega)]
        have := ihd (i + 1) k (out ++ (lst n more (i + 1)).map ((bg ++ [(i : Int)]) ++ ·)) (by omega) (by omega) (by simp; omega)
        rw [show ((i + 1 : Nat) : Int) = (i : Int) + 1 by omega] at this
        rw [this, List.range'_succ, List.flatMap_cons, List.map_append, List.map_map, List.append_assoc]
        simp
    have hp := pow8 (show more ≤ 8 by omega)
    have := key (n - f) f NN [] (by omega) (NN_lt (by omega)) (by
      have : (n - f) * 8 ^ more ≤ 8 * 16777216 := Nat.mul_le_mul (by omega) hp
      simp; omega)
    have q : (((more + 1 : Nat) : Int) == 0) = false := by rw [beq_eq_false_iff_ne]; omega
    simp only [spec_l19Lists.rc, spec_l19Lists.fn, spec_l19Lists.top, q, Bool.false_eq_true, if_false, lst]
    rw [this, List.nil_append]
theorem spec_l19Lists_f (n : Nat) (hn : n ≤ 8) (more : Nat) (hm : more ≤ 8) : spec_l19Lists.f n 0 more [] = some (lst n more 0) := by
  have := spec_lists_rc n hn more hm NN 0 [] (NN_lt (by omega)) (by omega) (by simp)
  rw [show (lst n more 0).map (([] : List Int) ++ ·) = lst n more 0 by simp] at this
  exact this
/-- the first list that covers, shortest first -/
def fewL (ps : List Prm) (frm to : Int) : Nat → Nat → List Int × Int
  | 0, _ => ([], 4)
  | d + 1, k => (firstOf (fun l => cvB (chs ps l) frm to) 0 (lst ps.length k 0)).elim (fewL ps frm to d (k + 1)) (fun x => (x.2, 0))
def fewR (ps : List Prm) (frm to : Int) : List Int × Int := if permsL ps = true then (if daysB frm to = true then fewL ps frm to ps.length 1 else ([], 2)) else ([], 1)
theorem impl_few_in (ps : List Prm) (frm to more : Int) (L6 : List Prm → Int → Int → Int → Option (List Int × Int)) (L9 : List Prm → Int → Int → Int → Int → Int → List (List Int) → Option (List Int × Int)) (l : List Int) (v31 v32 : Int) (v30 : List (List Int))
    (hv : ∀ p ∈ ps, permB p = true) (hi : ∀ i ∈ l, 0 ≤ i ∧ i < (ps.length : Int)) (hl : l.length ≤ 1000) (h : 0 ≤ frm ∧ frm ≤ to ∧ to ≤ 100000) :
    impl_FewestPermits.l13 NN L6 L9 NN ps frm to more l v31 v32 l l.length 0 [] v30 = if cvB (chs ps l) frm to = true then some (l, 0) else L9 ps frm to more v31 (IntKind.i64.wrap (v32 + 1)) v30 := by
  have := (fold_fix (E := fun i : Int => 0 ≤ i ∧ i < (ps.length : Int)) (fun p (o : List Prm) => o = chs ps p) (fun _ o i => o ++ [ps.getD i.toNat (0, (0, (0, (0, ([], 0)))))]) (fun o => if cvB o frm to = true then some (l, 0) else L9 ps frm to more v31 (IntKind.i64.wrap (v32 + 1)) v30) (fun k j o => impl_FewestPermits.l13 NN L6 L9 k ps frm to more l v31 v32 l l.length j o v30) l ?_ ?_ [] hi rfl (by omega) NN (NN_lt (by omega))).2
  · rw [foldi_foldl, fold_snoc, List.nil_append] at this
    exact this
  · intro k o hI
    simp only [impl_FewestPermits.l13, impl_FewestPermits.g13, Int.lt_irrefl, and_self, and_true, true_and, decide_true, decide_false, if_true, if_false, mid_get, mid_set, mid_getn, mid_setn, bt_mid, Option.bind_some, Bool.not_true, Bool.not_false, Bool.false_eq_true, Bool.true_eq_false, beq_self_eq_true, bne_self_eq_false, Int.toNat_natCast, hI]
    rw [impl_covers_f (chs ps l) frm to (chs_ok hi hv) (by unfold chs; rw [List.length_map]; omega) h]
    rfl
  · intro k p a r o hx ha hI c0 c1 c2 cw g
    have hlr : p.length < l.length := by rw [hx]; simp
    refine ⟨by rw [hI]; simp [chs], ?_⟩
    simp only [impl_FewestPermits.l13, impl_FewestPermits.g13, c0, c1, cw, and_self, and_true, true_and, decide_true, decide_false, if_true, if_false, mid_get, mid_set, mid_getn, mid_setn, bt_mid, Option.bind_some, Bool.not_true, Bool.not_false, Bool.false_eq_true, Bool.true_eq_false, beq_self_eq_true, bne_self_eq_false, Int.toNat_natCast, g, ha.1, ha.2]
    rw [if_pos (by rw [hI, show room 64 = 2199023255552 by decide]; simp [chs]; omega)]
theorem few_lists {n k : Nat} {l : List Int} (h : l ∈ lst n k 0) : ∀ i ∈ l, 0 ≤ i ∧ i < (n : Int) := fun i hi => by
  have := ((mem_lst n k 0 l).1 h).2.2 i hi
  omega
theorem impl_few_l (ps : List Prm) (frm to : Int) (hv : ∀ p ∈ ps, permB p = true) (hn : ps.length ≤ 8) (h : 0 ≤ frm ∧ frm ≤ to ∧ to ≤ 100000) : ∀ (d m k : Nat), m + d = ps.length + 1 → d < k → impl_FewestPermits.l6 NN k ps frm to m = some (fewL ps frm to d m) := by
  intro d
  induction d with
  | zero =>
    intro m k h1 hk
    obtain ⟨k, rfl⟩ : ∃ j, k = j + 1 := ⟨k - 1, by omega⟩
    have q : ¬ (m : Int) ≤ (ps.length : Int) := by omega
    simp only [impl_FewestPermits.l6, impl_FewestPermits.g6, q, and_self, and_true, true_and, decide_true, decide_false, if_true, if_false, mid_get, mid_set, mid_getn, mid_setn, bt_mid, Option.bind_some, Bool.not_true, Bool.not_false, Bool.false_eq_true, Bool.true_eq_false, beq_self_eq_true, bne_self_eq_false, Int.toNat_natCast, fewL]
  | succ d ih =>
    intro m k h1 hk
    obtain ⟨k, rfl⟩ : ∃ j, k = j + 1 := ⟨k - 1, by omega⟩
    have q : (m : Int) ≤ (ps.length : Int) := by omega
    have w1 := w64 (n := (m : Int) + 1) (by omega) (by omega)
    have hll := lst_len ps.length hn m 0
    have hp := pow8 (show m ≤ 8 by omega)
    simp only [impl_FewestPermits.l6, impl_FewestPermits.g6, q, and_self, and_true, true_and, decide_true, decide_false, if_true, if_false, mid_get, mid_set, mid_getn, mid_setn, bt_mid, Option.bind_some, Bool.not_true, Bool.not_false, Bool.false_eq_true, Bool.true_eq_false, beq_self_eq_true, bne_self_eq_false, Int.toNat_natCast, fewL]
    rw [impl_listsOf_f ps.length hn m (by omega)]
    simp only [Option.bind_some]
    have := find_loop (E := fun l : List Int => l.length ≤ 1000 ∧ ∀ i ∈ l, 0 ≤ i ∧ i < (ps.length : Int)) (fun l => cvB (chs ps l) frm to) (fun _ l => some (l, (0 : Int))) (fun _ => impl_FewestPermits.l6 NN k ps frm to (IntKind.i64.wrap ((m : Int) + 1))) (fun j xs i => impl_FewestPermits.l9 NN (impl_FewestPermits.l6 NN k) j ps frm to m xs.length i xs) ?_ ?_ (lst ps.length m 0) (fun l hl => ⟨by rw [len_mem hl]; omega, few_lists hl⟩) (by omega) NN (NN_lt (by omega))
    · rw [this, w1]
      have e := ih (m + 1) k (by omega) (by omega)
      rw [show ((m + 1 : Nat) : Int) = (m : Int) + 1 by omega] at e
      cases firstOf (fun l => cvB (chs ps l) frm to) 0 (lst ps.length m 0) with
      | none => exact e
      | some x => rfl
    · intro j p
      simp only [impl_FewestPermits.l9, impl_FewestPermits.g9, Int.lt_irrefl, and_self, and_true, true_and, decide_true, decide_false, if_true, if_false, mid_get, mid_set, mid_getn, mid_setn, bt_mid, Option.bind_some, Bool.not_true, Bool.not_false, Bool.false_eq_true, Bool.true_eq_false, beq_self_eq_true, bne_self_eq_false, Int.toNat_natCast]
    · intro j p l r hE c0 c1 c2 cw
      simp only [impl_FewestPermits.l9, impl_FewestPermits.g9, c0, c1, and_self, and_true, true_and, decide_true, decide_false, if_true, if_false, mid_get, mid_set, mid_getn, mid_setn, bt_mid, Option.bind_some, Bool.not_true, Bool.not_false, Bool.false_eq_true, Bool.true_eq_false, beq_self_eq_true, bne_self_eq_false, Int.toNat_natCast]
      rw [impl_few_in ps frm to m _ _ l _ _ _ hv hE.2 hE.1 h, cw]
theorem spec_few_l (ps : List Prm) (frm to : Int) (hv : ∀ p ∈ ps, permB p = true) (hn : ps.length ≤ 8) (h : 0 ≤ frm ∧ frm ≤ to ∧ to ≤ 100000) : ∀ (d m k : Nat), m + d = ps.length + 1 → d < k → spec_FewestPermits.l6 NN k ps frm to ps.length m = some (fewL ps frm to d m) := by
  intro d
  induction d with
  | zero =>
    intro m k h1 hk
    obtain ⟨k, rfl⟩ : ∃ j, k = j + 1 := ⟨k - 1, by omega⟩
    have q : ¬ (m : Int) ≤ (ps.length : Int) := by omega
    simp only [spec_FewestPermits.l6, spec_FewestPermits.g6, q, and_self, and_true, true_and, decide_true, decide_false, if_true, if_false, mid_get, mid_set, mid_getn, mid_setn, bt_mid, Option.bind_some, Bool.not_true, Bool.not_false, Bool.false_eq_true, Bool.true_eq_false, beq_self_eq_true, bne_self_eq_false, Int.toNat_natCast, fewL]
  | succ d ih =>
    intro m k h1 hk
    obtain ⟨k, rfl⟩ : ∃ j, k = j + 1 := ⟨k - 1, by omega⟩
    have q : (m : Int) ≤ (ps.length : Int) := by omega
    have w1 := w64 (n := (m : Int) + 1) (by omega) (by omega)
    have hll := lst_len ps.length hn m 0
    have hp := pow8 (show m ≤ 8 by omega)
    simp only [spec_FewestPermits.l6, spec_FewestPermits.g6, q, and_self, and_true, true_and, decide_true, decide_false, if_true, if_false, mid_get, mid_set, mid_getn, mid_setn, bt_mid, Option.bind_some, Bool.not_true, Bool.not_false, Bool.false_eq_true, Bool.true_eq_false, beq_self_eq_true, bne_self_eq_false, Int.toNat_natCast, fewL]
    rw [spec_l19Lists_f ps.length hn m (by omega)]
    simp only [Option.bind_some]
    have := find_loop (E := fun l : List Int => l.length ≤ 1000 ∧ ∀ i ∈ l, 0 ≤ i ∧ i < (ps.length : Int)) (fun l => cvB (chs ps l) frm to) (fun _ l => some (l, (0 : Int))) (fun _ => spec_FewestPermits.l6 NN k ps frm to ps.length (IntKind.i64.wrap ((m : Int) + 1))) (fun j xs i => spec_FewestPermits.l10 NN (spec_FewestPermits.l6 NN k) j ps frm to ps.length m i xs) ?_ ?_ (lst ps.length m 0) (fun l hl => ⟨by rw [len_mem hl]; omega, few_lists hl⟩) (by omega) NN (NN_lt (by omega))
    · rw [this, w1]
      have e := ih (m + 1) k (by omega) (by omega)
      rw [show ((m + 1 : Nat) : Int) = (m : Int) + 1 by omega] at e
      cases firstOf (fun l => cvB (chs ps l) frm to) 0 (lst ps.length m 0) with
      | none => exact e
      | some x => rfl
    · intro j p
      simp only [spec_FewestPermits.l10, spec_FewestPermits.g10, Int.lt_irrefl, and_self, and_true, true_and, decide_true, decide_false, if_true, if_false, mid_get, mid_set, mid_getn, mid_setn, bt_mid, Option.bind_some, Bool.not_true, Bool.not_false, Bool.false_eq_true, Bool.true_eq_false, beq_self_eq_true, bne_self_eq_false, Int.toNat_natCast]
    · intro j p l r hE c0 c1 c2 cw
      simp only [spec_FewestPermits.l10, spec_FewestPermits.g10, c0, c1, cw, and_self, and_true, true_and, decide_true, decide_false, if_true, if_false, mid_get, mid_set, mid_getn, mid_setn, bt_mid, Option.bind_some, Bool.not_true, Bool.not_false, Bool.false_eq_true, Bool.true_eq_false, beq_self_eq_true, bne_self_eq_false, Int.toNat_natCast]
      rw [spec_l30Cover_f ps l frm to hv hE.2 (by omega) h]
      cases cvB (chs ps l) frm to <;> rfl
theorem FewestPermits_both (ps : List Prm) (frm to : Int) (hp : Lm OkPermit ps) : spec_FewestPermits.f ps frm to = some (fewR ps frm to) ∧ impl_FewestPermits.f ps frm to = some (fewR ps frm to) := by
  have hk := perms_k hp
  unfold spec_FewestPermits.f spec_FewestPermits.fn spec_FewestPermits.top impl_FewestPermits.f impl_FewestPermits.fn impl_FewestPermits.top fewR
  rw [spec_l30Days_f ps frm to hp.1 hk, impl_arePermits_f ps hp.1 hk, impl_areDays_f]
  cases h1 : permsL ps
  · exact ⟨rfl, rfl⟩
  cases h2 : daysB frm to
  · exact ⟨rfl, rfl⟩
  obtain ⟨v1, v2⟩ := permsL_ok h1
  have hd := daysB_iff h2
  have e1 := spec_few_l ps frm to v2 v1 hd ps.length 1 NN (by omega) (NN_lt (by omega))
  have e2 := impl_few_l ps frm to v2 v1 hd ps.length 1 NN (by omega) (NN_lt (by omega))
  exact ⟨e1, e2⟩
end Go.Pl

namespace Go.Pl
open Go.Ev
set_option linter.unusedVariables false
set_option linter.unusedSimpArgs false
/-- a source of numbers -/
def SrcOk (s : List Int × Int × Int) : Prop := s.1.length ≤ 4096 ∧ (∀ c ∈ s.1, 0 ≤ c ∧ c ≤ 255) ∧ (0 ≤ s.2.1 ∧ s.2.1 ≤ (s.1.length : Int)) ∧ 0 ≤ s.2.2 ∧ s.2.2 < 2147483647
theorem tmod_bd {a n : Int} (h : 0 ≤ a) (hn : 0 < n) : 0 ≤ Int.tmod a n ∧ Int.tmod a n < n := by
  rw [Int.tmod_eq_emod_of_nonneg h]
  exact ⟨Int.emod_nonneg _ (by omega), Int.emod_lt_of_pos _ hn⟩
theorem getD_mem {xs : List Int} {i : Nat} (h : i < xs.length) : xs.getD i 0 ∈ xs := by
  rw [List.getD_eq_getElem?_getD, List.getElem?_eq_getElem h]; exact List.getElem_mem h
theorem next_ok {s : List Int × Int × Int} (hs : SrcOk s) (n : Int) (hn : n ≤ 1000000000000000) : ∃ x s', spec_l01Next.f s n = some (x, s') ∧ SrcOk s' ∧ 0 ≤ x ∧ (x < n ∨ x = 0) := by
  obtain ⟨code, at_, seed⟩ := s
  obtain ⟨h1, h2, h3, h4, h5⟩ := hs
  simp only at h1 h2 h3 h4 h5
  unfold spec_l01Next.f spec_l01Next.fn spec_l01Next.top
  by_cases hn1 : n ≤ 1
  · simp only [hn1, decide_true, if_true]
    exact ⟨0, _, rfl, ⟨h1, h2, h3, h4, h5⟩, by omega, .inr rfl⟩
  have w1 := w64 (n := seed * 48271) (by omega) (by omega)
  have w2 := w64 (n := seed * 48271 + 29) (by omega) (by omega)
  have hm := @tmod_bd (seed * 48271 + 29) 2147483647 (by omega) (by omega)
  have hd : Int.tdiv (Int.tmod (seed * 48271 + 29) 2147483647) 31 = Int.tmod (seed * 48271 + 29) 2147483647 / 31 := Int.tdiv_eq_ediv_of_nonneg hm.1
  have w3 := w64 (n := Int.tdiv (Int.tmod (seed * 48271 + 29) 2147483647) 31) (by omega) (by omega)
  have w4 := w64 (n := at_ + 1) (by omega) (by omega)
  have w5 := w64 (n := at_ + 1 - 1) (by omega) (by omega)
  have hnz : ¬ n = 0 := by omega
  simp only [hn1, decide_false, Bool.false_eq_true, if_false, w1, w2, w3, w4, w5, hnz, decide_eq_true_eq]
  by_cases ha : at_ < (code.length : Int)
  · have hc := h2 _ (getD_mem (show at_.toNat < code.length by omega))
    have hc' : (0 : Int) ≤ at_ + 1 - 1 ∧ at_ + 1 - 1 < (code.length : Int) := by omega
    have e1 : (at_ + 1 - 1).toNat = at_.toNat := by omega
    have w6 := w64 (n := code.getD at_.toNat 0) (by omega) (by omega)
    have w7 := w64 (n := Int.tdiv (Int.tmod (seed * 48271 + 29) 2147483647) 31 + code.getD at_.toNat 0) (by omega) (by omega)
    have b1 := @tmod_bd (code.getD at_.toNat 0) n hc.1 (by omega)
    have b2 := @tmod_bd (Int.tdiv (Int.tmod (seed * 48271 + 29) 2147483647) 31 + code.getD at_.toNat 0) n (by omega) (by omega)
    have hs' : SrcOk (code, at_ + 1, Int.tmod (seed * 48271 + 29) 2147483647) := ⟨h1, h2, ⟨by simp only; omega, by simp only; omega⟩, hm.1, hm.2⟩
    simp only [ha, h3.1, and_self, if_true, hc', e1, w6, w7]
    by_cases h256 : n ≤ 256
    · simp only [h256, if_true]
      split
      · exact ⟨_, _, rfl, hs', b1.1, .inl b1.2⟩
      · exact ⟨_, _, rfl, hs', b2.1, .inl b2.2⟩
    · simp only [h256, if_false]
      exact ⟨_, _, rfl, hs', b2.1, .inl b2.2⟩
  · have b3 := @tmod_bd (Int.tdiv (Int.tmod (seed * 48271 + 29) 2147483647) 31) n (by omega) (by omega)
    simp only [ha, if_false]
    exact ⟨_, _, rfl, ⟨h1, h2, h3, hm.1, hm.2⟩, b3.1, .inl b3.2⟩
theorem pick_ok {s : List Int × Int × Int} (hs : SrcOk s) (xs : List Int) (h : 1 ≤ xs.length) (hl : xs.length ≤ 1000) : ∃ x s', spec_l01Pick.f s xs = some (x, s') ∧ SrcOk s' ∧ x ∈ xs := by
  obtain ⟨x, s', e, h1, h2, h3⟩ := next_ok hs (xs.length : Int) (by omega)
  have hx : x < (xs.length : Int) := by omega
  unfold spec_l01Pick.f spec_l01Pick.fn spec_l01Pick.top
  rw [e]
  simp only [Option.bind_some, h2, hx, and_self, if_true]
  exact ⟨_, _, rfl, h1, getD_mem (by omega)⟩
theorem from_l (code : List Int) (hl : code.length ≤ 4096) (hc : ∀ c ∈ code, 0 ≤ c ∧ c ≤ 255) (c : List Int) (b : Int) : ∀ (d i k : Nat) (seed : Int), i + d = code.length → d < k → 0 ≤ seed → seed < 2147483647 → ∃ seed', spec_l01From.l3 NN k code i c b seed = some (c, b, seed') ∧ 0 ≤ seed' ∧ seed' < 2147483647 := by
  intro d
  induction d with
  | zero =>
    intro i k seed hi hk h0 h1
    obtain ⟨k, rfl⟩ : ∃ j, k = j + 1 := ⟨k - 1, by omega⟩
    have n1 : ¬ (i : Int) < (code.length : Int) := by omega
    exact ⟨seed, by simp only [spec_l01From.l3, spec_l01From.g3, n1, decide_false, Bool.false_eq_true, if_false], h0, h1⟩
  | succ d ih =>
    intro i k seed hi hk h0 h1
    obtain ⟨k, rfl⟩ : ∃ j, k = j + 1 := ⟨k - 1, by omega⟩
    have n1 : (i : Int) < (code.length : Int) := by omega
    by_cases h64 : (i : Int) < 64
    · have hcc := hc _ (getD_mem (show i < code.length by omega))
      have w1 := w64 (n := seed * 83) (by omega) (by omega)
      have w2 := w64 (n := code.getD i 0) (by omega) (by omega)
      have w3 := w64 (n := seed * 83 + code.getD i 0) (by omega) (by omega)
      have w4 := w64 (n := (i : Int) + 1) (by omega) (by omega)
      have hm := @tmod_bd (seed * 83 + code.getD i 0) 2147483647 (by omega) (by omega)
      obtain ⟨s', e1, e2⟩ := ih (i + 1) k (Int.tmod (seed * 83 + code.getD i 0) 2147483647) (by omega) (by omega) hm.1 hm.2
      refine ⟨s', ?_, e2⟩
      simp only [spec_l01From.l3, spec_l01From.g3, n1, h64, decide_true, if_true, Int.toNat_natCast, w1, w2, w3, w4, show (0 : Int) ≤ (i : Int) from by omega, and_self]
      exact e1
    · exact ⟨seed, by simp only [spec_l01From.l3, spec_l01From.g3, n1, h64, decide_true, if_true, decide_false, Bool.false_eq_true, if_false], h0, h1⟩
def CodeOk (code : List Int) : Prop := code.length ≤ 4096 ∧ ∀ c ∈ code, 0 ≤ c ∧ c ≤ 255
theorem from_ok {code : List Int} (h : CodeOk code) : ∃ s, spec_l01From.f code = some s ∧ SrcOk s := by
  obtain ⟨s', e, h1, h2⟩ := from_l code h.1 h.2 code 0 code.length 0 NN 61043 (by omega) (by have := h.1; exact NN_lt (by omega)) (by omega) (by omega)
  exact ⟨(code, 0, s'), e, h.1, h.2, ⟨by simp only; omega, by simp only; omega⟩, h1, h2⟩
theorem big_f (code : List Int) : laws_big.f code = some (decide ((4096 : Int) < (code.length : Int))) := rfl
theorem code_of {code : List Int} (h : Ls (Rg .u8) code) (hb : ¬ (4096 : Int) < (code.length : Int)) : CodeOk code := ⟨by omega, fun c hc => wf8.1 (h.2 c hc)⟩
end Go.Pl

namespace Go.Pl
open Go.Ev
set_option linter.unusedVariables false
noncomputable section
def laws_hasInt.g2 (L2 : List Int → Int → Int → Option Bool) (list0 : List Int) (x1 : Int) (i5 : Int) : Option Bool :=
  if (decide ((i5 : Int) < (list0.length : Int))) = true then
    if (0 : Int) ≤ i5 ∧ (i5 : Int) < list0.length then
      if (((list0.getD (i5 : Int).toNat 0) : Int) == x1) = true then
        some true
      else
        L2 list0 x1 (IntKind.i64.wrap (i5 + 1))
    else
      none
  else
    some false
def laws_hasInt.l2 (n : Nat) : Nat → List Int → Int → Int → Option Bool
  | 0 => fun _ _ _ => none
  | k + 1 => laws_hasInt.g2 (laws_hasInt.l2 n k)
def laws_hasInt.top (I2 : List Int → Int → Int → Option Bool) (list0 : List Int) (x1 : Int) : Option Bool :=
  I2 list0 x1 0
def laws_hasInt.fn (n : Nat) (list0 : List Int) (x1 : Int) : Option Bool := laws_hasInt.top (laws_hasInt.l2 n n) list0 x1
def laws_hasInt.f (list0 : List Int) (x1 : Int) : Option Bool := laws_hasInt.fn NN list0 x1
end
end Go.Pl

namespace Go.Pl
open Go.Ev
set_option linter.unusedVariables false
set_option linter.unusedSimpArgs false
theorem likeInts_self (a : List Int) (hl : a.length ≤ 140737488355328) : laws_likeInts.f a a = some true := by
  unfold laws_likeInts.f laws_likeInts.fn laws_likeInts.top
  simp only [bne_self_eq_false, Bool.false_eq_true, if_false]
  refine eqS_loop (E := fun _ => True) (fun k a b i => laws_likeInts.l4 NN k a b i) a (fun _ _ => trivial) ?_ ?_ NN (NN_lt (by omega))
  · intro k p x r hx ha
    subst ha
    have hm := mid_len p r x
    have c1 : (p.length : Int) < ((p ++ x :: r).length : Int) := by omega
    have c0 : (0 : Int) ≤ (p.length : Int) := by omega
    have cw := w64 (n := (p.length : Int) + 1) (by omega) (by omega)
    simp only [laws_likeInts.l4, laws_likeInts.g4, c0, c1, cw, and_self, and_true, true_and, decide_true, decide_false, if_true, if_false, mid_get, mid_set, mid_getn, mid_setn, bt_mid, Option.bind_some, Bool.not_true, Bool.not_false, Bool.false_eq_true, Bool.true_eq_false, beq_self_eq_true, bne_self_eq_false, Int.toNat_natCast]
  · intro k
    simp [laws_likeInts.l4, laws_likeInts.g4]
theorem hasInt_f (xs : List Int) (x : Int) (hl : xs.length ≤ 140737488355328) : laws_hasInt.f xs x = some (decide (x ∈ xs)) := by
  have := find_loop (E := fun _ => True) (fun c : Int => c == x) (fun _ _ => some true) (fun _ => some false) (fun k xs i => laws_hasInt.l2 NN k xs x i) ?_ ?_ xs (fun _ _ => trivial) (by omega) NN (NN_lt (by omega))
  · refine this.trans ?_
    have key : ∀ (xs : List Int) (i : Nat), (firstOf (fun c : Int => c == x) i xs).elim (some false) (fun _ => some true) = some (decide (x ∈ xs)) := by
      intro xs
      induction xs with
      | nil => intro i; simp [firstOf]
      | cons a r ih =>
        intro i
        by_cases h : a = x
        · subst h; simp [firstOf]
        · have h1 : (a == x) = false := by rw [beq_eq_false_iff_ne]; exact h
          have h2 : ¬ x = a := fun e => h e.symm
          simp only [firstOf, h1, Bool.false_eq_true, if_false, List.mem_cons, h2, false_or]
          exact ih _
    exact key xs 0
  · intro k p
    simp [laws_hasInt.l2, laws_hasInt.g2]
  · intro k p a r _ c0 c1 c2 cw
    simp only [laws_hasInt.l2, laws_hasInt.g2, c0, c1, cw, and_self, and_true, true_and, decide_true, decide_false, if_true, if_false, mid_get, mid_set, mid_getn, mid_setn, bt_mid, Option.bind_some, Bool.not_true, Bool.not_false, Bool.false_eq_true, Bool.true_eq_false, beq_self_eq_true, bne_self_eq_false, Int.toNat_natCast]
end Go.Pl

namespace Go.Pl
open Go.Ev
set_option linter.unusedVariables false
noncomputable section
def spec_l03Names.top  : Option (List ByteArray) :=
  some ([(⟨#[97, 115, 116, 101, 114]⟩ : ByteArray), (⟨#[99, 111, 109, 101, 116]⟩ : ByteArray), (⟨#[100, 97, 104, 108, 105, 97]⟩ : ByteArray), (⟨#[112, 97, 108, 109]⟩ : ByteArray), (⟨#[112, 101, 111, 110, 121]⟩ : ByteArray), (⟨#[119, 105, 108, 108, 111, 119]⟩ : ByteArray)])
def spec_l03Names.fn (n : Nat)  : Option (List ByteArray) := spec_l03Names.top 
def spec_l03Names.f  : Option (List ByteArray) := spec_l03Names.fn NN 
end
end Go.Pl

namespace Go.Pl
open Go.Ev
set_option linter.unusedVariables false
noncomputable section
def spec_l01Good.top (s0 : List Int × Int × Int) : Option (ByteArray × List Int × Int × Int) :=
  (spec_l01Next.f s0 12).bind fun r1 =>
  if (0 : Int) ≤ r1.1 ∧ (r1.1 : Int) < ([(⟨#[97, 100, 97]⟩ : ByteArray), (⟨#[98, 114, 117, 110, 111]⟩ : ByteArray), (⟨#[99, 108, 97, 114, 97]⟩ : ByteArray), (⟨#[100, 111, 114, 97]⟩ : ByteArray), (⟨#[101, 109, 105, 108]⟩ : ByteArray), (⟨#[102, 114, 105, 100, 97]⟩ : ByteArray), (⟨#[103, 117, 115, 116, 97, 118]⟩ : ByteArray), (⟨#[104, 97, 110, 110, 97]⟩ : ByteArray), (⟨#[105, 118, 97, 110]⟩ : ByteArray), (⟨#[106, 97, 110, 97]⟩ : ByteArray), (⟨#[107, 97, 114, 108]⟩ : ByteArray), (⟨#[108, 101, 110, 97]⟩ : ByteArray)]).length then
    some (([(⟨#[97, 100, 97]⟩ : ByteArray), (⟨#[98, 114, 117, 110, 111]⟩ : ByteArray), (⟨#[99, 108, 97, 114, 97]⟩ : ByteArray), (⟨#[100, 111, 114, 97]⟩ : ByteArray), (⟨#[101, 109, 105, 108]⟩ : ByteArray), (⟨#[102, 114, 105, 100, 97]⟩ : ByteArray), (⟨#[103, 117, 115, 116, 97, 118]⟩ : ByteArray), (⟨#[104, 97, 110, 110, 97]⟩ : ByteArray), (⟨#[105, 118, 97, 110]⟩ : ByteArray), (⟨#[106, 97, 110, 97]⟩ : ByteArray), (⟨#[107, 97, 114, 108]⟩ : ByteArray), (⟨#[108, 101, 110, 97]⟩ : ByteArray)]).getD (r1.1 : Int).toNat ByteArray.empty, r1.2)
  else
    none
def spec_l01Good.fn (n : Nat) (s0 : List Int × Int × Int) : Option (ByteArray × List Int × Int × Int) := spec_l01Good.top s0
def spec_l01Good.f (s0 : List Int × Int × Int) : Option (ByteArray × List Int × Int × Int) := spec_l01Good.fn NN s0
end
end Go.Pl

namespace Go.Pl
open Go.Ev
set_option linter.unusedVariables false
noncomputable section
def spec_l01DrawWord.top (s0 : List Int × Int × Int) : Option (ByteArray × List Int × Int × Int) :=
  (spec_l01Next.f s0 24).bind fun r1 =>
  if ((r1.1 : Int) == 0) = true then
    (spec_l01Next.f r1.2 6).bind fun r2 =>
    if (0 : Int) ≤ r2.1 ∧ (r2.1 : Int) < ([(⟨#[]⟩ : ByteArray), (⟨#[65, 100, 97]⟩ : ByteArray), (⟨#[97, 49]⟩ : ByteArray), (⟨#[97, 98, 99, 100, 101, 102, 103, 104, 105, 106, 107, 108, 109, 110, 111, 112]⟩ : ByteArray), (⟨#[97, 98, 99, 100, 101, 102, 103, 104, 105, 106, 107, 108, 109, 110, 111, 112, 113]⟩ : ByteArray), (⟨#[97, 32, 98]⟩ : ByteArray)]).length then
      some (([(⟨#[]⟩ : ByteArray), (⟨#[65, 100, 97]⟩ : ByteArray), (⟨#[97, 49]⟩ : ByteArray), (⟨#[97, 98, 99, 100, 101, 102, 103, 104, 105, 106, 107, 108, 109, 110, 111, 112]⟩ : ByteArray), (⟨#[97, 98, 99, 100, 101, 102, 103, 104, 105, 106, 107, 108, 109, 110, 111, 112, 113]⟩ : ByteArray), (⟨#[97, 32, 98]⟩ : ByteArray)]).getD (r2.1 : Int).toNat ByteArray.empty, r2.2)
    else
      none
  else
    (spec_l01Good.f r1.2).bind fun r3 =>
    some (r3.1, r3.2)
def spec_l01DrawWord.fn (n : Nat) (s0 : List Int × Int × Int) : Option (ByteArray × List Int × Int × Int) := spec_l01DrawWord.top s0
def spec_l01DrawWord.f (s0 : List Int × Int × Int) : Option (ByteArray × List Int × Int × Int) := spec_l01DrawWord.fn NN s0
end
end Go.Pl

namespace Go.Pl
open Go.Ev
set_option linter.unusedVariables false
noncomputable section
def spec_l03Good.top (s0 : List Int × Int × Int) (name1 : ByteArray) : Option ((ByteArray × Int × Int × Int × Int × Int × Int × Int × Int) × List Int × Int × Int) :=
  (spec_l01Next.f s0 4).bind fun r1 =>
  (spec_l01Next.f r1.2 281).bind fun r2 =>
  (spec_l01Pick.f r2.2 ([50, 75, 100, 150, IntKind.i64.wrap (20 + r2.1)])).bind fun r3 =>
  (spec_l01Next.f r3.2 5000).bind fun r4 =>
  (spec_l01Next.f r4.2 300).bind fun r5 =>
  (spec_l01Next.f r5.2 2000).bind fun r6 =>
  (spec_l01Next.f r6.2 4).bind fun r7 =>
  if ((r1.1 : Int) == 1) = true then
    (spec_l01Next.f r7.2 8).bind fun r8 =>
    (spec_l01Next.f r8.2 2000).bind fun r9 =>
    if ((r1.1 : Int) == 2) = true then
      some ((name1, (r1.1, (r3.1, (0, (0, (IntKind.i64.wrap (1 + r8.1), (IntKind.i64.wrap (500 + r9.1), (IntKind.i64.wrap (50 + r6.1), r7.1)))))))), r9.2)
    else
      some ((name1, (r1.1, (r3.1, (IntKind.i64.wrap (1000 + r4.1), (r5.1, (IntKind.i64.wrap (1 + r8.1), (IntKind.i64.wrap (500 + r9.1), (IntKind.i64.wrap (50 + r6.1), r7.1)))))))), r9.2)
  else if ((r1.1 : Int) == 2) = true then
    some ((name1, (r1.1, (r3.1, (0, (0, (1, (0, (IntKind.i64.wrap (50 + r6.1), r7.1)))))))), r7.2)
  else
    some ((name1, (r1.1, (r3.1, (IntKind.i64.wrap (1000 + r4.1), (r5.1, (1, (0, (IntKind.i64.wrap (50 + r6.1), r7.1)))))))), r7.2)
def spec_l03Good.fn (n : Nat) (s0 : List Int × Int × Int) (name1 : ByteArray) : Option ((ByteArray × Int × Int × Int × Int × Int × Int × Int × Int) × List Int × Int × Int) := spec_l03Good.top s0 name1
def spec_l03Good.f (s0 : List Int × Int × Int) (name1 : ByteArray) : Option ((ByteArray × Int × Int × Int × Int × Int × Int × Int × Int) × List Int × Int × Int) := spec_l03Good.fn NN s0 name1
end
end Go.Pl

namespace Go.Pl
open Go.Ev
set_option linter.unusedVariables false
noncomputable section
def spec_l03Draw.top (s0 : List Int × Int × Int) (name1 : ByteArray) : Option ((ByteArray × Int × Int × Int × Int × Int × Int × Int × Int) × List Int × Int × Int) :=
  (spec_l03Good.f s0 name1).bind fun r1 =>
  (spec_l01Next.f r1.2 60).bind fun r2 =>
  if ((r2.1 : Int) == 0) = true then
    (spec_l01Pick.f r2.2 ([19, 20, 300, 301])).bind fun r3 =>
    some ((r1.1.1, (r1.1.2.1, (r3.1, r1.1.2.2.2))), r3.2)
  else if ((r2.1 : Int) == 1) = true then
    (spec_l01Pick.f r2.2 ([r1.1.2.2.2.1, IntKind.i64.wrap (r1.1.2.2.2.1 + 1), (-1)])).bind fun r4 =>
    some ((r1.1.1, (r1.1.2.1, (r1.1.2.2.1, (r1.1.2.2.2.1, (r4.1, r1.1.2.2.2.2.2))))), r4.2)
  else if ((r2.1 : Int) == 2) = true then
    (spec_l01Pick.f r2.2 ([0, 50, 51])).bind fun r5 =>
    some ((r1.1.1, (r1.1.2.1, (r1.1.2.2.1, (r1.1.2.2.2.1, (r1.1.2.2.2.2.1, (r5.1, r1.1.2.2.2.2.2.2)))))), r5.2)
  else if ((r2.1 : Int) == 3) = true then
    (spec_l01DrawWord.f r2.2).bind fun r6 =>
    some ((r6.1, r1.1.2), r6.2)
  else if ((r2.1 : Int) == 4) = true then
    (spec_l01Pick.f r2.2 ([0, 100000, 100001])).bind fun r7 =>
    some ((r1.1.1, (r1.1.2.1, (r1.1.2.2.1, (r1.1.2.2.2.1, (r1.1.2.2.2.2.1, (r1.1.2.2.2.2.2.1, (r1.1.2.2.2.2.2.2.1, (r7.1, r1.1.2.2.2.2.2.2.2.2)))))))), r7.2)
  else
    some (r1.1, r2.2)
def spec_l03Draw.fn (n : Nat) (s0 : List Int × Int × Int) (name1 : ByteArray) : Option ((ByteArray × Int × Int × Int × Int × Int × Int × Int × Int) × List Int × Int × Int) := spec_l03Draw.top s0 name1
def spec_l03Draw.f (s0 : List Int × Int × Int) (name1 : ByteArray) : Option ((ByteArray × Int × Int × Int × Int × Int × Int × Int × Int) × List Int × Int × Int) := spec_l03Draw.fn NN s0 name1
end
end Go.Pl

namespace Go.Pl
open Go.Ev
set_option linter.unusedVariables false
noncomputable section
def spec_l03List.g13 (L13 : Int → (List Int × Int × Int) → (List (ByteArray × Int × Int × Int × Int × Int × Int × Int × Int)) → Option ((List (ByteArray × Int × Int × Int × Int × Int × Int × Int × Int)) × List Int × Int × Int)) (k6 : Int) (s0 : List Int × Int × Int) (out3 : List (ByteArray × Int × Int × Int × Int × Int × Int × Int × Int)) : Option ((List (ByteArray × Int × Int × Int × Int × Int × Int × Int × Int)) × List Int × Int × Int) :=
  (spec_l01Next.f s0 2).bind fun r6 =>
  if (decide (((out3.length : Int) : Int) < (IntKind.i64.wrap (12 + r6.1)))) = true then
    if (decide ((k6 : Int) < 14)) = true then
      if (0 : Int) ≤ k6 ∧ (k6 : Int) ≤ (IntKind.i64.wrap (k6 + 1)) ∧ ((IntKind.i64.wrap (k6 + 1)) : Int) ≤ (⟨#[97, 98, 99, 100, 101, 102, 103, 104, 105, 106, 107, 108, 109, 110]⟩ : ByteArray).size then
        if (⟨#[120]⟩ : ByteArray).size + ((⟨#[97, 98, 99, 100, 101, 102, 103, 104, 105, 106, 107, 108, 109, 110]⟩ : ByteArray).extract (k6 : Int).toNat ((IntKind.i64.wrap (k6 + 1)) : Int).toNat).size ≤ 9223372036854775807 then
          (spec_l03Good.f r6.2 ((⟨#[120]⟩ : ByteArray) ++ ((⟨#[97, 98, 99, 100, 101, 102, 103, 104, 105, 106, 107, 108, 109, 110]⟩ : ByteArray).extract (k6 : Int).toNat ((IntKind.i64.wrap (k6 + 1)) : Int).toNat))).bind fun r7 =>
          if out3.length + ([r7.1]).length < room 80 then
            L13 (IntKind.i64.wrap (k6 + 1)) r7.2 (out3 ++ ([r7.1]))
          else
            none
        else
          none
      else
        none
    else
      some (out3, r6.2)
  else
    some (out3, r6.2)
def spec_l03List.l13 (n : Nat) : Nat → Int → (List Int × Int × Int) → (List (ByteArray × Int × Int × Int × Int × Int × Int × Int × Int)) → Option ((List (ByteArray × Int × Int × Int × Int × Int × Int × Int × Int)) × List Int × Int × Int)
  | 0 => fun _ _ _ => none
  | k + 1 => spec_l03List.g13 (spec_l03List.l13 n k)
def spec_l03List.g4 (I13 : Int → (List Int × Int × Int) → (List (ByteArray × Int × Int × Int × Int × Int × Int × Int × Int)) → Option ((List (ByteArray × Int × Int × Int × Int × Int × Int × Int × Int)) × List Int × Int × Int)) (L4 : Int → (List Int × Int × Int) → (List (ByteArray × Int × Int × Int × Int × Int × Int × Int × Int)) → List ByteArray → Option ((List (ByteArray × Int × Int × Int × Int × Int × Int × Int × Int)) × List Int × Int × Int)) (i5 : Int) (s0 : List Int × Int × Int) (out3 : List (ByteArray × Int × Int × Int × Int × Int × Int × Int × Int)) (names4 : List ByteArray) : Option ((List (ByteArray × Int × Int × Int × Int × Int × Int × Int × Int)) × List Int × Int × Int) :=
  if (decide ((i5 : Int) < (names4.length : Int))) = true then
    (spec_l01Next.f s0 3).bind fun r2 =>
    if (decide ((0 : Int) < r2.1)) = true then
      if (0 : Int) ≤ i5 ∧ (i5 : Int) < names4.length then
        (spec_l03Draw.f r2.2 (names4.getD (i5 : Int).toNat ByteArray.empty)).bind fun r3 =>
        if out3.length + ([r3.1]).length < room 80 then
          L4 (IntKind.i64.wrap (i5 + 1)) r3.2 (out3 ++ ([r3.1])) names4
        else
          none
      else
        none
    else
      L4 (IntKind.i64.wrap (i5 + 1)) r2.2 out3 names4
  else
    (spec_l01Next.f s0 30).bind fun r4 =>
    if ((r4.1 : Int) == 0) = true then
      (spec_l03Good.f r4.2 (⟨#[97, 115, 116, 101, 114]⟩ : ByteArray)).bind fun r5 =>
      if out3.length + ([r5.1]).length < room 80 then
        some (out3 ++ ([r5.1]), r5.2)
      else
        none
    else if ((r4.1 : Int) == 1) = true then
      I13 0 r4.2 out3
    else
      some (out3, r4.2)
def spec_l03List.l4 (n : Nat) : Nat → Int → (List Int × Int × Int) → (List (ByteArray × Int × Int × Int × Int × Int × Int × Int × Int)) → List ByteArray → Option ((List (ByteArray × Int × Int × Int × Int × Int × Int × Int × Int)) × List Int × Int × Int)
  | 0 => fun _ _ _ _ => none
  | k + 1 => spec_l03List.g4 (spec_l03List.l13 n n) (spec_l03List.l4 n k)
def spec_l03List.top (I4 : Int → (List Int × Int × Int) → (List (ByteArray × Int × Int × Int × Int × Int × Int × Int × Int)) → List ByteArray → Option ((List (ByteArray × Int × Int × Int × Int × Int × Int × Int × Int)) × List Int × Int × Int)) (s0 : List Int × Int × Int) : Option ((List (ByteArray × Int × Int × Int × Int × Int × Int × Int × Int)) × List Int × Int × Int) :=
  (spec_l03Names.f).bind fun r1 =>
  I4 0 s0 [] r1
def spec_l03List.fn (n : Nat) (s0 : List Int × Int × Int) : Option ((List (ByteArray × Int × Int × Int × Int × Int × Int × Int × Int)) × List Int × Int × Int) := spec_l03List.top (spec_l03List.l4 n n) s0
def spec_l03List.f (s0 : List Int × Int × Int) : Option ((List (ByteArray × Int × Int × Int × Int × Int × Int × Int × Int)) × List Int × Int × Int) := spec_l03List.fn NN s0
end
end Go.Pl

namespace Go.Pl
open Go.Ev
set_option linter.unusedVariables false
noncomputable section
def spec_l03Counts.g3 (L3 : Int → Int → (List Int × Int × Int) → List Int → Option (List Int × List Int × Int × Int)) (n1 : Int) (i6 : Int) (s0 : List Int × Int × Int) (out5 : List Int) : Option (List Int × List Int × Int × Int) :=
  if (decide ((i6 : Int) < n1)) = true then
    (spec_l01Next.f s0 12).bind fun r1 =>
    (spec_l01Next.f r1.2 12).bind fun r2 =>
    (spec_l01Pick.f r2.2 ([0, r1.1, r2.1])).bind fun r3 =>
    if out5.length + ([r3.1]).length < room 8 then
      L3 n1 (IntKind.i64.wrap (i6 + 1)) r3.2 (out5 ++ ([r3.1]))
    else
      none
  else
    (spec_l01Next.f s0 24).bind fun r4 =>
    if ((r4.1 : Int) == 0) = true then
      if out5.length + ([1]).length < room 8 then
        some (out5 ++ ([1]), r4.2)
      else
        none
    else if ((r4.1 : Int) == 1) = true then
      if (decide ((0 : Int) < n1)) = true then
        (spec_l01Pick.f r4.2 ([1000, 1001, (-1)])).bind fun r5 =>
        if (0 : Int) ≤ 0 ∧ (0 : Int) < out5.length then
          some (out5.set (0 : Int).toNat r5.1, r5.2)
        else
          none
      else
        some (out5, r4.2)
    else
      some (out5, r4.2)
def spec_l03Counts.l3 (n : Nat) : Nat → Int → Int → (List Int × Int × Int) → List Int → Option (List Int × List Int × Int × Int)
  | 0 => fun _ _ _ _ => none
  | k + 1 => spec_l03Counts.g3 (spec_l03Counts.l3 n k)
def spec_l03Counts.top (I3 : Int → Int → (List Int × Int × Int) → List Int → Option (List Int × List Int × Int × Int)) (s0 : List Int × Int × Int) (n1 : Int) : Option (List Int × List Int × Int × Int) :=
  I3 n1 0 s0 []
def spec_l03Counts.fn (n : Nat) (s0 : List Int × Int × Int) (n1 : Int) : Option (List Int × List Int × Int × Int) := spec_l03Counts.top (spec_l03Counts.l3 n n) s0 n1
def spec_l03Counts.f (s0 : List Int × Int × Int) (n1 : Int) : Option (List Int × List Int × Int × Int) := spec_l03Counts.fn NN s0 n1
end
end Go.Pl
