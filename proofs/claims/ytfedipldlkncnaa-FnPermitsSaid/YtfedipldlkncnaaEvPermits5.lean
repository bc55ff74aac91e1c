/- Part 5 of what the law FnPermits stands on: an evaluator of the model's code, proved sound; the functions as plain texts; their contracts. -/
import Derived.Test.YtfedipldlkncnaaChecked
import Derived.Test.YtfedipldlkncnaaProg
import Derived.Test.YtfedipldlkncnaaRows
import Derived.Below
import Derived.Calls
import Derived.Carry
import Derived.ChangeArms
import Derived.ChangeKeysEq
import Derived.ChangeOld
import Derived.Deep.Quiet
import Derived.KernelRfl
import Derived.Laws.Append
import Derived.Laws.BytesString
import Derived.Laws.MakeOwn
import Derived.Laws.Strings
import Derived.Laws.StructEq
import Derived.OpenShut
import Derived.OrdersHeld
import Derived.ProofKit
import Derived.ShutString
import Derived.SizedLaws
import Derived.Tactics
import Derived.WalkKit
import Derived.WideShapes
import Derived.Test.YtfedipldlkncnaaEvPermits4
/- Words for the plain laws. -/
namespace Go.Pl
open Go.Ev
set_option linter.unusedVariables false

theorem wf64 {n : Int} : (Lit.int .i64 n).wf = true ↔ (-9223372036854775808 ≤ n ∧ n ≤ 9223372036854775807) := by
  simp only [Lit.wf, Bool.and_eq_true, decide_eq_true_eq]
  have e1 : IntKind.i64.min = -9223372036854775808 := by decide
  have e2 : IntKind.i64.max = 9223372036854775807 := by decide
  omega
theorem wf8 {n : Int} : (Lit.int .u8 n).wf = true ↔ (0 ≤ n ∧ n ≤ 255) := by
  simp only [Lit.wf, Bool.and_eq_true, decide_eq_true_eq]
  have e1 : IntKind.u8.min = 0 := by decide
  have e2 : IntKind.u8.max = 255 := by decide
  omega
theorem w8 {n : Int} (h1 : 0 ≤ n) (h2 : n < 256) : IntKind.u8.wrap n = n := by
  simp only [IntKind.wrap, IntKind.bits, IntKind.signed]
  simp
  omega
theorem w8_range (n : Int) : 0 ≤ IntKind.u8.wrap n ∧ IntKind.u8.wrap n < 256 := by
  simp only [IntKind.wrap, IntKind.bits, IntKind.signed]
  simp
  omega

/-! Rows, taken apart where a loop stands. -/
theorem mid_get {α : Type} (p r : List α) (x z : α) : (p ++ x :: r).getD (p.length : Int).toNat z = x := by simp
theorem mid_set {α : Type} (p r : List α) (x y : α) : (p ++ x :: r).set (p.length : Int).toNat y = p ++ y :: r := by simp
theorem mid_getn {α : Type} (p r : List α) (x z : α) : (p ++ x :: r).getD p.length z = x := by simp
theorem mid_setn {α : Type} (p r : List α) (x y : α) : (p ++ x :: r).set p.length y = p ++ y :: r := by simp
theorem mid_len {α : Type} (p r : List α) (x : α) : ((p ++ x :: r).length : Int) = (p.length : Int) + r.length + 1 := by simp; omega
theorem mid_nil {α : Type} (p : List α) : p ++ [] = p := by simp
theorem mid_snoc {α : Type} (p r : List α) (x : α) : (p ++ [x]) ++ r = p ++ x :: r := by simp
theorem snoc_len {α : Type} (p : List α) (x : α) : ((p ++ [x]).length : Int) = (p.length : Int) + 1 := by simp
/-- A loop over a row: l stands for its rounds, f for what it comes to. -/
theorem loop_mid {α ρ σ : Type} {B : Nat} (l : Nat → List α → Int → σ → Option ρ) (f : List α → List α → σ → Option ρ)
    (hnil : ∀ k pre st, pre.length ≤ B → l (k + 1) pre (pre.length : Int) st = f pre [] st)
    (hcons : ∀ k pre a r st, pre.length + r.length + 1 ≤ B → (∀ st', l k (pre ++ a :: r) ((pre.length : Int) + 1) st' = f (pre ++ [a]) r st') → l (k + 1) (pre ++ a :: r) (pre.length : Int) st = f pre (a :: r) st) :
    ∀ r pre k st, pre.length + r.length ≤ B → r.length < k → l k (pre ++ r) (pre.length : Int) st = f pre r st := by
  intro r
  induction r with
  | nil =>
    intro pre k st h1 h2
    obtain ⟨k, rfl⟩ : ∃ j, k = j + 1 := ⟨k - 1, by omega⟩
    rw [List.append_nil]
    exact hnil k pre st (by simpa using h1)
  | cons a r ih =>
    intro pre k st h1 h2
    simp only [List.length_cons] at h1 h2
    obtain ⟨k, rfl⟩ : ∃ j, k = j + 1 := ⟨k - 1, by omega⟩
    refine hcons k pre a r st (by omega) fun st' => ?_
    have := ih (pre ++ [a]) k st' (by simp; omega) (by omega)
    rw [mid_snoc, snoc_len] at this
    exact this
/-- The same, where the row itself is written. -/
theorem loop_mid0 {α ρ σ : Type} {B : Nat} (l : Nat → List α → Int → σ → Option ρ) (f : List α → List α → σ → Option ρ)
    (hnil : ∀ k pre st, pre.length ≤ B → l (k + 1) pre (pre.length : Int) st = f pre [] st)
    (hcons : ∀ k pre a r st, pre.length + r.length + 1 ≤ B → (∀ st', l k (pre ++ a :: r) ((pre.length : Int) + 1) st' = f (pre ++ [a]) r st') → l (k + 1) (pre ++ a :: r) (pre.length : Int) st = f pre (a :: r) st)
    (xs : List α) (k : Nat) (st : σ) (h1 : xs.length ≤ B) (h2 : xs.length < k) : l k xs 0 st = f [] xs st := by
  have := loop_mid l f hnil hcons xs [] k st (by simpa using h1) h2
  simpa using this
/-- A loop by a measure. -/
theorem loop_by {ρ σ : Type} (l : Nat → σ → Option ρ) (μ : σ → Nat) (Q : σ → Option ρ → Prop)
    (h : ∀ k st, (∀ st', μ st' < μ st → Q st' (l k st')) → Q st (l (k + 1) st)) : ∀ k st, μ st < k → Q st (l k st) := by
  intro k
  induction k with
  | zero => intro st h; omega
  | succ k ih => intro st hk; exact h k st fun st' h' => ih st' (by omega)

/-! Bytes. -/
theorem ba_toList {a b : ByteArray} : a.toList = b.toList ↔ a = b := by
  rw [ByteArray.toList_eq, ByteArray.toList_eq]
  exact ⟨fun h => ByteArray.ext (Array.toList_inj.mp h), fun h => by rw [h]⟩
theorem ba_beq (a b : ByteArray) : (a.toList == b.toList) = decide (a = b) := by
  by_cases h : a = b
  · subst h; simp
  · rw [decide_eq_false h, beq_eq_false_iff_ne]; exact fun e => h (ba_toList.1 e)
def bl (s : ByteArray) : List UInt8 := s.data.toList
def ob (l : List UInt8) : ByteArray := ⟨l.toArray⟩
theorem bl_ob (l : List UInt8) : bl (ob l) = l := by simp [bl, ob]
theorem ob_bl (s : ByteArray) : ob (bl s) = s := by simp [bl, ob]
theorem bl_inj {a b : ByteArray} (h : bl a = bl b) : a = b := by rw [← ob_bl a, h, ob_bl]
theorem ob_inj {a b : List UInt8} (h : ob a = ob b) : a = b := by rw [← bl_ob a, h, bl_ob]
theorem bl_length (s : ByteArray) : (bl s).length = s.size := by simp only [bl, Array.length_toList]; rfl
theorem ob_size (l : List UInt8) : (ob l).size = l.length := by rw [← bl_length, bl_ob]
theorem bl_append (a b : ByteArray) : bl (a ++ b) = bl a ++ bl b := by simp [bl]
theorem ob_append (a b : List UInt8) : ob a ++ ob b = ob (a ++ b) := by apply bl_inj; rw [bl_append, bl_ob, bl_ob, bl_ob]
theorem bl_lit (a : Array UInt8) : bl (⟨a⟩ : ByteArray) = a.toList := rfl
theorem lit_ob (l : List UInt8) : (⟨l.toArray⟩ : ByteArray) = ob l := rfl
theorem bl_extract (s : ByteArray) (i j : Nat) : bl (s.extract i j) = ((bl s).take j).drop i := by
  simp only [bl, ByteArray.data_extract, Array.toList_extract, List.extract]
  rw [List.drop_take]
theorem ob_extract (l : List UInt8) (i j : Nat) : (ob l).extract i j = ob ((l.take j).drop i) := by apply bl_inj; rw [bl_extract, bl_ob, bl_ob]
theorem ob_toList (l : List UInt8) : (ob l).toList = l := by rw [ByteArray.toList_eq]; rfl
theorem ba_bl (s : ByteArray) : s.toList = bl s := by rw [ByteArray.toList_eq]; rfl
theorem bt_ob (l : List UInt8) (i : Int) : bt (ob l) i = ((l.getD i.toNat 0).toNat : Int) := rfl
theorem bt_mid (p r : List UInt8) (c : UInt8) : bt (ob (p ++ c :: r)) (p.length : Int) = (c.toNat : Int) := by rw [bt_ob, mid_get]
theorem bt_range (s : ByteArray) (i : Int) : 0 ≤ bt s i ∧ bt s i ≤ 255 := by
  unfold bt
  have := UInt8.toNat_lt ((s.data.toList.getD i.toNat 0))
  omega
theorem u8_lt (c : UInt8) : c.toNat < 256 := UInt8.toNat_lt c
theorem u8_eq {a : UInt8} {n : Nat} (h : n < 256) : ((a.toNat : Int) = (n : Int)) ↔ a = UInt8.ofNat n := by
  constructor
  · intro e
    apply UInt8.toNat_inj.mp
    rw [UInt8.toNat_ofNat']; omega
  · rintro rfl
    rw [UInt8.toNat_ofNat']; omega
theorem bytesOf_ob (l : List Int) : bytesOf l = ob (l.map fun n => UInt8.ofNat n.toNat) := rfl
/-- Every string is of bytes. -/
theorem ob_all {P : ByteArray → Prop} (h : ∀ l, P (ob l)) (s : ByteArray) : P s := by rw [← ob_bl s]; exact h _
/-- A loop over a string's bytes. -/
theorem loop_str0 {ρ σ : Type} {B : Nat} (l : Nat → ByteArray → Int → σ → Option ρ) (f : List UInt8 → List UInt8 → σ → Option ρ)
    (hnil : ∀ k pre st, pre.length ≤ B → l (k + 1) (ob pre) (pre.length : Int) st = f pre [] st)
    (hcons : ∀ k pre a r st, pre.length + r.length + 1 ≤ B → (∀ st', l k (ob (pre ++ a :: r)) ((pre.length : Int) + 1) st' = f (pre ++ [a]) r st') → l (k + 1) (ob (pre ++ a :: r)) (pre.length : Int) st = f pre (a :: r) st)
    (s : ByteArray) (k : Nat) (st : σ) (h1 : s.size ≤ B) (h2 : s.size < k) : l k s 0 st = f [] (bl s) st := by
  have := loop_mid0 (fun k xs i st => l k (ob xs) i st) f hnil hcons (bl s) k st (by rw [bl_length]; exact h1) (by rw [bl_length]; exact h2)
  rw [ob_bl] at this
  exact this
theorem room1 : room 1 = 140737488355328 := by decide
theorem room8 : room 8 = 17592186044416 := by decide
theorem room16 : room 16 = 8796093022208 := by decide
theorem room24 : room 24 = 5864062014805 := by decide
theorem room32 : room 32 = 4398046511104 := by decide
theorem room40 : room 40 = 3518437208883 := by decide
theorem NNb : (1000000000000 : Nat) < NN := by rw [NN_eq]; omega
theorem NN_lt {n : Nat} (h : n < 1152921504606846976) : n < NN := by rw [NN_eq]; omega
theorem some_iff {b c : Bool} (h : b = true ↔ c = true) : some b = some c := by
  congr 1; exact Bool.eq_iff_iff.mpr h
end Go.Pl

/- A law's row: what its arguments are, in plain words. -/
namespace Go.Ev
set_option linter.unusedVariables false
set_option linter.unusedSimpArgs false
open Go.RowKit Go.WideShapes Go.ChangeShapes Go.ChangeAt
variable {P : Program}

def Rg (k : IntKind) (n : Int) : Prop := (Lit.int k n).wf = true
def Sz (s : ByteArray) : Prop := s.size ≤ 140737488355328
def Ls {α : Type} (Q : α → Prop) (xs : List α) : Prop := xs.length ≤ 140737488355328 ∧ ∀ x ∈ xs, Q x
def Plain : (t : Ty) → t.I → Prop
  | .int k, n => Rg k n
  | .bool, _ => True
  | .str, s => Sz s
  | .sl _ t, xs => Ls (Plain t) xs
  | .slb _ _, _ => True
  | .pair a b, x => Plain a x.1 ∧ Plain b x.2
  | .arr n t, xs => xs.length = n ∧ ∀ x ∈ xs, Plain t x
def PlainAll : (ts : List Ty) → Tup ts → Prop
  | [], _ => True
  | [t], x => Plain t x
  | t :: u :: r, x => Plain t x.1 ∧ PlainAll (u :: r) x.2
def okE (B : TypeId → Nat) : Ty → Bool
  | .sl e t => decide (1 ≤ B e) && okE B t
  | .slb e t => decide (1 ≤ B e) && okE B t
  | .pair a b => okE B a && okE B b
  | .arr _ t => okE B t
  | _ => true
theorem reach_lt : reachBytes ≤ 140737488355328 := by decide
theorem fit_plain {B : TypeId → Nat} : ∀ (t : Ty) (x : t.I), okE B t = true → Fit B t x → Plain t x := by
  intro t
  induction t with
  | int k => intro x _ h; exact h
  | bool => intro x _ h; trivial
  | str => intro x _ h; exact Nat.le_trans h reach_lt
  | sl e t ih =>
    intro x ho h
    simp only [okE, Bool.and_eq_true, decide_eq_true_eq] at ho
    refine ⟨?_, fun y hy => ih y ho.2 (h.2 y hy)⟩
    have h1 : x.length * 1 ≤ x.length * B e := Nat.mul_le_mul_left _ ho.1
    have h2 := h.1
    have h3 := reach_lt
    omega
  | slb e t ih => intro x ho h; trivial
  | pair a b iha ihb =>
    intro x ho h
    simp only [okE, Bool.and_eq_true] at ho
    exact ⟨iha _ ho.1 h.1, ihb _ ho.2 h.2⟩
  | arr n t ih => intro x ho h; exact ⟨h.1, fun y hy => ih y ho (h.2 y hy)⟩
theorem fit_plainAll {B : TypeId → Nat} : ∀ (ts : List Ty) (x : Tup ts), ts.all (okE B) = true → FitAll B ts x → PlainAll ts x := by
  intro ts
  induction ts with
  | nil => intro x _ _; trivial
  | cons t r ih =>
    intro x ho h
    simp only [List.all_cons, Bool.and_eq_true] at ho
    cases r with
    | nil => exact fit_plain t x ho.1 h
    | cons u r => exact ⟨fit_plain t x.1 ho.1 h.1, ih x.2 ho.2 h.2⟩
theorem ok_all {tab : List TRow} (h : okB P tab = true) : tab.all (rowB P tab) = true := by
  unfold okB at h; simp only [Bool.and_eq_true] at h; exact h.2.2
theorem bytes_sound {tab : List TRow} (h : okB P tab = true) : ∀ t x, tabT tab t = some x → P.bytesOf t = tabB tab t := by
  intro t x ht
  have hs := tab_sound (ok_all h)
  obtain ⟨ty, n⟩ := x
  obtain ⟨i, h1, h2⟩ := (hs.1 t ty n ht).info
  unfold Program.bytesOf
  rw [h1]
  exact hs.2 t _ ht i h1
section
variable {H : Type} {enc : TypeId × Value → H} {w : World} {base : Nat} {spare : Nat → Bool} {held : Bool}
theorem law_row {tab : List TRow} (hok : okB P tab = true) (hpos : posB tab = true) {f : FuncId} {c : Con} (hg : Good P f c) (hps : (c.ps.map (·.2)).map ((Kn.val, ·)) = c.ps) (hE : (c.ps.map (·.2)).all (okE (tabB tab)) = true)
    (hlaw : ∀ x, PlainAll (c.ps.map (·.2)) x → ∃ r, c.F x = some r ∧ kds' c.rs (dats _ r) = [(.val, ⟨.bool, true⟩)])
    {r : Reach} {b0 : Nat} {ts : List TypeId} {args : Array Value} {ds : List (DataW H)} {p : List MemPlace} (hts : tysOf (tabT tab) ts = some (c.ps.map (·.2))) (h : DataW.TrodAll enc P w base spare held ts args.toList ds p)
    (hval : ∀ (j : Nat) t v, ts[j]? = some t → args[j]? = some v → Value.okWide P w r b0 t v) {vt : List TypeId} {gs : List (DataW H)} (hgs : vt = [] ∨ gs = []) (hw : (DataW.weightsEach P (ts ++ vt) (ds ++ gs)).all (· ≤ reachBytes) = true) (hl : ts.length = ds.length) :
    Calls P f args w fun e w' => e = .returned (.bool true) ∧ Below w.heap.size w w' := by
  refine law_calls (tab_sound (ok_all hok)).1 (bytes_sound hok) (posB_sound hpos) hg hps (fun x hx => hlaw x (fit_plainAll _ x hE hx)) hts h (fun j t v hj hv => hval j t v hj (by simpa using hv)) ?_
  have key : ∀ (ts : List TypeId) (ds : List (DataW H)), ts.length = ds.length → ∀ m ∈ DataW.weightsEach P ts ds, m ∈ DataW.weightsEach P (ts ++ vt) (ds ++ gs) := by
    intro ts
    induction ts with
    | nil => intro ds hl m hm; cases ds <;> simp [DataW.weightsEach] at hm
    | cons t ts ih =>
      intro ds hl m hm
      cases ds with
      | nil => simp [DataW.weightsEach] at hm
      | cons d ds =>
        simp only [List.cons_append, DataW.weightsEach, List.mem_append] at hm ⊢
        rcases hm with hm | hm
        · exact .inl hm
        · exact .inr (ih ds (by simpa using hl) m hm)
  intro m hm
  have := List.all_eq_true.1 hw m (key ts ds hl m hm)
  simpa using this
end
end Go.Ev

/- What the laws' own helpers do, loop by loop: sizes, copies, comparisons, marks. -/
namespace Go.Pl
open Go.Ev
set_option linter.unusedVariables false

def Sm (s : ByteArray) : Prop := s.size ≤ 1000000
def Lm {α : Type} (Q : α → Prop) (xs : List α) : Prop := xs.length ≤ 1000000 ∧ ∀ x ∈ xs, Q x

theorem eqS_loop {α : Type} {E : α → Prop} (l : Nat → List α → List α → Int → Option Bool) (a : List α) (hE : ∀ x ∈ a, E x)
    (hs : ∀ k p x r, E x → a = p ++ x :: r → l (k + 1) a a p.length = l k a a ((p.length : Int) + 1)) (he : ∀ k, l (k + 1) a a a.length = some true) :
    ∀ k, a.length < k → l k a a 0 = some true := by
  have key : ∀ (r p : List α) (k : Nat), a = p ++ r → r.length < k → l k a a p.length = some true := by
    intro r
    induction r with
    | nil =>
      intro p k h hk
      obtain ⟨k, rfl⟩ : ∃ j, k = j + 1 := ⟨k - 1, by omega⟩
      rw [List.append_nil] at h
      rw [← h]; exact he k
    | cons x r ih =>
      intro p k h hk
      simp only [List.length_cons] at hk
      obtain ⟨k, rfl⟩ : ∃ j, k = j + 1 := ⟨k - 1, by omega⟩
      rw [hs k p x r (hE x (by rw [h]; simp)) h]
      have := ih (p ++ [x]) k (by rw [h]; simp) (by omega)
      rw [snoc_len] at this
      exact this
  intro k hk
  have := key a [] k (by simp) hk
  simpa using this

theorem szS_loop {α : Type} {Q R : α → Prop} (l : Nat → List α → Int → Int → Option Int)
    (he : ∀ k p left, l (k + 1) p left p.length = some left)
    (hs : ∀ x, Q x → ∀ left, -1000000000000000 ≤ left → left ≤ 1000000 → ∃ s, s ≤ 1000000 ∧ (0 ≤ s → s ≤ left ∧ R x) ∧ ∀ k p r, p.length + r.length + 1 ≤ 140737488355328 → l (k + 1) (p ++ x :: r) left p.length = if s < 0 then some (-1) else l k (p ++ x :: r) s ((p.length : Int) + 1))
    (a : List α) (k : Nat) (left : Int) (h0 : -1000000000000000 ≤ left) (h1 : left ≤ 1000000) (ha : Ls Q a) (hk : a.length < k) : ∃ s, l k a left 0 = some s ∧ s ≤ 1000000 ∧ (0 ≤ s → s ≤ left ∧ ∀ x ∈ a, R x) := by
  have key : ∀ (r p : List α) (k : Nat) (left : Int), p.length + r.length ≤ 140737488355328 → (∀ x ∈ r, Q x) → -1000000000000000 ≤ left → left ≤ 1000000 → r.length < k → ∃ s, l k (p ++ r) left p.length = some s ∧ s ≤ 1000000 ∧ (0 ≤ s → s ≤ left ∧ ∀ x ∈ r, R x) := by
    intro r
    induction r with
    | nil =>
      intro p k left _ _ _ _ hk
      obtain ⟨k, rfl⟩ : ∃ j, k = j + 1 := ⟨k - 1, by omega⟩
      rw [List.append_nil]
      exact ⟨left, he k p left, by omega, fun _ => ⟨by omega, fun x hx => by cases hx⟩⟩
    | cons x r ih =>
      intro p k left hb hq h0 h1 hk
      simp only [List.length_cons] at hk hb
      obtain ⟨k, rfl⟩ : ∃ j, k = j + 1 := ⟨k - 1, by omega⟩
      obtain ⟨s, s1, s2, s3⟩ := hs x (hq x (by simp)) left h0 h1
      rw [s3 k p r (by omega)]
      by_cases hn : s < 0
      · rw [if_pos hn]; exact ⟨-1, rfl, by omega, by omega⟩
      · rw [if_neg hn]
        obtain ⟨u, u1, u2, u3⟩ := ih (p ++ [x]) k s (by simp; omega) (fun y hy => hq y (by simp [hy])) (by omega) (by omega) (by omega)
        rw [mid_snoc, snoc_len] at u1
        refine ⟨u, u1, by omega, fun h => ⟨by have := (u3 h).1; have := (s2 (by omega)).1; omega, fun y hy => ?_⟩⟩
        rcases List.mem_cons.1 hy with rfl | hy
        · exact (s2 (by omega)).2
        · exact (u3 h).2 y hy
  have := key a [] k left (by simpa using ha.1) ha.2 h0 h1 hk
  simpa using this

theorem toS_loop {α : Type} {Z R : α → Prop} (l5 l9 : Nat → List α → Int → List α → Option (List α × List α))
    (he9 : ∀ k a (out : List α), (a.length : Int) ≤ out.length → l9 (k + 1) a out.length out = some (out.take a.length, out.drop a.length))
    (hs9 : ∀ k a (i : Nat) (out : List α), i < out.length → out.length ≤ 140737488355328 → ∃ z, Z z ∧ l9 (k + 1) a i out = l9 k a ((i : Int) + 1) (out.set i z))
    (he5 : ∀ k a (out : List α), l5 (k + 1) a a.length out = l9 NN a a.length out)
    (hs5 : ∀ k (p r : List α) x (q s : List α) y, R x → p.length = q.length → p.length + r.length + 1 ≤ 140737488355328 → p.length + s.length + 1 ≤ 140737488355328 → l5 (k + 1) (p ++ x :: r) p.length (q ++ y :: s) = l5 k (p ++ x :: r) ((p.length : Int) + 1) (q ++ x :: s))
    (a : List α) (out : List α) (k : Nat) (ha : ∀ x ∈ a, R x) (h : a.length ≤ out.length) (hb : out.length ≤ 140737488355328) (hk : a.length < k) :
    ∃ fil, l5 k a 0 out = some (a, fil) ∧ fil.length = out.length - a.length ∧ ∀ x ∈ fil, Z x := by
  have hN : 140737488355328 < NN := NN_lt (by omega)
  have k9 : ∀ (d : Nat) (k : Nat) (i : Nat) (out : List α), out.length ≤ 140737488355328 → i + d = out.length → d < k → a.length ≤ i → out.take a.length = a → (∀ j x, a.length ≤ j → j < i → out[j]? = some x → Z x) →
      ∃ fil, l9 k a i out = some (a, fil) ∧ fil.length = out.length - a.length ∧ ∀ x ∈ fil, Z x := by
    intro d
    induction d with
    | zero =>
      intro k i out hb hi hk ha ht hz
      obtain ⟨k, rfl⟩ : ∃ j, k = j + 1 := ⟨k - 1, by omega⟩
      obtain rfl : i = out.length := by omega
      refine ⟨_, by rw [he9 k a out (by omega), ht], by simp, fun x hx => ?_⟩
      obtain ⟨m, hm⟩ := List.mem_iff_getElem?.1 hx
      rw [List.getElem?_drop] at hm
      exact hz _ x (by omega) (List.getElem?_eq_some_iff.1 hm).1 hm
    | succ d ih =>
      intro k i out hb hi hk ha ht hz
      obtain ⟨k, rfl⟩ : ∃ j, k = j + 1 := ⟨k - 1, by omega⟩
      obtain ⟨z, z1, z2⟩ := hs9 k a i out (by omega) hb
      rw [z2]
      obtain ⟨fil, f1, f2, f3⟩ := ih k (i + 1) (out.set i z) (by simpa using hb) (by simp; omega) (by omega) (by omega) (by rw [List.take_set_of_le ha]; exact ht) (fun j x h1 h2 h3 => by
        by_cases hj : i = j
        · subst hj
          rw [List.getElem?_set_self (by omega)] at h3
          cases h3; exact z1
        · rw [List.getElem?_set_ne hj] at h3
          exact hz j x h1 (by omega) h3)
      exact ⟨fil, f1, by simpa using f2, f3⟩
  have k5 : ∀ (r p : List α) (s : List α) (k : Nat), p ++ r = a → p.length + s.length ≤ 140737488355328 → r.length ≤ s.length → r.length < k → (∀ x ∈ r, R x) →
      ∃ fil, l5 k a p.length (p ++ s) = some (a, fil) ∧ fil.length = p.length + s.length - a.length ∧ ∀ x ∈ fil, Z x := by
    intro r
    induction r with
    | nil =>
      intro p s k h3 h4 h5 hk _
      obtain ⟨k, rfl⟩ : ∃ j, k = j + 1 := ⟨k - 1, by omega⟩
      rw [List.append_nil] at h3
      subst h3
      rw [he5]
      obtain ⟨fil, f1, f2, f3⟩ := k9 s.length NN p.length (p ++ s) (by simp; omega) (by simp) (by omega) (by omega) (by rw [List.take_left' rfl]) (fun j x h1 h2 => by omega)
      exact ⟨fil, f1, by rw [f2]; simp, f3⟩
    | cons x r ih =>
      intro p s k h3 h4 h5 hk hR
      simp only [List.length_cons] at h5 hk
      obtain ⟨k, rfl⟩ : ∃ j, k = j + 1 := ⟨k - 1, by omega⟩
      cases s with
      | nil => simp at h5
      | cons y s =>
        have hs := hs5 k p r x p s y (hR x (by simp)) rfl (by simp only [List.length_cons] at h4 h5; omega) (by simp only [List.length_cons] at h4; omega)
        rw [h3] at hs
        rw [hs]
        obtain ⟨fil, f1, f2, f3⟩ := ih (p ++ [x]) s k (by rw [← h3]; simp) (by simp only [List.length_append, List.length_cons, List.length_nil] at h4 ⊢; omega) (by simp only [List.length_cons] at h5; omega) (by omega) (fun z hz => hR z (by simp [hz]))
        rw [mid_snoc, snoc_len] at f1
        exact ⟨fil, f1, by rw [f2]; simp only [List.length_append, List.length_cons, List.length_nil]; omega, f3⟩
  obtain ⟨fil, f1, f2, f3⟩ := k5 a [] out k rfl (by simpa using hb) h hk ha
  exact ⟨fil, by simpa using f1, by simpa using f2, f3⟩

/-- Rows that are marked, and looked at afterwards. -/
theorem mark_held {α : Type} {Q : α → Prop} (l : Nat → List α → Int → Int → Option (Int × List α)) (lh : Nat → List α → Int → Int → Option Int) (C : Nat) (K : Int)
    (he : ∀ k p n, l (k + 1) p n p.length = some (n, p)) (heh : ∀ k p n, lh (k + 1) p n p.length = some n)
    (hs : ∀ x, Q x → ∀ n, 0 ≤ n → n ≤ K → ∃ x' n', n ≤ n' ∧ n' ≤ n + C ∧ (∀ k p r, p.length + r.length + 1 ≤ 1000000 → l (k + 1) (p ++ x :: r) n p.length = l k (p ++ x' :: r) n' ((p.length : Int) + 1))
      ∧ (∀ k p r, p.length + r.length + 1 ≤ 1000000 → lh (k + 1) (p ++ x' :: r) n p.length = lh k (p ++ x' :: r) n' ((p.length : Int) + 1)))
    (a : List α) (ha : Lm Q a) (n : Int) (h0 : 0 ≤ n) (h1 : n + (1000000 * C : Nat) ≤ K) (k kh : Nat) (hk : 1000000 < k) (hkh : 1000000 < kh) :
    ∃ n' a', l k a n 0 = some (n', a') ∧ lh kh a' n 0 = some n' ∧ n ≤ n' ∧ n' ≤ n + (1000000 * C : Nat) := by
  have key : ∀ (r p : List α) (k : Nat) (n : Int), p.length + r.length ≤ 1000000 → (∀ x ∈ r, Q x) → 0 ≤ n → n + ((r.length * C : Nat) : Int) ≤ K → r.length < k →
      ∃ n' r', l k (p ++ r) n p.length = some (n', p ++ r') ∧ r'.length = r.length ∧ n ≤ n' ∧ n' ≤ n + ((r.length * C : Nat) : Int) ∧ (∀ (q : List α) kh, q.length = p.length → r.length < kh → lh kh (q ++ r') n q.length = some n') := by
    intro r
    induction r with
    | nil =>
      intro p k n _ _ h0 _ hk
      obtain ⟨k, rfl⟩ : ∃ j, k = j + 1 := ⟨k - 1, by omega⟩
      refine ⟨n, [], by rw [List.append_nil]; exact he k p n, rfl, by omega, by simp, fun q kh _ hkh => ?_⟩
      obtain ⟨kh, rfl⟩ : ∃ j, kh = j + 1 := ⟨kh - 1, by simp at hkh; omega⟩
      rw [List.append_nil]; exact heh kh q n
    | cons x r ih =>
      intro p k n hb hq h0 hK hk
      simp only [List.length_cons] at hk hb hK
      obtain ⟨k, rfl⟩ : ∃ j, k = j + 1 := ⟨k - 1, by omega⟩
      have hm : (r.length + 1) * C = r.length * C + C := by rw [Nat.add_mul, Nat.one_mul]
      rw [hm] at hK
      obtain ⟨x', n1, a1, a2, a3, a4⟩ := hs x (hq x (by simp)) n h0 (by omega)
      rw [a3 k p r (by omega)]
      obtain ⟨n', r', b1, b2, b3, b4, b5⟩ := ih (p ++ [x']) k n1 (by simp; omega) (fun y hy => hq y (by simp [hy])) (by omega) (by omega) (by omega)
      rw [mid_snoc, snoc_len] at b1
      refine ⟨n', x' :: r', by rw [b1]; simp, by simp [b2], by omega, by simp only [List.length_cons]; rw [hm]; omega, fun q kh hq' hkh => ?_⟩
      simp only [List.length_cons] at hkh
      obtain ⟨kh, rfl⟩ : ∃ j, kh = j + 1 := ⟨kh - 1, by omega⟩
      rw [a4 kh q r' (by omega)]
      have := b5 (q ++ [x']) kh (by simp [hq']) (by omega)
      rw [mid_snoc, snoc_len] at this
      exact this
  have hle : ((a.length * C : Nat) : Int) ≤ ((1000000 * C : Nat) : Int) := Int.ofNat_le.2 (Nat.mul_le_mul_right _ ha.1)
  obtain ⟨n', r', b1, b2, b3, b4, b5⟩ := key a [] k n (by simpa using ha.1) ha.2 h0 (by omega) (by have := ha.1; omega)
  have := b5 [] kh rfl (by have := ha.1; omega)
  exact ⟨n', r', by simpa using b1, by simpa using this, b3, by omega⟩
theorem mem_mid {α : Type} {a p r : List α} {x : α} (h : a = p ++ x :: r) : x ∈ a := by rw [h]; simp
end Go.Pl

/- Loops of a few sorts, and what they come to. -/
namespace Go.Pl
open Go.Ev
set_option linter.unusedVariables false

/-- false at the first element that fails -/
theorem all_loop {α : Type} {E : α → Prop} (P : α → Bool) (fin : List α → Option Bool) (l : Nat → List α → Int → Option Bool)
    (hn : ∀ k p, l (k + 1) p p.length = fin p)
    (hc : ∀ k p a r, E a → (0 : Int) ≤ (p.length : Int) → (p.length : Int) < ((p ++ a :: r).length : Int) → IntKind.i64.wrap ((p.length : Int) + 1) = (p.length : Int) + 1 → l (k + 1) (p ++ a :: r) p.length = if P a = true then l k (p ++ a :: r) ((p.length : Int) + 1) else some false)
    (xs : List α) (hE : ∀ x ∈ xs, E x) (hB : xs.length ≤ 140737488355328) (k : Nat) (hk : xs.length < k) : l k xs 0 = if xs.all P = true then fin xs else some false := by
  have key : ∀ (r p : List α) (k : Nat), p.length + r.length ≤ 140737488355328 → (∀ x ∈ r, E x) → r.length < k → l k (p ++ r) p.length = if r.all P = true then fin (p ++ r) else some false := by
    intro r
    induction r with
    | nil =>
      intro p k _ _ hk
      obtain ⟨k, rfl⟩ : ∃ j, k = j + 1 := ⟨k - 1, by omega⟩
      rw [List.append_nil, hn]; simp
    | cons a r ih =>
      intro p k hb he hk
      simp only [List.length_cons] at hk hb
      obtain ⟨k, rfl⟩ : ∃ j, k = j + 1 := ⟨k - 1, by omega⟩
      have hm := mid_len p r a
      rw [hc k p a r (he a (by simp)) (by omega) (by omega) (w64 (by omega) (by omega))]
      have := ih (p ++ [a]) k (by simp; omega) (fun y hy => he y (by simp [hy])) (by omega)
      rw [mid_snoc, snoc_len] at this
      rw [this]
      cases h : P a <;> simp [h]
  have := key xs [] k (by simpa using hB) hE hk
  simpa using this
/-- the same over a string's bytes -/
theorem all_loop_str (P : UInt8 → Bool) (fin : ByteArray → Option Bool) (l : Nat → ByteArray → Int → Option Bool)
    (hn : ∀ k p, l (k + 1) (ob p) p.length = fin (ob p))
    (hc : ∀ k p a r, (0 : Int) ≤ (p.length : Int) → (p.length : Int) < ((ob (p ++ a :: r)).size : Int) → IntKind.i64.wrap ((p.length : Int) + 1) = (p.length : Int) + 1 → l (k + 1) (ob (p ++ a :: r)) p.length = if P a = true then l k (ob (p ++ a :: r)) ((p.length : Int) + 1) else some false)
    (s : ByteArray) (hB : s.size ≤ 140737488355328) (k : Nat) (hk : s.size < k) : l k s 0 = if (bl s).all P = true then fin s else some false := by
  have := all_loop (E := fun _ => True) P (fun x => fin (ob x)) (fun k x i => l k (ob x) i) hn (fun k p a r _ h1 h2 h3 => hc k p a r h1 (by rw [ob_size]; exact h2) h3) (bl s) (fun _ _ => trivial) (by rw [bl_length]; exact hB) k (by rw [bl_length]; exact hk)
  rw [ob_bl] at this
  exact this

def foldi {α σ : Type} (f : Nat → σ → α → σ) : Nat → σ → List α → σ
  | _, st, [] => st
  | i, st, a :: r => foldi f (i + 1) (f i st a) r
theorem foldi_foldl {α σ : Type} (f : σ → α → σ) : ∀ (xs : List α) (i : Nat) (st : σ), foldi (fun _ => f) i st xs = xs.foldl f st := by
  intro xs
  induction xs with
  | nil => intro i st; rfl
  | cons a r ih => intro i st; exact ih _ _
theorem foldi_append {α σ : Type} (f : Nat → σ → α → σ) : ∀ (xs ys : List α) (i : Nat) (st : σ), foldi f i st (xs ++ ys) = foldi f (i + xs.length) (foldi f i st xs) ys := by
  intro xs
  induction xs with
  | nil => intro ys i st; rfl
  | cons a r ih => intro ys i st; simp only [List.cons_append, foldi, List.length_cons]; rw [ih, show i + 1 + r.length = i + (r.length + 1) by omega]
/-- a state that goes from element to element; I: what holds of it behind a part of the row -/
theorem fold_loop {α σ ρ : Type} {E : α → Prop} (I : List α → σ → Prop) (f : Nat → σ → α → σ) (fin : List α → σ → Option ρ) (l : Nat → List α → Int → σ → Option ρ)
    (hn : ∀ k p st, I p st → l (k + 1) p p.length st = fin p st)
    (hc : ∀ k p a r st, E a → I p st → (0 : Int) ≤ (p.length : Int) → (p.length : Int) < ((p ++ a :: r).length : Int) → p.length < 140737488355328 → IntKind.i64.wrap ((p.length : Int) + 1) = (p.length : Int) + 1 →
      I (p ++ [a]) (f p.length st a) ∧ l (k + 1) (p ++ a :: r) p.length st = l k (p ++ a :: r) ((p.length : Int) + 1) (f p.length st a))
    (xs : List α) (st : σ) (hE : ∀ x ∈ xs, E x) (hI : I [] st) (hB : xs.length ≤ 140737488355328) (k : Nat) (hk : xs.length < k) :
    I xs (foldi f 0 st xs) ∧ l k xs 0 st = fin xs (foldi f 0 st xs) := by
  have key : ∀ (r p : List α) (k : Nat) (st : σ), p.length + r.length ≤ 140737488355328 → (∀ x ∈ r, E x) → I p st → r.length < k → I (p ++ r) (foldi f p.length st r) ∧ l k (p ++ r) p.length st = fin (p ++ r) (foldi f p.length st r) := by
    intro r
    induction r with
    | nil =>
      intro p k st _ _ hI hk
      obtain ⟨k, rfl⟩ : ∃ j, k = j + 1 := ⟨k - 1, by omega⟩
      rw [List.append_nil]; exact ⟨hI, hn k p st hI⟩
    | cons a r ih =>
      intro p k st hb he hI hk
      simp only [List.length_cons] at hk hb
      obtain ⟨k, rfl⟩ : ∃ j, k = j + 1 := ⟨k - 1, by omega⟩
      have hm := mid_len p r a
      obtain ⟨h1, h2⟩ := hc k p a r st (he a (by simp)) hI (by omega) (by omega) (by omega) (w64 (by omega) (by omega))
      have := ih (p ++ [a]) k (f p.length st a) (by simp; omega) (fun y hy => he y (by simp [hy])) h1 (by omega)
      rw [mid_snoc, snoc_len] at this
      rw [h2]
      simpa [foldi] using this
  have := key xs [] k st (by simpa using hB) hE hI hk
  simpa using this
/-- the same over a string's bytes -/
theorem fold_loop_str {σ ρ : Type} (I : List UInt8 → σ → Prop) (f : Nat → σ → UInt8 → σ) (fin : ByteArray → σ → Option ρ) (l : Nat → ByteArray → Int → σ → Option ρ)
    (hn : ∀ k p st, I p st → l (k + 1) (ob p) p.length st = fin (ob p) st)
    (hc : ∀ k p a r st, I p st → (0 : Int) ≤ (p.length : Int) → (p.length : Int) < ((ob (p ++ a :: r)).size : Int) → p.length < 140737488355328 → IntKind.i64.wrap ((p.length : Int) + 1) = (p.length : Int) + 1 →
      I (p ++ [a]) (f p.length st a) ∧ l (k + 1) (ob (p ++ a :: r)) p.length st = l k (ob (p ++ a :: r)) ((p.length : Int) + 1) (f p.length st a))
    (s : ByteArray) (st : σ) (hI : I [] st) (hB : s.size ≤ 140737488355328) (k : Nat) (hk : s.size < k) :
    I (bl s) (foldi f 0 st (bl s)) ∧ l k s 0 st = fin s (foldi f 0 st (bl s)) := by
  have := fold_loop (E := fun _ => True) I f (fun x => fin (ob x)) (fun k x i st => l k (ob x) i st) hn (fun k p a r st _ hI h1 h2 h3 h4 => hc k p a r st hI h1 (by rw [ob_size]; exact h2) h3 h4) (bl s) st (fun _ _ => trivial) hI (by rw [bl_length]; exact hB) k (by rw [bl_length]; exact hk)
  rw [ob_bl] at this
  exact this
/-- fold_loop, of one row: the rounds may look at it as a whole -/
theorem fold_fix {α σ ρ : Type} {E : α → Prop} (I : List α → σ → Prop) (f : Nat → σ → α → σ) (fin : σ → Option ρ) (l : Nat → Int → σ → Option ρ) (xs : List α)
    (hn : ∀ k st, I xs st → l (k + 1) xs.length st = fin st)
    (hc : ∀ k p a r st, xs = p ++ a :: r → E a → I p st → (0 : Int) ≤ (p.length : Int) → (p.length : Int) < (xs.length : Int) → p.length < 140737488355328 → IntKind.i64.wrap ((p.length : Int) + 1) = (p.length : Int) + 1 → (∀ z, xs.getD p.length z = a) →
      I (p ++ [a]) (f p.length st a) ∧ l (k + 1) p.length st = l k ((p.length : Int) + 1) (f p.length st a))
    (st : σ) (hE : ∀ x ∈ xs, E x) (hI : I [] st) (hB : xs.length ≤ 140737488355328) (k : Nat) (hk : xs.length < k) :
    I xs (foldi f 0 st xs) ∧ l k 0 st = fin (foldi f 0 st xs) := by
  have key : ∀ (r p : List α) (k : Nat) (st : σ), xs = p ++ r → (∀ x ∈ r, E x) → I p st → r.length < k → I xs (foldi f p.length st r) ∧ l k p.length st = fin (foldi f p.length st r) := by
    intro r
    induction r with
    | nil =>
      intro p k st hx _ hI hk
      obtain ⟨k, rfl⟩ : ∃ j, k = j + 1 := ⟨k - 1, by omega⟩
      rw [List.append_nil] at hx
      subst hx; exact ⟨hI, hn k st hI⟩
    | cons a r ih =>
      intro p k st hx he hI hk
      simp only [List.length_cons] at hk
      obtain ⟨k, rfl⟩ : ∃ j, k = j + 1 := ⟨k - 1, by omega⟩
      have hm := mid_len p r a
      have hxl : (xs.length : Int) = ((p ++ a :: r).length : Int) := by rw [hx]
      obtain ⟨h1, h2⟩ := hc k p a r st hx (he a (by simp)) hI (by omega) (by omega) (by omega) (w64 (by omega) (by omega)) (fun z => by rw [hx, mid_getn])
      have := ih (p ++ [a]) k (f p.length st a) (by rw [hx]; simp) (fun y hy => he y (by simp [hy])) h1 (by omega)
      rw [snoc_len] at this
      rw [h2]
      simpa [foldi] using this
  have := key xs [] k st (by simp) hE hI hk
  simpa using this
/-- the first element that is looked for, and its number -/
def firstOf {α : Type} (P : α → Bool) : Nat → List α → Option (Nat × α)
  | _, [] => none
  | i, a :: r => if P a = true then some (i, a) else firstOf P (i + 1) r
theorem find_loop {α ρ : Type} {E : α → Prop} (P : α → Bool) (hit : Nat → α → Option ρ) (fin : List α → Option ρ) (l : Nat → List α → Int → Option ρ)
    (hn : ∀ k p, l (k + 1) p p.length = fin p)
    (hc : ∀ k p a r, E a → (0 : Int) ≤ (p.length : Int) → (p.length : Int) < ((p ++ a :: r).length : Int) → p.length < 140737488355328 → IntKind.i64.wrap ((p.length : Int) + 1) = (p.length : Int) + 1 → l (k + 1) (p ++ a :: r) p.length = if P a = true then hit p.length a else l k (p ++ a :: r) ((p.length : Int) + 1))
    (xs : List α) (hE : ∀ x ∈ xs, E x) (hB : xs.length ≤ 140737488355328) (k : Nat) (hk : xs.length < k) : l k xs 0 = (firstOf P 0 xs).elim (fin xs) (fun x => hit x.1 x.2) := by
  have key : ∀ (r p : List α) (k : Nat), p.length + r.length ≤ 140737488355328 → (∀ x ∈ r, E x) → r.length < k → l k (p ++ r) p.length = (firstOf P p.length r).elim (fin (p ++ r)) (fun x => hit x.1 x.2) := by
    intro r
    induction r with
    | nil =>
      intro p k _ _ hk
      obtain ⟨k, rfl⟩ : ∃ j, k = j + 1 := ⟨k - 1, by omega⟩
      rw [List.append_nil, hn]; rfl
    | cons a r ih =>
      intro p k hb he hk
      simp only [List.length_cons] at hk hb
      obtain ⟨k, rfl⟩ : ∃ j, k = j + 1 := ⟨k - 1, by omega⟩
      have hm := mid_len p r a
      rw [hc k p a r (he a (by simp)) (by omega) (by omega) (by omega) (w64 (by omega) (by omega))]
      have := ih (p ++ [a]) k (by simp; omega) (fun y hy => he y (by simp [hy])) (by omega)
      rw [mid_snoc, snoc_len] at this
      rw [this]
      cases h : P a <;> simp [h, firstOf]
  have := key xs [] k (by simpa using hB) hE hk
  simpa using this
end Go.Pl

namespace Go.Pl
open Go.Ev
set_option linter.unusedVariables false
set_option linter.unusedSimpArgs false
/-- a source of numbers -/
def SrcOk (s : List Int × Int × Int) : Prop := s.1.length ≤ 4096 ∧ (∀ c ∈ s.1, 0 ≤ c ∧ c ≤ 255) ∧ (0 ≤ s.2.1 ∧ s.2.1 ≤ (s.1.length : Int)) ∧ 0 ≤ s.2.2 ∧ s.2.2 < 2147483647
theorem tmod_bd {a n : Int} (h : 0 ≤ a) (hn : 0 < n) : 0 ≤ Int.tmod a n ∧ Int.tmod a n < n := by
  rw [Int.tmod_eq_emod_of_nonneg h]
  exact ⟨Int.emod_nonneg _ (by omega), Int.emod_lt_of_pos _ hn⟩
theorem getD_mem {xs : List Int} {i : Nat} (h : i < xs.length) : xs.getD i 0 ∈ xs := by
  rw [List.getD_eq_getElem?_getD, List.getElem?_eq_getElem h]; exact List.getElem_mem h
theorem next_ok {s : List Int × Int × Int} (hs : SrcOk s) (n : Int) (hn : n ≤ 1000000000000000) : ∃ x s', spec_l01Next.f s n = some (x, s') ∧ SrcOk s' ∧ 0 ≤ x ∧ (x < n ∨ x = 0) := by
  obtain ⟨code, at_, seed⟩ := s
  obtain ⟨h1, h2, h3, h4, h5⟩ := hs
  simp only at h1 h2 h3 h4 h5
  unfold spec_l01Next.f spec_l01Next.fn spec_l01Next.top
  by_cases hn1 : n ≤ 1
  · simp only [hn1, decide_true, if_true]
    exact ⟨0, _, rfl, ⟨h1, h2, h3, h4, h5⟩, by omega, .inr rfl⟩
  have w1 := w64 (n := seed * 48271) (by omega) (by omega)
  have w2 := w64 (n := seed * 48271 + 29) (by omega) (by omega)
  have hm := @tmod_bd (seed * 48271 + 29) 2147483647 (by omega) (by omega)
  have hd : Int.tdiv (Int.tmod (seed * 48271 + 29) 2147483647) 31 = Int.tmod (seed * 48271 + 29) 2147483647 / 31 := Int.tdiv_eq_ediv_of_nonneg hm.1
  have w3 := w64 (n := Int.tdiv (Int.tmod (seed * 48271 + 29) 2147483647) 31) (by omega) (by omega)
  have w4 := w64 (n := at_ + 1) (by omega) (by omega)
  have w5 := w64 (n := at_ + 1 - 1) (by omega) (by omega)
  have hnz : ¬ n = 0 := by omega
  simp only [hn1, decide_false, Bool.false_eq_true, if_false, w1, w2, w3, w4, w5, hnz, decide_eq_true_eq]
  by_cases ha : at_ < (code.length : Int)
  · have hc := h2 _ (getD_mem (show at_.toNat < code.length by omega))
    have hc' : (0 : Int) ≤ at_ + 1 - 1 ∧ at_ + 1 - 1 < (code.length : Int) := by omega
    have e1 : (at_ + 1 - 1).toNat = at_.toNat := by omega
    have w6 := w64 (n := code.getD at_.toNat 0) (by omega) (by omega)
    have w7 := w64 (n := Int.tdiv (Int.tmod (seed * 48271 + 29) 2147483647) 31 + code.getD at_.toNat 0) (by omega) (by omega)
    have b1 := @tmod_bd (code.getD at_.toNat 0) n hc.1 (by omega)
    have b2 := @tmod_bd (Int.tdiv (Int.tmod (seed * 48271 + 29) 2147483647) 31 + code.getD at_.toNat 0) n (by omega) (by omega)
    have hs' : SrcOk (code, at_ + 1, Int.tmod (seed * 48271 + 29) 2147483647) := ⟨h1, h2, ⟨by simp only; omega, by simp only; omega⟩, hm.1, hm.2⟩
    simp only [ha, h3.1, and_self, if_true, hc', e1, w6, w7]
    by_cases h256 : n ≤ 256
    · simp only [h256, if_true]
      split
      · exact ⟨_, _, rfl, hs', b1.1, .inl b1.2⟩
      · exact ⟨_, _, rfl, hs', b2.1, .inl b2.2⟩
    · simp only [h256, if_false]
      exact ⟨_, _, rfl, hs', b2.1, .inl b2.2⟩
  · have b3 := @tmod_bd (Int.tdiv (Int.tmod (seed * 48271 + 29) 2147483647) 31) n (by omega) (by omega)
    simp only [ha, if_false]
    exact ⟨_, _, rfl, ⟨h1, h2, h3, hm.1, hm.2⟩, b3.1, .inl b3.2⟩
theorem pick_ok {s : List Int × Int × Int} (hs : SrcOk s) (xs : List Int) (h : 1 ≤ xs.length) (hl : xs.length ≤ 1000) : ∃ x s', spec_l01Pick.f s xs = some (x, s') ∧ SrcOk s' ∧ x ∈ xs := by
  obtain ⟨x, s', e, h1, h2, h3⟩ := next_ok hs (xs.length : Int) (by omega)
  have hx : x < (xs.length : Int) := by omega
  unfold spec_l01Pick.f spec_l01Pick.fn spec_l01Pick.top
  rw [e]
  simp only [Option.bind_some, h2, hx, and_self, if_true]
  exact ⟨_, _, rfl, h1, getD_mem (by omega)⟩
theorem from_l (code : List Int) (hl : code.length ≤ 4096) (hc : ∀ c ∈ code, 0 ≤ c ∧ c ≤ 255) (c : List Int) (b : Int) : ∀ (d i k : Nat) (seed : Int), i + d = code.length → d < k → 0 ≤ seed → seed < 2147483647 → ∃ seed', spec_l01From.l3 NN k code i c b seed = some (c, b, seed') ∧ 0 ≤ seed' ∧ seed' < 2147483647 := by
  intro d
  induction d with
  | zero =>
    intro i k seed hi hk h0 h1
    obtain ⟨k, rfl⟩ : ∃ j, k = j + 1 := ⟨k - 1, by omega⟩
    have n1 : ¬ (i : Int) < (code.length : Int) := by omega
    exact ⟨seed, by simp only [spec_l01From.l3, spec_l01From.g3, n1, decide_false, Bool.false_eq_true, if_false], h0, h1⟩
  | succ d ih =>
    intro i k seed hi hk h0 h1
    obtain ⟨k, rfl⟩ : ∃ j, k = j + 1 := ⟨k - 1, by omega⟩
    have n1 : (i : Int) < (code.length : Int) := by omega
    by_cases h64 : (i : Int) < 64
    · have hcc := hc _ (getD_mem (show i < code.length by omega))
      have w1 := w64 (n := seed * 83) (by omega) (by omega)
      have w2 := w64 (n := code.getD i 0) (by omega) (by omega)
      have w3 := w64 (n := seed * 83 + code.getD i 0) (by omega) (by omega)
      have w4 := w64 (n := (i : Int) + 1) (by omega) (by omega)
      have hm := @tmod_bd (seed * 83 + code.getD i 0) 2147483647 (by omega) (by omega)
      obtain ⟨s', e1, e2⟩ := ih (i + 1) k (Int.tmod (seed * 83 + code.getD i 0) 2147483647) (by omega) (by omega) hm.1 hm.2
      refine ⟨s', ?_, e2⟩
      simp only [spec_l01From.l3, spec_l01From.g3, n1, h64, decide_true, if_true, Int.toNat_natCast, w1, w2, w3, w4, show (0 : Int) ≤ (i : Int) from by omega, and_self]
      exact e1
    · exact ⟨seed, by simp only [spec_l01From.l3, spec_l01From.g3, n1, h64, decide_true, if_true, decide_false, Bool.false_eq_true, if_false], h0, h1⟩
def CodeOk (code : List Int) : Prop := code.length ≤ 4096 ∧ ∀ c ∈ code, 0 ≤ c ∧ c ≤ 255
theorem from_ok {code : List Int} (h : CodeOk code) : ∃ s, spec_l01From.f code = some s ∧ SrcOk s := by
  obtain ⟨s', e, h1, h2⟩ := from_l code h.1 h.2 code 0 code.length 0 NN 61043 (by omega) (by have := h.1; exact NN_lt (by omega)) (by omega) (by omega)
  exact ⟨(code, 0, s'), e, h.1, h.2, ⟨by simp only; omega, by simp only; omega⟩, h1, h2⟩
theorem big_f (code : List Int) : laws_big.f code = some (decide ((4096 : Int) < (code.length : Int))) := rfl
theorem code_of {code : List Int} (h : Ls (Rg .u8) code) (hb : ¬ (4096 : Int) < (code.length : Int)) : CodeOk code := ⟨by omega, fun c hc => wf8.1 (h.2 c hc)⟩
end Go.Pl

namespace Go.Pl
open Go.Ev
set_option linter.unusedVariables false
set_option linter.unusedSimpArgs false
def inB (n lo hi : Int) : Bool := decide (lo ≤ n) && decide (n ≤ hi)
theorem inB_iff {n lo hi : Int} : inB n lo hi = true ↔ lo ≤ n ∧ n ≤ hi := by unfold inB; simp
theorem impl_within_f (n lo hi : Int) : impl_within.f n lo hi = some (inB n lo hi) := by
  unfold impl_within.f impl_within.fn impl_within.top inB
  by_cases h : lo ≤ n <;> simp [h]
theorem spec_l01In_f (n lo hi : Int) : spec_l01In.f n lo hi = some (inB n lo hi) := by
  unfold spec_l01In.f spec_l01In.fn spec_l01In.top inB
  by_cases h : lo ≤ n <;> simp [h]
/-- a letter -/
def letB (c : UInt8) : Bool := !(decide ((c.toNat : Int) < 97)) && !(decide (122 < (c.toNat : Int)))
def wordB (s : ByteArray) : Bool := decide (1 ≤ s.size) && decide (s.size ≤ 16) && (bl s).all letB
theorem wordB_size {s : ByteArray} (h : wordB s = true) : 1 ≤ s.size ∧ s.size ≤ 16 := by
  unfold wordB at h; simp at h; exact h.1
theorem impl_IsWord_loop (s : ByteArray) (h : s.size ≤ 140737488355328) : impl_IsWord.l4 NN NN s 0 = if (bl s).all letB = true then some true else some false := by
  refine all_loop_str letB (fun s => some true) (fun k s i => impl_IsWord.l4 NN k s i) ?_ ?_ s h NN (NN_lt (by omega))
  · intro k p
    show impl_IsWord.g4 _ (ob p) p.length = _
    simp [impl_IsWord.g4, ob_size, spec_l01In_f]
  · intro k p a r c0 c1 cw
    show impl_IsWord.g4 (impl_IsWord.l4 NN k) (ob (p ++ a :: r)) p.length = _
    simp only [impl_IsWord.g4, c0, c1, cw, and_self, and_true, true_and, decide_true, decide_false, if_true, if_false, mid_get, mid_set, mid_getn, mid_setn, bt_mid, Option.bind_some, Bool.not_true, Bool.not_false, Bool.false_eq_true, Bool.true_eq_false, beq_self_eq_true, bne_self_eq_false, Int.toNat_natCast]
    unfold letB
    by_cases h1 : (a.toNat : Int) < 97 <;> by_cases h2 : (122 : Int) < (a.toNat : Int) <;> simp [h1, h2]
theorem spec_IsWord_loop (s : ByteArray) (h : s.size ≤ 140737488355328) : spec_IsWord.l2 NN NN s 0 = if (bl s).all letB = true then some (inB s.size 1 16) else some false := by
  refine all_loop_str letB (fun s => some (inB s.size 1 16)) (fun k s i => spec_IsWord.l2 NN k s i) ?_ ?_ s h NN (NN_lt (by omega))
  · intro k p
    show spec_IsWord.g2 _ (ob p) p.length = _
    simp [spec_IsWord.g2, ob_size, spec_l01In_f]
  · intro k p a r c0 c1 cw
    show spec_IsWord.g2 (spec_IsWord.l2 NN k) (ob (p ++ a :: r)) p.length = _
    simp only [spec_IsWord.g2, c0, c1, cw, and_self, and_true, true_and, decide_true, decide_false, if_true, if_false, mid_get, mid_set, mid_getn, mid_setn, bt_mid, Option.bind_some, Bool.not_true, Bool.not_false, Bool.false_eq_true, Bool.true_eq_false, beq_self_eq_true, bne_self_eq_false, Int.toNat_natCast]
    unfold letB
    by_cases h1 : (a.toNat : Int) < 97 <;> by_cases h2 : (122 : Int) < (a.toNat : Int) <;> simp [h1, h2]
theorem impl_IsWord_f (s : ByteArray) (h : s.size ≤ 140737488355328) : impl_IsWord.f s = some (wordB s) := by
  unfold impl_IsWord.f impl_IsWord.fn impl_IsWord.top
  rw [impl_IsWord_loop s h]
  unfold wordB
  by_cases h1 : (s.size : Int) < 1
  · have : ¬ 1 ≤ s.size := by omega
    simp [h1, this]
  · have e1 : 1 ≤ s.size := by omega
    by_cases h2 : (16 : Int) < s.size
    · have : ¬ s.size ≤ 16 := by omega
      simp [h1, h2, this]
    · have : s.size ≤ 16 := by omega
      cases h3 : (bl s).all letB <;> simp [h1, h2, this, h3, e1]
theorem spec_IsWord_f (s : ByteArray) (h : s.size ≤ 140737488355328) : spec_IsWord.f s = some (wordB s) := by
  unfold spec_IsWord.f spec_IsWord.fn spec_IsWord.top
  rw [spec_IsWord_loop s h]
  unfold wordB inB
  have e1 : decide ((1 : Int) ≤ s.size) = decide (1 ≤ s.size) := by congr 1; simp; omega
  have e2 : decide ((s.size : Int) ≤ 16) = decide (s.size ≤ 16) := by congr 1; simp; omega
  rw [e1, e2]
  cases h3 : (bl s).all letB <;> simp
end Go.Pl

namespace Go.Pl
open Go.Ev
set_option linter.unusedVariables false
set_option linter.unusedSimpArgs false
def PlRatio (x : Int × Int) : Prop := Rg .i64 x.1 ∧ Rg .i64 x.2
def OkRatio (x : Int × Int) : Prop := Rg .i64 x.1 ∧ Rg .i64 x.2
def PlArticle (x : ByteArray × Int × Int × Int × Int × Int × Int × Int × Int) : Prop := Sz x.1 ∧ Rg .i64 x.2.1 ∧ Rg .i64 x.2.2.1 ∧ Rg .i64 x.2.2.2.1 ∧ Rg .i64 x.2.2.2.2.1 ∧ Rg .i64 x.2.2.2.2.2.1 ∧ Rg .i64 x.2.2.2.2.2.2.1 ∧ Rg .i64 x.2.2.2.2.2.2.2.1 ∧ Rg .i64 x.2.2.2.2.2.2.2.2
def OkArticle (x : ByteArray × Int × Int × Int × Int × Int × Int × Int × Int) : Prop := Sm x.1 ∧ Rg .i64 x.2.1 ∧ Rg .i64 x.2.2.1 ∧ Rg .i64 x.2.2.2.1 ∧ Rg .i64 x.2.2.2.2.1 ∧ Rg .i64 x.2.2.2.2.2.1 ∧ Rg .i64 x.2.2.2.2.2.2.1 ∧ Rg .i64 x.2.2.2.2.2.2.2.1 ∧ Rg .i64 x.2.2.2.2.2.2.2.2
def PlLayer (x : Int × Int × Int) : Prop := Rg .i64 x.1 ∧ Rg .i64 x.2.1 ∧ Rg .i64 x.2.2
def OkLayer (x : Int × Int × Int) : Prop := Rg .i64 x.1 ∧ Rg .i64 x.2.1 ∧ Rg .i64 x.2.2
def PlShot (x : Int × Int × Int × Int) : Prop := Rg .i64 x.1 ∧ Rg .i64 x.2.1 ∧ Rg .i64 x.2.2.1 ∧ Rg .i64 x.2.2.2
def OkShot (x : Int × Int × Int × Int) : Prop := Rg .i64 x.1 ∧ Rg .i64 x.2.1 ∧ Rg .i64 x.2.2.1 ∧ Rg .i64 x.2.2.2
def PlBar (x : Int × Int) : Prop := Rg .i64 x.1 ∧ Rg .i64 x.2
def OkBar (x : Int × Int) : Prop := Rg .i64 x.1 ∧ Rg .i64 x.2
def PlCue (x : Int × Int × ByteArray × Int) : Prop := Rg .i64 x.1 ∧ Rg .i64 x.2.1 ∧ Sz x.2.2.1 ∧ Rg .i64 x.2.2.2
def OkCue (x : Int × Int × ByteArray × Int) : Prop := Rg .i64 x.1 ∧ Rg .i64 x.2.1 ∧ Sm x.2.2.1 ∧ Rg .i64 x.2.2.2
def PlShow (x : (List (Int × Int)) × (List (ByteArray × Int × Int × Int × Int × Int × Int × Int × Int)) × (List (Int × Int × ByteArray × Int))) : Prop := Ls PlBar x.1 ∧ Ls PlArticle x.2.1 ∧ Ls PlCue x.2.2
def OkShow (x : (List (Int × Int)) × (List (ByteArray × Int × Int × Int × Int × Int × Int × Int × Int)) × (List (Int × Int × ByteArray × Int))) : Prop := Lm OkBar x.1 ∧ Lm OkArticle x.2.1 ∧ Lm OkCue x.2.2
def PlFuse (x : Int × Int × Int × Int) : Prop := Rg .i64 x.1 ∧ Rg .i64 x.2.1 ∧ Rg .i64 x.2.2.1 ∧ Rg .i64 x.2.2.2
def OkFuse (x : Int × Int × Int × Int) : Prop := Rg .i64 x.1 ∧ Rg .i64 x.2.1 ∧ Rg .i64 x.2.2.1 ∧ Rg .i64 x.2.2.2
def PlLink (x : Int × Int) : Prop := Rg .i64 x.1 ∧ Rg .i64 x.2
def OkLink (x : Int × Int) : Prop := Rg .i64 x.1 ∧ Rg .i64 x.2
def PlModule (x : Int × Int) : Prop := Rg .i64 x.1 ∧ Rg .i64 x.2
def OkModule (x : Int × Int) : Prop := Rg .i64 x.1 ∧ Rg .i64 x.2
def PlWire (x : Int × Int × Int) : Prop := Rg .i64 x.1 ∧ Rg .i64 x.2.1 ∧ Rg .i64 x.2.2
def OkWire (x : Int × Int × Int) : Prop := Rg .i64 x.1 ∧ Rg .i64 x.2.1 ∧ Rg .i64 x.2.2
def PlCircuit (x : Int × List Int) : Prop := Rg .i64 x.1 ∧ Ls (Rg .i64) x.2
def OkCircuit (x : Int × List Int) : Prop := Rg .i64 x.1 ∧ Lm (Rg .i64) x.2
def PlArea (x : Int × Int × Int × Int × Int) : Prop := Rg .i64 x.1 ∧ Rg .i64 x.2.1 ∧ Rg .i64 x.2.2.1 ∧ Rg .i64 x.2.2.2.1 ∧ Rg .i64 x.2.2.2.2
def OkArea (x : Int × Int × Int × Int × Int) : Prop := Rg .i64 x.1 ∧ Rg .i64 x.2.1 ∧ Rg .i64 x.2.2.1 ∧ Rg .i64 x.2.2.2.1 ∧ Rg .i64 x.2.2.2.2
def PlDemand (x : Int × Int × Int) : Prop := Rg .i64 x.1 ∧ Rg .i64 x.2.1 ∧ Rg .i64 x.2.2
def OkDemand (x : Int × Int × Int) : Prop := Rg .i64 x.1 ∧ Rg .i64 x.2.1 ∧ Rg .i64 x.2.2
def PlRack (x : Int × Int × List Int × List ByteArray) : Prop := Rg .i64 x.1 ∧ Rg .i64 x.2.1 ∧ Ls (Rg .i64) x.2.2.1 ∧ Ls Sz x.2.2.2
def OkRack (x : Int × Int × List Int × List ByteArray) : Prop := Rg .i64 x.1 ∧ Rg .i64 x.2.1 ∧ Lm (Rg .i64) x.2.2.1 ∧ Lm Sm x.2.2.2
def PlField (x : (List (Int × Int × Int)) × (List (Int × Int × Int × Int × Int)) × List Int × List Int × List Int × Int) : Prop := Ls PlDemand x.1 ∧ Ls PlArea x.2.1 ∧ Ls (Rg .i64) x.2.2.1 ∧ Ls (Rg .i64) x.2.2.2.1 ∧ Ls (Rg .i64) x.2.2.2.2.1 ∧ Rg .i64 x.2.2.2.2.2
def OkField (x : (List (Int × Int × Int)) × (List (Int × Int × Int × Int × Int)) × List Int × List Int × List Int × Int) : Prop := Lm OkDemand x.1 ∧ Lm OkArea x.2.1 ∧ Lm (Rg .i64) x.2.2.1 ∧ Lm (Rg .i64) x.2.2.2.1 ∧ Lm (Rg .i64) x.2.2.2.2.1 ∧ Rg .i64 x.2.2.2.2.2
def PlMove (x : Int × ByteArray × Int) : Prop := Rg .i64 x.1 ∧ Sz x.2.1 ∧ Rg .i64 x.2.2
def OkMove (x : Int × ByteArray × Int) : Prop := Rg .i64 x.1 ∧ Sm x.2.1 ∧ Rg .i64 x.2.2
def PlController (x : Bool × Bool × Bool × Bool × Bool × Int) : Prop := True ∧ True ∧ True ∧ True ∧ True ∧ Rg .i64 x.2.2.2.2.2
def OkController (x : Bool × Bool × Bool × Bool × Bool × Int) : Prop := True ∧ True ∧ True ∧ True ∧ True ∧ Rg .i64 x.2.2.2.2.2
def PlSignal (x : Int × Int) : Prop := Rg .i64 x.1 ∧ Rg .i64 x.2
def OkSignal (x : Int × Int) : Prop := Rg .i64 x.1 ∧ Rg .i64 x.2
def PlTry (x : Int × Int × Bool) : Prop := Rg .i64 x.1 ∧ Rg .i64 x.2.1 ∧ True
def OkTry (x : Int × Int × Bool) : Prop := Rg .i64 x.1 ∧ Rg .i64 x.2.1 ∧ True
def PlMagazine (x : Int × List Int) : Prop := Rg .i64 x.1 ∧ Ls (Rg .i64) x.2
def OkMagazine (x : Int × List Int) : Prop := Rg .i64 x.1 ∧ Lm (Rg .i64) x.2
def PlDepot (x : Int × Int × Int) : Prop := Rg .i64 x.1 ∧ Rg .i64 x.2.1 ∧ Rg .i64 x.2.2
def OkDepot (x : Int × Int × Int) : Prop := Rg .i64 x.1 ∧ Rg .i64 x.2.1 ∧ Rg .i64 x.2.2
def PlBox (x : Int × Int) : Prop := Rg .i64 x.1 ∧ Rg .i64 x.2
def OkBox (x : Int × Int) : Prop := Rg .i64 x.1 ∧ Rg .i64 x.2
def PlLine (x : ByteArray × Int) : Prop := Sz x.1 ∧ Rg .i64 x.2
def OkLine (x : ByteArray × Int) : Prop := Sm x.1 ∧ Rg .i64 x.2
def PlPaper (x : ByteArray × Int × (List (ByteArray × Int))) : Prop := Sz x.1 ∧ Rg .i64 x.2.1 ∧ Ls PlLine x.2.2
def OkPaper (x : ByteArray × Int × (List (ByteArray × Int))) : Prop := Sm x.1 ∧ Rg .i64 x.2.1 ∧ Lm OkLine x.2.2
def PlPermit (x : Int × Int × Int × Int × List Int × Int) : Prop := Rg .i64 x.1 ∧ Rg .i64 x.2.1 ∧ Rg .i64 x.2.2.1 ∧ Rg .i64 x.2.2.2.1 ∧ Ls (Rg .i64) x.2.2.2.2.1 ∧ Rg .i64 x.2.2.2.2.2
def OkPermit (x : Int × Int × Int × Int × List Int × Int) : Prop := Rg .i64 x.1 ∧ Rg .i64 x.2.1 ∧ Rg .i64 x.2.2.1 ∧ Rg .i64 x.2.2.2.1 ∧ Lm (Rg .i64) x.2.2.2.2.1 ∧ Rg .i64 x.2.2.2.2.2
def PlGrid (x : Int × Int × List Bool) : Prop := Rg .i64 x.1 ∧ Rg .i64 x.2.1 ∧ Ls (fun _ => True) x.2.2
def OkGrid (x : Int × Int × List Bool) : Prop := Rg .i64 x.1 ∧ Rg .i64 x.2.1 ∧ Lm (fun _ => True) x.2.2
def PlBooking (x : Int × ByteArray × Int) : Prop := Rg .i64 x.1 ∧ Sz x.2.1 ∧ Rg .i64 x.2.2
def OkBooking (x : Int × ByteArray × Int) : Prop := Rg .i64 x.1 ∧ Sm x.2.1 ∧ Rg .i64 x.2.2
def PlEntry (x : Int × ByteArray) : Prop := Rg .u8 x.1 ∧ Sz x.2
def OkEntry (x : Int × ByteArray) : Prop := Rg .u8 x.1 ∧ Sm x.2
def PlDesk (x : (List (Int × ByteArray × Int)) × (List (Int × Int)) × (List (Int × ByteArray × Int))) : Prop := Ls PlMove x.1 ∧ Ls PlSignal x.2.1 ∧ Ls PlBooking x.2.2
def OkDesk (x : (List (Int × ByteArray × Int)) × (List (Int × Int)) × (List (Int × ByteArray × Int))) : Prop := Lm OkMove x.1 ∧ Lm OkSignal x.2.1 ∧ Lm OkBooking x.2.2
end Go.Pl

namespace Go.Pl
open Go.Ev
set_option linter.unusedVariables false
set_option linter.unusedSimpArgs false
theorem impl_isDay_f (n : Int) : impl_isDay.f n = some (inB n 0 100000) := by
  unfold impl_isDay.f impl_isDay.fn impl_isDay.top
  rw [impl_within_f]; rfl
theorem impl_isCalibre_f (n : Int) : impl_isCalibre.f n = some (inB n 20 300) := by
  unfold impl_isCalibre.f impl_isCalibre.fn impl_isCalibre.top
  rw [impl_within_f]; rfl
theorem impl_allWithin_f (xs : List Int) (lo hi : Int) (h : xs.length ≤ 140737488355328) : impl_allWithin.f xs lo hi = some (xs.all (inB · lo hi)) := by
  have := all_loop (E := fun _ => True) (inB · lo hi) (fun _ => some true) (fun k xs i => impl_allWithin.l2 NN k lo hi xs xs.length i) ?_ ?_ xs (fun _ _ => trivial) h NN (NN_lt (by omega))
  · unfold impl_allWithin.f impl_allWithin.fn impl_allWithin.top
    refine this.trans ?_
    cases xs.all (inB · lo hi) <;> simp
  · intro k p
    simp [impl_allWithin.l2, impl_allWithin.g2]
  · intro k p a r _ c0 c1 cw
    simp only [impl_allWithin.l2, impl_allWithin.g2, c0, c1, cw, and_self, and_true, true_and, decide_true, decide_false, if_true, if_false, mid_get, mid_set, mid_getn, mid_setn, bt_mid, Option.bind_some, Bool.not_true, Bool.not_false, Bool.false_eq_true, Bool.true_eq_false, beq_self_eq_true, bne_self_eq_false, Int.toNat_natCast, impl_within_f]
    cases inB a lo hi <;> simp
/-- strictly rising -/
def risB : List Int → Bool
  | [] => true
  | [_] => true
  | a :: b :: r => decide (a < b) && risB (b :: r)
theorem risB_snoc : ∀ (p : List Int) (a b : Int), risB (p ++ [a, b]) = (risB (p ++ [a]) && decide (a < b)) := by
  intro p
  induction p with
  | nil => intro a b; simp [risB]
  | cons x p ih =>
    intro a b
    cases p with
    | nil => simp [risB]
    | cons y p =>
      have := ih a b
      simp only [List.cons_append] at this ⊢
      simp only [risB, this, Bool.and_assoc]
/-- rises, looked at from its second element on -/
def risF : Int → List Int → Bool
  | _, [] => true
  | a, b :: r => decide (a < b) && risF b r
theorem risB_cons (a : Int) (r : List Int) : risB (a :: r) = risF a r := by
  induction r generalizing a with
  | nil => rfl
  | cons b r ih => simp only [risB, risF, ih]
theorem snoc_getl (p r : List Int) (x a z : Int) : (p ++ [x] ++ a :: r).getD p.length z = x := by simp
theorem impl_IsPermit_loop (f t n c g : Int) : ∀ (r p : List Int) (x : Int) (k : Nat), p.length + r.length + 1 ≤ 140737488355328 → r.length < k →
    impl_IsPermit.l4 NN k ((p.length : Int) + 1) (f, t, n, c, p ++ [x] ++ r, g) = some (risF x r) := by
  intro r
  induction r with
  | nil =>
    intro p x k _ hk
    obtain ⟨k, rfl⟩ : ∃ j, k = j + 1 := ⟨k - 1, by omega⟩
    simp [impl_IsPermit.l4, impl_IsPermit.g4, risF]
  | cons a r ih =>
    intro p x k hb hk
    simp only [List.length_cons] at hb hk
    obtain ⟨k, rfl⟩ : ∃ j, k = j + 1 := ⟨k - 1, by omega⟩
    have hl : ((p ++ [x] ++ a :: r).length : Int) = p.length + r.length + 2 := by simp; omega
    have w1 := w64 (n := (p.length : Int) + 1 - 1) (by omega) (by omega)
    have w2 := w64 (n := (p.length : Int) + 1 + 1) (by omega) (by omega)
    have c1 : (p.length : Int) + 1 < ((p ++ [x] ++ a :: r).length : Int) := by omega
    have c2 : (0 : Int) ≤ (p.length : Int) + 1 - 1 := by omega
    have c3 : (p.length : Int) + 1 - 1 < ((p ++ [x] ++ a :: r).length : Int) := by omega
    have c4 : (0 : Int) ≤ (p.length : Int) + 1 := by omega
    have g1 : (p ++ [x] ++ a :: r).getD ((p.length : Int) + 1).toNat 0 = a := by
      rw [show ((p.length : Int) + 1).toNat = (p ++ [x]).length by simp, mid_getn]
    have g2 : (p ++ [x] ++ a :: r).getD ((p.length : Int) + 1 - 1).toNat 0 = x := by
      rw [show ((p.length : Int) + 1 - 1).toNat = p.length by omega, snoc_getl]
    simp only [impl_IsPermit.l4, impl_IsPermit.g4, w1, w2, c1, c2, c3, c4, g1, g2, and_self, decide_true, if_true, decide_eq_true_eq, risF]
    have := ih (p ++ [x]) a k (by simp; omega) (by omega)
    by_cases h : a ≤ x
    · have h' : ¬ x < a := by omega
      simp [h, h']
    · have h' : x < a := by omega
      simp only [h, h', if_false, decide_true, Bool.true_and]
      rw [← this]
      simp
theorem spec_l01Rises_loop (n : Int) (hn : Rg .i64 (n - 1)) : ∀ (r p : List Int) (x : Int) (k : Nat), p.length + r.length + 1 ≤ 140737488355328 → r.length < k →
    spec_l01Rises.l2 NN k (p ++ [x] ++ r) n ((p.length : Int) + 1) = some (r.all (inB · 0 (n - 1)) && risF x r) := by
  intro r
  induction r with
  | nil =>
    intro p x k _ hk
    obtain ⟨k, rfl⟩ : ∃ j, k = j + 1 := ⟨k - 1, by omega⟩
    simp [spec_l01Rises.l2, spec_l01Rises.g2, risF]
  | cons a r ih =>
    intro p x k hb hk
    simp only [List.length_cons] at hb hk
    obtain ⟨k, rfl⟩ : ∃ j, k = j + 1 := ⟨k - 1, by omega⟩
    have hl : ((p ++ [x] ++ a :: r).length : Int) = p.length + r.length + 2 := by simp; omega
    have w1 := w64 (n := (p.length : Int) + 1 - 1) (by omega) (by omega)
    have w2 := w64 (n := (p.length : Int) + 1 + 1) (by omega) (by omega)
    have hn' := wf64.1 hn
    have w3 := w64 (n := n - 1) (by omega) (by omega)
    have c1 : (p.length : Int) + 1 < ((p ++ [x] ++ a :: r).length : Int) := by omega
    have c2 : (0 : Int) ≤ (p.length : Int) + 1 - 1 := by omega
    have c3 : (p.length : Int) + 1 - 1 < ((p ++ [x] ++ a :: r).length : Int) := by omega
    have c4 : (0 : Int) ≤ (p.length : Int) + 1 := by omega
    have c5 : (0 : Int) < (p.length : Int) + 1 := by omega
    have g1 : (p ++ [x] ++ a :: r).getD ((p.length : Int) + 1).toNat 0 = a := by
      rw [show ((p.length : Int) + 1).toNat = (p ++ [x]).length by simp, mid_getn]
    have g2 : (p ++ [x] ++ a :: r).getD ((p.length : Int) + 1 - 1).toNat 0 = x := by
      rw [show ((p.length : Int) + 1 - 1).toNat = p.length by omega, snoc_getl]
    simp only [spec_l01Rises.l2, spec_l01Rises.g2, w1, w2, w3, c1, c2, c3, c4, c5, g1, g2, and_self, decide_true, if_true, decide_eq_true_eq, risF, spec_l01In_f, Option.bind_some, List.all_cons]
    have := ih (p ++ [x]) a k (by simp; omega) (by omega)
    cases h0 : inB a 0 (n - 1)
    · simp
    by_cases h : a ≤ x
    · have h' : ¬ x < a := by omega
      simp [h, h']
    · have h' : x < a := by omega
      simp only [h, h', if_false, decide_true, Bool.true_and, Bool.not_true, if_true]
      rw [← this]
      simp
theorem spec_l01Rises_f (xs : List Int) (n : Int) (hn : Rg .i64 (n - 1)) (h : xs.length ≤ 140737488355328) : spec_l01Rises.f xs n = some (xs.all (inB · 0 (n - 1)) && risB xs) := by
  unfold spec_l01Rises.f spec_l01Rises.fn spec_l01Rises.top
  obtain ⟨k, hk⟩ : ∃ j, NN = j + 1 := ⟨NN - 1, by have := NNb; omega⟩
  have hkb : 1000000000000000 < k := by rw [NN_eq] at hk; omega
  cases xs with
  | nil => rw [show spec_l01Rises.l2 NN NN = spec_l01Rises.l2 NN (k + 1) by rw [← hk]]; simp [spec_l01Rises.l2, spec_l01Rises.g2, risB]
  | cons a r =>
    simp only [List.length_cons] at h
    have hl := spec_l01Rises_loop n hn r [] a k (by simp; omega) (by omega)
    have hn' := wf64.1 hn
    have w3 := w64 (n := n - 1) (by omega) (by omega)
    have w1 := w64 (n := 0 + 1) (by omega) (by omega)
    have c1 : (0 : Int) < ((a :: r).length : Int) := by simp only [List.length_cons]; omega
    rw [show spec_l01Rises.l2 NN NN = spec_l01Rises.l2 NN (k + 1) by rw [← hk]]
    simp only [spec_l01Rises.l2, spec_l01Rises.g2, c1, w1, w3, spec_l01In_f]
    simp at hl
    simp [risB_cons, hl]
    cases inB a 0 (n - 1) <;> simp
def permB (p : Int × Int × Int × Int × List Int × Int) : Bool :=
  inB p.1 0 100000 && inB p.2.1 p.1 100000 && inB p.2.2.1 0 1000000000 && inB p.2.2.2.1 20 300 && (p.2.2.2.2.1.all (inB · 0 3) && risB p.2.2.2.2.1) && inB p.2.2.2.2.2 0 3
theorem spec_IsPermit_f (p : Int × Int × Int × Int × List Int × Int) (h : p.2.2.2.2.1.length ≤ 140737488355328) : spec_IsPermit.f p = some (permB p) := by
  unfold spec_IsPermit.f spec_IsPermit.fn spec_IsPermit.top permB
  simp only [spec_l01In_f, spec_l01Rises_f _ 4 (wf64.2 (by omega)) h, Option.bind_some, show (4 : Int) - 1 = 3 from rfl]
  cases inB p.1 0 100000 <;> cases inB p.2.1 p.1 100000 <;> cases inB p.2.2.1 0 1000000000 <;> cases inB p.2.2.2.1 20 300 <;> cases (p.2.2.2.2.1.all (inB · 0 3)) <;> cases risB p.2.2.2.2.1 <;> cases inB p.2.2.2.2.2 0 3 <;> rfl
theorem impl_IsPermit_f (p : Int × Int × Int × Int × List Int × Int) (h : p.2.2.2.2.1.length ≤ 140737488355328) : impl_IsPermit.f p = some (permB p) := by
  unfold impl_IsPermit.f impl_IsPermit.fn impl_IsPermit.top permB
  obtain ⟨f, t, n, c, ks, g⟩ := p
  simp only at h
  have hl : impl_IsPermit.l4 NN NN 1 (f, t, n, c, ks, g) = some (risB ks) := by
    cases ks with
    | nil =>
      obtain ⟨k, hk⟩ : ∃ j, NN = j + 1 := ⟨NN - 1, by have := NNb; omega⟩
      rw [show impl_IsPermit.l4 NN NN = impl_IsPermit.l4 NN (k + 1) by rw [← hk]]
      simp [impl_IsPermit.l4, impl_IsPermit.g4, risB]
    | cons a r =>
      simp only [List.length_cons] at h
      have := impl_IsPermit_loop f t n c g r [] a NN (by simp; omega) (NN_lt (by omega))
      simp at this
      rw [risB_cons, ← this]
  simp only [impl_isDay_f, impl_isCalibre_f, impl_within_f, impl_allWithin_f _ _ _ h, Option.bind_some, hl]
  have e : (inB f 0 100000 && inB t f 100000) = (inB f 0 100000 && inB t 0 100000 && !decide (t < f)) := by
    unfold inB
    by_cases h1 : 0 ≤ f <;> by_cases h2 : f ≤ 100000 <;> by_cases h3 : t ≤ 100000 <;> by_cases h4 : f ≤ t <;> by_cases h5 : 0 ≤ t <;> simp [h1, h2, h3, h4, h5] <;> omega
  rw [e]
  cases inB f 0 100000 <;> cases inB t 0 100000 <;> cases decide (t < f) <;> cases inB n 0 1000000000 <;> cases inB c 20 300 <;> cases (ks.all (inB · 0 3)) <;> cases inB g 0 3 <;> simp
theorem IsPermit_core (p : Int × Int × Int × Int × List Int × Int) (h : OkPermit p) : ∃ w, spec_IsPermit.f p = some w ∧ impl_IsPermit.f p = some w ∧ True :=
  have h1 : p.2.2.2.2.1.length ≤ 140737488355328 := Nat.le_trans h.2.2.2.2.1.1 (by omega)
  ⟨_, spec_IsPermit_f p h1, impl_IsPermit_f p h1, trivial⟩
end Go.Pl

namespace Go.Pl
open Go.Ev
set_option linter.unusedVariables false
noncomputable section
def impl_areLines.g4 (L4 : (List (ByteArray × Int)) → (List (ByteArray × Int)) → Int → Int → Option Bool) (lines0 : List (ByteArray × Int)) (v8 : List (ByteArray × Int)) (v9 : Int) (v10 : Int) : Option Bool :=
  if (decide ((v10 : Int) < v9)) = true then
    if (0 : Int) ≤ v10 ∧ (v10 : Int) < v8.length then
      (impl_IsWord.f ((v8.getD (v10 : Int).toNat (ByteArray.empty, 0)).1)).bind fun r1 =>
      if (!r1) = false then
        (impl_within.f ((v8.getD (v10 : Int).toNat (ByteArray.empty, 0)).2) 1 1000).bind fun r2 =>
        if (!r2) = false then
          if (decide ((0 : Int) < v10)) = true then
            if (0 : Int) ≤ (IntKind.i64.wrap (v10 - 1)) ∧ ((IntKind.i64.wrap (v10 - 1)) : Int) < lines0.length then
              if (!(Op.bytesLess ((lines0.getD ((IntKind.i64.wrap (v10 - 1)) : Int).toNat (ByteArray.empty, 0)).1).toList ((v8.getD (v10 : Int).toNat (ByteArray.empty, 0)).1).toList)) = true then
                some false
              else
                L4 lines0 v8 v9 (IntKind.i64.wrap (v10 + 1))
            else
              none
          else
            L4 lines0 v8 v9 (IntKind.i64.wrap (v10 + 1))
        else
          some false
      else
        some false
    else
      none
  else
    some true
def impl_areLines.l4 (n : Nat) : Nat → (List (ByteArray × Int)) → (List (ByteArray × Int)) → Int → Int → Option Bool
  | 0 => fun _ _ _ _ => none
  | k + 1 => impl_areLines.g4 (impl_areLines.l4 n k)
def impl_areLines.top (I4 : (List (ByteArray × Int)) → (List (ByteArray × Int)) → Int → Int → Option Bool) (lines0 : List (ByteArray × Int)) : Option Bool :=
  if (decide ((12 : Int) < (lines0.length : Int))) = true then
    some false
  else
    I4 lines0 lines0 (lines0.length : Int) 0
def impl_areLines.fn (n : Nat) (lines0 : List (ByteArray × Int)) : Option Bool := impl_areLines.top (impl_areLines.l4 n n) lines0
def impl_areLines.f (lines0 : List (ByteArray × Int)) : Option Bool := impl_areLines.fn NN lines0
end
end Go.Pl

namespace Go.Pl
open Go.Ev
set_option linter.unusedVariables false
noncomputable section
def impl_IsPaper.top (p0 : ByteArray × Int × List (ByteArray × Int)) : Option Bool :=
  (impl_IsWord.f p0.1).bind fun r1 =>
  if r1 = true then
    (impl_isDay.f p0.2.1).bind fun r2 =>
    if r2 = true then
      (impl_areLines.f p0.2.2).bind fun r3 =>
      some r3
    else
      some false
  else
    some false
def impl_IsPaper.fn (n : Nat) (p0 : ByteArray × Int × List (ByteArray × Int)) : Option Bool := impl_IsPaper.top p0
def impl_IsPaper.f (p0 : ByteArray × Int × List (ByteArray × Int)) : Option Bool := impl_IsPaper.fn NN p0
end
end Go.Pl

namespace Go.Pl
open Go.Ev
set_option linter.unusedVariables false
noncomputable section
def spec_IsPaper.g2 (L2 : Int → (ByteArray × Int × List (ByteArray × Int)) → Option Bool) (i3 : Int) (p1 : ByteArray × Int × List (ByteArray × Int)) : Option Bool :=
  if (decide ((i3 : Int) < (p1.2.2.length : Int))) = true then
    if (0 : Int) ≤ i3 ∧ (i3 : Int) < p1.2.2.length then
      (spec_IsWord.f ((p1.2.2.getD (i3 : Int).toNat (ByteArray.empty, 0)).1)).bind fun r1 =>
      if (!r1) = false then
        if (0 : Int) ≤ i3 ∧ (i3 : Int) < p1.2.2.length then
          (spec_l01In.f ((p1.2.2.getD (i3 : Int).toNat (ByteArray.empty, 0)).2) 1 1000).bind fun r2 =>
          if (!r2) = false then
            if (decide ((0 : Int) < i3)) = true then
              if (0 : Int) ≤ (IntKind.i64.wrap (i3 - 1)) ∧ ((IntKind.i64.wrap (i3 - 1)) : Int) < p1.2.2.length then
                if (0 : Int) ≤ i3 ∧ (i3 : Int) < p1.2.2.length then
                  if (!(Op.bytesLess ((p1.2.2.getD ((IntKind.i64.wrap (i3 - 1)) : Int).toNat (ByteArray.empty, 0)).1).toList ((p1.2.2.getD (i3 : Int).toNat (ByteArray.empty, 0)).1).toList)) = true then
                    some false
                  else
                    L2 (IntKind.i64.wrap (i3 + 1)) p1
                else
                  none
              else
                none
            else
              L2 (IntKind.i64.wrap (i3 + 1)) p1
          else
            some false
        else
          none
      else
        some false
    else
      none
  else
    (spec_IsWord.f p1.1).bind fun r3 =>
    if r3 = true then
      (spec_l01In.f p1.2.1 0 100000).bind fun r4 =>
      if r4 = true then
        some (decide (((p1.2.2.length : Int) : Int) ≤ 12))
      else
        some false
    else
      some false
def spec_IsPaper.l2 (n : Nat) : Nat → Int → (ByteArray × Int × List (ByteArray × Int)) → Option Bool
  | 0 => fun _ _ => none
  | k + 1 => spec_IsPaper.g2 (spec_IsPaper.l2 n k)
def spec_IsPaper.top (I2 : Int → (ByteArray × Int × List (ByteArray × Int)) → Option Bool) (p0 : ByteArray × Int × List (ByteArray × Int)) : Option Bool :=
  I2 0 p0
def spec_IsPaper.fn (n : Nat) (p0 : ByteArray × Int × List (ByteArray × Int)) : Option Bool := spec_IsPaper.top (spec_IsPaper.l2 n n) p0
def spec_IsPaper.f (p0 : ByteArray × Int × List (ByteArray × Int)) : Option Bool := spec_IsPaper.fn NN p0
end
end Go.Pl

namespace Go.Pl
open Go.Ev
set_option linter.unusedVariables false
noncomputable section
def impl_countIn.g2 (L2 : ByteArray → (List (ByteArray × Int)) → Int → Int → Option Int) (article1 : ByteArray) (v7 : List (ByteArray × Int)) (v8 : Int) (v9 : Int) : Option Int :=
  if (decide ((v9 : Int) < v8)) = true then
    if (0 : Int) ≤ v9 ∧ (v9 : Int) < v7.length then
      if (((v7.getD (v9 : Int).toNat (ByteArray.empty, 0)).1).toList == article1.toList) = true then
        some ((v7.getD (v9 : Int).toNat (ByteArray.empty, 0)).2)
      else
        L2 article1 v7 v8 (IntKind.i64.wrap (v9 + 1))
    else
      none
  else
    some 0
def impl_countIn.l2 (n : Nat) : Nat → ByteArray → (List (ByteArray × Int)) → Int → Int → Option Int
  | 0 => fun _ _ _ _ => none
  | k + 1 => impl_countIn.g2 (impl_countIn.l2 n k)
def impl_countIn.top (I2 : ByteArray → (List (ByteArray × Int)) → Int → Int → Option Int) (lines0 : List (ByteArray × Int)) (article1 : ByteArray) : Option Int :=
  I2 article1 lines0 (lines0.length : Int) 0
def impl_countIn.fn (n : Nat) (lines0 : List (ByteArray × Int)) (article1 : ByteArray) : Option Int := impl_countIn.top (impl_countIn.l2 n n) lines0 article1
def impl_countIn.f (lines0 : List (ByteArray × Int)) (article1 : ByteArray) : Option Int := impl_countIn.fn NN lines0 article1
end
end Go.Pl

namespace Go.Pl
open Go.Ev
set_option linter.unusedVariables false
noncomputable section
def spec_l29Find.g2 (L2 : ByteArray → Int → (ByteArray × Int × List (ByteArray × Int)) → Option Int) (article1 : ByteArray) (i5 : Int) (p2 : ByteArray × Int × List (ByteArray × Int)) : Option Int :=
  if (decide ((i5 : Int) < (p2.2.2.length : Int))) = true then
    if (0 : Int) ≤ i5 ∧ (i5 : Int) < p2.2.2.length then
      if (((p2.2.2.getD (i5 : Int).toNat (ByteArray.empty, 0)).1).toList == article1.toList) = true then
        some i5
      else
        L2 article1 (IntKind.i64.wrap (i5 + 1)) p2
    else
      none
  else
    some (-1)
def spec_l29Find.l2 (n : Nat) : Nat → ByteArray → Int → (ByteArray × Int × List (ByteArray × Int)) → Option Int
  | 0 => fun _ _ _ => none
  | k + 1 => spec_l29Find.g2 (spec_l29Find.l2 n k)
def spec_l29Find.top (I2 : ByteArray → Int → (ByteArray × Int × List (ByteArray × Int)) → Option Int) (p0 : ByteArray × Int × List (ByteArray × Int)) (article1 : ByteArray) : Option Int :=
  I2 article1 0 p0
def spec_l29Find.fn (n : Nat) (p0 : ByteArray × Int × List (ByteArray × Int)) (article1 : ByteArray) : Option Int := spec_l29Find.top (spec_l29Find.l2 n n) p0 article1
def spec_l29Find.f (p0 : ByteArray × Int × List (ByteArray × Int)) (article1 : ByteArray) : Option Int := spec_l29Find.fn NN p0 article1
end
end Go.Pl

namespace Go.Pl
open Go.Ev
set_option linter.unusedVariables false
set_option linter.unusedSimpArgs false
def ltS (a b : ByteArray) : Bool := Op.bytesLess a.toList b.toList
def lineOk (l : ByteArray × Int) : Bool := wordB l.1 && inB l.2 1 1000
/-- lines behind another one -/
def linesF : ByteArray × Int → List (ByteArray × Int) → Bool
  | _, [] => true
  | x, a :: r => lineOk a && ltS x.1 a.1 && linesF a r
def linesL : List (ByteArray × Int) → Bool
  | [] => true
  | a :: r => lineOk a && linesF a r
def linesB (l : List (ByteArray × Int)) : Bool := decide (l.length ≤ 12) && linesL l
def paperB (p : ByteArray × Int × List (ByteArray × Int)) : Bool := wordB p.1 && inB p.2.1 0 100000 && linesB p.2.2
theorem snoc_getl' {α : Type} (p r : List α) (x a z : α) : (p ++ [x] ++ a :: r).getD p.length z = x := by simp
theorem impl_areLines_l : ∀ (r p : List (ByteArray × Int)) (x : ByteArray × Int) (k : Nat), p.length + r.length + 1 ≤ 1000000 → r.length < k → (∀ l ∈ r, Sz l.1) →
    impl_areLines.l4 NN k (p ++ [x] ++ r) (p ++ [x] ++ r) (p ++ [x] ++ r).length ((p.length : Int) + 1) = some (linesF x r) := by
  intro r
  induction r with
  | nil =>
    intro p x k _ hk _
    obtain ⟨k, rfl⟩ : ∃ j, k = j + 1 := ⟨k - 1, by omega⟩
    simp [impl_areLines.l4, impl_areLines.g4, linesF]
  | cons a r ih =>
    intro p x k hb hk hs
    simp only [List.length_cons] at hb hk
    obtain ⟨k, rfl⟩ : ∃ j, k = j + 1 := ⟨k - 1, by omega⟩
    have hl : ((p ++ [x] ++ a :: r).length : Int) = p.length + r.length + 2 := by simp; omega
    have w1 := w64 (n := (p.length : Int) + 1 - 1) (by omega) (by omega)
    have w2 := w64 (n := (p.length : Int) + 1 + 1) (by omega) (by omega)
    have c1 : (p.length : Int) + 1 < ((p ++ [x] ++ a :: r).length : Int) := by omega
    have c2 : (0 : Int) ≤ (p.length : Int) + 1 - 1 := by omega
    have c3 : (p.length : Int) + 1 - 1 < ((p ++ [x] ++ a :: r).length : Int) := by omega
    have c4 : (0 : Int) ≤ (p.length : Int) + 1 := by omega
    have c5 : (0 : Int) < (p.length : Int) + 1 := by omega
    have g1 : ∀ z, (p ++ [x] ++ a :: r).getD ((p.length : Int) + 1).toNat z = a := fun z => by
      rw [show ((p.length : Int) + 1).toNat = (p ++ [x]).length by simp, mid_getn]
    have g2 : ∀ z, (p ++ [x] ++ a :: r).getD ((p.length : Int) + 1 - 1).toNat z = x := fun z => by
      rw [show ((p.length : Int) + 1 - 1).toNat = p.length by omega, snoc_getl']
    have := ih (p ++ [x]) a k (by simp; omega) (by omega) (fun l h => hs l (by simp [h]))
    simp only [impl_areLines.l4, impl_areLines.g4, w1, w2, c1, c2, c3, c4, c5, g1, g2, and_self, and_true, true_and, decide_true, decide_false, if_true, if_false, mid_get, mid_set, mid_getn, mid_setn, bt_mid, Option.bind_some, Bool.not_true, Bool.not_false, Bool.false_eq_true, Bool.true_eq_false, beq_self_eq_true, bne_self_eq_false, Int.toNat_natCast, impl_IsWord_f _ (hs a (by simp)), impl_within_f, linesF, lineOk]
    cases wordB a.1
    · simp
    cases inB a.2 1 1000
    · simp
    show (if (!ltS x.1 a.1) = true then _ else _) = _
    cases ltS x.1 a.1
    · simp
    · simp only [and_self, and_true, true_and, decide_true, decide_false, if_true, if_false, mid_get, mid_set, mid_getn, mid_setn, bt_mid, Option.bind_some, Bool.not_true, Bool.not_false, Bool.false_eq_true, Bool.true_eq_false, beq_self_eq_true, bne_self_eq_false, Int.toNat_natCast, Bool.true_and]
      rw [← this]
      simp
theorem impl_areLines_f (xs : List (ByteArray × Int)) (h : Lm OkLine xs) : impl_areLines.f xs = some (linesB xs) := by
  unfold impl_areLines.f impl_areLines.fn impl_areLines.top linesB
  have hl := h.1
  by_cases h12 : (12 : Int) < (xs.length : Int)
  · have : ¬ xs.length ≤ 12 := by omega
    simp [h12, this]
  have e12 : xs.length ≤ 12 := by omega
  simp only [h12, e12, and_self, and_true, true_and, decide_true, decide_false, if_true, if_false, mid_get, mid_set, mid_getn, mid_setn, bt_mid, Option.bind_some, Bool.not_true, Bool.not_false, Bool.false_eq_true, Bool.true_eq_false, beq_self_eq_true, bne_self_eq_false, Int.toNat_natCast]
  obtain ⟨k, hk⟩ : ∃ j, NN = j + 1 := ⟨NN - 1, by have := NNb; omega⟩
  have hkb : 1000000000000000 < k := by rw [NN_eq] at hk; omega
  rw [show impl_areLines.l4 NN NN = impl_areLines.l4 NN (k + 1) by rw [← hk]]
  cases xs with
  | nil => simp [impl_areLines.l4, impl_areLines.g4, linesL]
  | cons a r =>
    simp only [List.length_cons] at hl
    have := impl_areLines_l r [] a k (by simp; omega) (by omega) (fun l hl => Nat.le_trans (h.2 l (by simp [hl])).1 (by omega))
    have w2 := w64 (n := 0 + 1) (by omega) (by omega)
    have c1 : (0 : Int) < ((a :: r).length : Int) := by simp only [List.length_cons]; omega
    simp only [impl_areLines.l4, impl_areLines.g4, c1, w2, and_self, and_true, true_and, decide_true, decide_false, if_true, if_false, mid_get, mid_set, mid_getn, mid_setn, bt_mid, Option.bind_some, Bool.not_true, Bool.not_false, Bool.false_eq_true, Bool.true_eq_false, beq_self_eq_true, bne_self_eq_false, Int.toNat_natCast, Int.le_refl, impl_IsWord_f _ (Nat.le_trans (h.2 a (by simp)).1 (show 1000000 ≤ 140737488355328 by omega)), impl_within_f, linesL, lineOk, List.getD_cons_zero, Int.toNat_zero]
    simp at this
    cases wordB a.1
    · simp
    cases inB a.2 1 1000
    · simp
    simp [this]
theorem impl_IsPaper_f (p : ByteArray × Int × List (ByteArray × Int)) (h : OkPaper p) : impl_IsPaper.f p = some (paperB p) := by
  unfold impl_IsPaper.f impl_IsPaper.fn impl_IsPaper.top paperB
  rw [impl_IsWord_f _ (Nat.le_trans h.1 (by omega)), impl_isDay_f, impl_areLines_f _ h.2.2]
  cases wordB p.1 <;> cases inB p.2.1 0 100000 <;> rfl
theorem spec_IsPaper_l (v : ByteArray) (d : Int) (hv : Sz v) : ∀ (r p : List (ByteArray × Int)) (x : ByteArray × Int) (k : Nat), p.length + r.length + 1 ≤ 1000000 → r.length < k → (∀ l ∈ r, Sz l.1) →
    spec_IsPaper.l2 NN k ((p.length : Int) + 1) (v, d, p ++ [x] ++ r) = some (linesF x r && (wordB v && inB d 0 100000 && decide ((p ++ [x] ++ r).length ≤ 12))) := by
  intro r
  induction r with
  | nil =>
    intro p x k hb hk _
    obtain ⟨k, rfl⟩ : ∃ j, k = j + 1 := ⟨k - 1, by omega⟩
    have e : decide (((p ++ [x]).length : Int) ≤ 12) = decide ((p ++ [x]).length ≤ 12) := by congr 1; exact propext (by omega)
    have c1 : ¬ (p.length : Int) + 1 < ((p ++ [x]).length : Int) := by simp
    simp only [spec_IsPaper.l2, spec_IsPaper.g2, List.append_nil, c1, and_self, and_true, true_and, decide_true, decide_false, if_true, if_false, mid_get, mid_set, mid_getn, mid_setn, bt_mid, Option.bind_some, Bool.not_true, Bool.not_false, Bool.false_eq_true, Bool.true_eq_false, beq_self_eq_true, bne_self_eq_false, Int.toNat_natCast, spec_IsWord_f v hv, spec_l01In_f, linesF, e]
    cases wordB v <;> cases inB d 0 100000 <;> rfl
  | cons a r ih =>
    intro p x k hb hk hs
    simp only [List.length_cons] at hb hk
    obtain ⟨k, rfl⟩ : ∃ j, k = j + 1 := ⟨k - 1, by omega⟩
    have hl : ((p ++ [x] ++ a :: r).length : Int) = p.length + r.length + 2 := by simp; omega
    have w1 := w64 (n := (p.length : Int) + 1 - 1) (by omega) (by omega)
    have w2 := w64 (n := (p.length : Int) + 1 + 1) (by omega) (by omega)
    have c1 : (p.length : Int) + 1 < ((p ++ [x] ++ a :: r).length : Int) := by omega
    have c2 : (0 : Int) ≤ (p.length : Int) + 1 - 1 := by omega
    have c3 : (p.length : Int) + 1 - 1 < ((p ++ [x] ++ a :: r).length : Int) := by omega
    have c4 : (0 : Int) ≤ (p.length : Int) + 1 := by omega
    have c5 : (0 : Int) < (p.length : Int) + 1 := by omega
    have g1 : ∀ z, (p ++ [x] ++ a :: r).getD ((p.length : Int) + 1).toNat z = a := fun z => by
      rw [show ((p.length : Int) + 1).toNat = (p ++ [x]).length by simp, mid_getn]
    have g2 : ∀ z, (p ++ [x] ++ a :: r).getD ((p.length : Int) + 1 - 1).toNat z = x := fun z => by
      rw [show ((p.length : Int) + 1 - 1).toNat = p.length by omega, snoc_getl']
    have := ih (p ++ [x]) a k (by simp; omega) (by omega) (fun l h => hs l (by simp [h]))
    rw [show p ++ [x] ++ [a] ++ r = p ++ [x] ++ a :: r by simp, snoc_len] at this
    simp only [spec_IsPaper.l2, spec_IsPaper.g2, w1, w2, c1, c2, c3, c4, c5, g1, g2, and_self, and_true, true_and, decide_true, decide_false, if_true, if_false, mid_get, mid_set, mid_getn, mid_setn, bt_mid, Option.bind_some, Bool.not_true, Bool.not_false, Bool.false_eq_true, Bool.true_eq_false, beq_self_eq_true, bne_self_eq_false, Int.toNat_natCast, spec_IsWord_f _ (hs a (by simp)), spec_l01In_f, linesF, lineOk, this]
    cases wordB a.1
    · simp
    cases inB a.2 1 1000
    · simp
    show (if (!ltS x.1 a.1) = true then _ else _) = _
    cases ltS x.1 a.1
    · simp
    · simp
theorem spec_IsPaper_f (p : ByteArray × Int × List (ByteArray × Int)) (h : OkPaper p) : spec_IsPaper.f p = some (paperB p) := by
  obtain ⟨v, d, xs⟩ := p
  unfold spec_IsPaper.f spec_IsPaper.fn spec_IsPaper.top paperB linesB
  have hl : xs.length ≤ 1000000 := h.2.2.1
  have hv : Sz v := Nat.le_trans h.1 (by omega)
  obtain ⟨k, hk⟩ : ∃ j, NN = j + 1 := ⟨NN - 1, by have := NNb; omega⟩
  have hkb : 1000000000000000 < k := by rw [NN_eq] at hk; omega
  rw [show spec_IsPaper.l2 NN NN = spec_IsPaper.l2 NN (k + 1) by rw [← hk]]
  cases xs with
  | nil =>
    simp only [spec_IsPaper.l2, spec_IsPaper.g2, spec_IsWord_f v hv, spec_l01In_f, linesL, and_self, and_true, true_and, decide_true, decide_false, if_true, if_false, mid_get, mid_set, mid_getn, mid_setn, bt_mid, Option.bind_some, Bool.not_true, Bool.not_false, Bool.false_eq_true, Bool.true_eq_false, beq_self_eq_true, bne_self_eq_false, Int.toNat_natCast]
    cases wordB v <;> cases inB d 0 100000 <;> rfl
  | cons a r =>
    simp only [List.length_cons] at hl
    have hxs : Lm OkLine (a :: r) := h.2.2
    have := spec_IsPaper_l v d hv r [] a k (by simp; omega) (by omega) (fun l hl => Nat.le_trans (hxs.2 l (by simp [hl])).1 (by omega))
    have w2 := w64 (n := 0 + 1) (by omega) (by omega)
    have c1 : (0 : Int) < ((a :: r).length : Int) := by simp only [List.length_cons]; omega
    simp only [List.nil_append, List.length_nil, List.cons_append] at this
    rw [show (((0 : Nat) : Int) + 1) = 0 + 1 from rfl] at this
    simp only [spec_IsPaper.l2, spec_IsPaper.g2, c1, w2, and_self, and_true, true_and, decide_true, decide_false, if_true, if_false, mid_get, mid_set, mid_getn, mid_setn, bt_mid, Option.bind_some, Bool.not_true, Bool.not_false, Bool.false_eq_true, Bool.true_eq_false, beq_self_eq_true, bne_self_eq_false, Int.toNat_natCast, Int.le_refl, spec_IsWord_f _ (Nat.le_trans (hxs.2 a (by simp)).1 (show 1000000 ≤ 140737488355328 by omega)), spec_l01In_f, linesL, lineOk, List.getD_cons_zero, Int.toNat_zero]
    cases wordB a.1
    · simp
    cases inB a.2 1 1000
    · simp
    simp only [Int.lt_irrefl, decide_false, and_self, and_true, true_and, decide_true, decide_false, if_true, if_false, mid_get, mid_set, mid_getn, mid_setn, bt_mid, Option.bind_some, Bool.not_true, Bool.not_false, Bool.false_eq_true, Bool.true_eq_false, beq_self_eq_true, bne_self_eq_false, Int.toNat_natCast]
    rw [this]
    cases linesF a r <;> cases wordB v <;> cases inB d 0 100000 <;> simp
/-- how many of an article -/
def cntL (a : ByteArray) : List (ByteArray × Int) → Int
  | [] => 0
  | l :: r => if l.1 = a then l.2 else cntL a r
theorem impl_countIn_f (xs : List (ByteArray × Int)) (a : ByteArray) (h : xs.length ≤ 1000000) : impl_countIn.f xs a = some (cntL a xs) := by
  have := find_loop (E := fun _ => True) (fun l : ByteArray × Int => decide (l.1 = a)) (fun _ l => some l.2) (fun _ => some 0) (fun k xs i => impl_countIn.l2 NN k a xs xs.length i) ?_ ?_ xs (fun _ _ => trivial) (by omega) NN (NN_lt (by omega))
  · refine this.trans ?_
    have key : ∀ (xs : List (ByteArray × Int)) (i : Nat), (firstOf (fun l : ByteArray × Int => decide (l.1 = a)) i xs).elim (some 0) (fun x => some x.2.2) = some (cntL a xs) := by
      intro xs
      induction xs with
      | nil => intro i; rfl
      | cons l r ih =>
        intro i
        by_cases h : l.1 = a
        · simp [firstOf, cntL, h]
        · simp only [firstOf, cntL, h, decide_false, Bool.false_eq_true, if_false]
          exact ih _
    exact key xs 0
  · intro k p
    simp [impl_countIn.l2, impl_countIn.g2]
  · intro k p l r _ c0 c1 c2 cw
    simp only [impl_countIn.l2, impl_countIn.g2, c0, c1, cw, and_self, and_true, true_and, decide_true, decide_false, if_true, if_false, mid_get, mid_set, mid_getn, mid_setn, bt_mid, Option.bind_some, Bool.not_true, Bool.not_false, Bool.false_eq_true, Bool.true_eq_false, beq_self_eq_true, bne_self_eq_false, Int.toNat_natCast, ba_beq]
theorem spec_l29Find_f (p : ByteArray × Int × List (ByteArray × Int)) (a : ByteArray) (h : p.2.2.length ≤ 1000000) : spec_l29Find.f p a = some ((firstOf (fun l : ByteArray × Int => decide (l.1 = a)) 0 p.2.2).elim (-1) (fun x => (x.1 : Int))) := by
  obtain ⟨v, d, xs⟩ := p
  have h : xs.length ≤ 1000000 := h
  have := find_loop (E := fun _ => True) (fun l : ByteArray × Int => decide (l.1 = a)) (fun i _ => some (i : Int)) (fun _ => some (-1)) (fun k xs i => spec_l29Find.l2 NN k a i (v, d, xs)) ?_ ?_ xs (fun _ _ => trivial) (by omega) NN (NN_lt (by omega))
  · refine this.trans ?_
    cases firstOf (fun l : ByteArray × Int => decide (l.1 = a)) 0 xs <;> rfl
  · intro k p
    simp [spec_l29Find.l2, spec_l29Find.g2]
  · intro k p l r _ c0 c1 c2 cw
    simp only [spec_l29Find.l2, spec_l29Find.g2, c0, c1, cw, and_self, and_true, true_and, decide_true, decide_false, if_true, if_false, mid_get, mid_set, mid_getn, mid_setn, bt_mid, Option.bind_some, Bool.not_true, Bool.not_false, Bool.false_eq_true, Bool.true_eq_false, beq_self_eq_true, bne_self_eq_false, Int.toNat_natCast, ba_beq]
/-- what is found: its number and its line -/
theorem firstOf_spec {α : Type} (P : α → Bool) : ∀ (xs : List α) (i j : Nat) (x : α), firstOf P i xs = some (j, x) → i ≤ j ∧ j < i + xs.length ∧ xs[j - i]? = some x ∧ P x = true := by
  intro xs
  induction xs with
  | nil => intro i j x h; cases h
  | cons a r ih =>
    intro i j x h
    simp only [firstOf] at h
    split at h
    · rename_i hp
      cases h
      refine ⟨by omega, by simp, by simp, hp⟩
    · obtain ⟨h1, h2, h3, h4⟩ := ih _ _ _ h
      refine ⟨by omega, by simp; omega, ?_, h4⟩
      rw [show j - i = (j - (i + 1)) + 1 by omega, List.getElem?_cons_succ]; exact h3
theorem cntL_first (a : ByteArray) : ∀ (xs : List (ByteArray × Int)) (i : Nat), cntL a xs = (firstOf (fun l : ByteArray × Int => decide (l.1 = a)) i xs).elim 0 (fun x => x.2.2) := by
  intro xs
  induction xs with
  | nil => intro i; rfl
  | cons l r ih =>
    intro i
    by_cases h : l.1 = a
    · simp [firstOf, cntL, h]
    · simp only [firstOf, cntL, h, decide_false, Bool.false_eq_true, if_false]
      exact ih _
theorem linesF_ok : ∀ (r : List (ByteArray × Int)) (x : ByteArray × Int), linesF x r = true → ∀ l ∈ r, lineOk l = true := by
  intro r
  induction r with
  | nil => intro x _ l hl; cases hl
  | cons a r ih =>
    intro x h l hl
    simp only [linesF, Bool.and_eq_true] at h
    rcases List.mem_cons.1 hl with rfl | hl
    · exact h.1.1
    · exact ih a h.2 l hl
theorem linesB_ok {xs : List (ByteArray × Int)} (h : linesB xs = true) : xs.length ≤ 12 ∧ ∀ l ∈ xs, lineOk l = true := by
  unfold linesB at h
  simp only [Bool.and_eq_true, decide_eq_true_eq] at h
  refine ⟨h.1, ?_⟩
  cases xs with
  | nil => intro l hl; cases hl
  | cons a r =>
    have h2 := h.2
    simp only [linesL, Bool.and_eq_true] at h2
    intro l hl
    rcases List.mem_cons.1 hl with rfl | hl
    · exact h2.1
    · exact linesF_ok r a h2.2 l hl
theorem lineOk_iff {l : ByteArray × Int} : lineOk l = true ↔ wordB l.1 = true ∧ 1 ≤ l.2 ∧ l.2 ≤ 1000 := by
  unfold lineOk; rw [Bool.and_eq_true, inB_iff]
theorem cntL_bd (a : ByteArray) : ∀ (xs : List (ByteArray × Int)), (∀ l ∈ xs, lineOk l = true) → 0 ≤ cntL a xs ∧ cntL a xs ≤ 1000 := by
  intro xs
  induction xs with
  | nil => intro _; simp [cntL]
  | cons l r ih =>
    intro h
    have h1 := lineOk_iff.1 (h l (by simp))
    have h2 := ih fun x hx => h x (by simp [hx])
    simp only [cntL]
    split <;> omega
end Go.Pl

namespace Go.Pl
open Go.Ev
set_option linter.unusedVariables false
noncomputable section
def impl_MissingLines.g5 (L5 : (List (ByteArray × Int)) → Int → Int → (ByteArray × Int × List (ByteArray × Int)) → (List (ByteArray × Int)) → Option ((List (ByteArray × Int)) × Int)) (v19 : List (ByteArray × Int)) (v20 : Int) (v21 : Int) (b3 : ByteArray × Int × List (ByteArray × Int)) (out6 : List (ByteArray × Int)) : Option ((List (ByteArray × Int)) × Int) :=
  if (decide ((v21 : Int) < v20)) = true then
    if (0 : Int) ≤ v21 ∧ (v21 : Int) < v19.length then
      (impl_countIn.f b3.2.2 ((v19.getD (v21 : Int).toNat (ByteArray.empty, 0)).1)).bind fun r3 =>
      if (decide ((0 : Int) < (IntKind.i64.wrap (((v19.getD (v21 : Int).toNat (ByteArray.empty, 0)).2) - r3)))) = true then
        if out6.length + ([((v19.getD (v21 : Int).toNat (ByteArray.empty, 0)).1, IntKind.i64.wrap (((v19.getD (v21 : Int).toNat (ByteArray.empty, 0)).2) - r3))]).length < room 24 then
          L5 v19 v20 (IntKind.i64.wrap (v21 + 1)) b3 (out6 ++ ([((v19.getD (v21 : Int).toNat (ByteArray.empty, 0)).1, IntKind.i64.wrap (((v19.getD (v21 : Int).toNat (ByteArray.empty, 0)).2) - r3))]))
        else
          none
      else
        L5 v19 v20 (IntKind.i64.wrap (v21 + 1)) b3 out6
    else
      none
  else
    some (out6, 0)
def impl_MissingLines.l5 (n : Nat) : Nat → (List (ByteArray × Int)) → Int → Int → (ByteArray × Int × List (ByteArray × Int)) → (List (ByteArray × Int)) → Option ((List (ByteArray × Int)) × Int)
  | 0 => fun _ _ _ _ _ => none
  | k + 1 => impl_MissingLines.g5 (impl_MissingLines.l5 n k)
def impl_MissingLines.top (I5 : (List (ByteArray × Int)) → Int → Int → (ByteArray × Int × List (ByteArray × Int)) → (List (ByteArray × Int)) → Option ((List (ByteArray × Int)) × Int)) (a0 : ByteArray × Int × List (ByteArray × Int)) (b1 : ByteArray × Int × List (ByteArray × Int)) : Option ((List (ByteArray × Int)) × Int) :=
  (impl_IsPaper.f a0).bind fun r1 =>
  if (!r1) = false then
    (impl_IsPaper.f b1).bind fun r2 =>
    if (!r2) = true then
      some ([], 1)
    else
      I5 a0.2.2 (a0.2.2.length : Int) 0 b1 []
  else
    some ([], 1)
def impl_MissingLines.fn (n : Nat) (a0 : ByteArray × Int × List (ByteArray × Int)) (b1 : ByteArray × Int × List (ByteArray × Int)) : Option ((List (ByteArray × Int)) × Int) := impl_MissingLines.top (impl_MissingLines.l5 n n) a0 b1
def impl_MissingLines.f (a0 : ByteArray × Int × List (ByteArray × Int)) (b1 : ByteArray × Int × List (ByteArray × Int)) : Option ((List (ByteArray × Int)) × Int) := impl_MissingLines.fn NN a0 b1
end
end Go.Pl

namespace Go.Pl
open Go.Ev
set_option linter.unusedVariables false
noncomputable section
def spec_MissingLines.g5 (L5 : Int → (ByteArray × Int × List (ByteArray × Int)) → (ByteArray × Int × List (ByteArray × Int)) → (List (ByteArray × Int)) → Option ((List (ByteArray × Int)) × Int)) (i7 : Int) (a2 : ByteArray × Int × List (ByteArray × Int)) (b3 : ByteArray × Int × List (ByteArray × Int)) (out6 : List (ByteArray × Int)) : Option ((List (ByteArray × Int)) × Int) :=
  if (decide ((i7 : Int) < (a2.2.2.length : Int))) = true then
    if (0 : Int) ≤ i7 ∧ (i7 : Int) < a2.2.2.length then
      if (0 : Int) ≤ i7 ∧ (i7 : Int) < a2.2.2.length then
        (spec_l29Find.f b3 ((a2.2.2.getD (i7 : Int).toNat (ByteArray.empty, 0)).1)).bind fun r3 =>
        if (decide ((0 : Int) ≤ r3)) = true then
          if (0 : Int) ≤ r3 ∧ (r3 : Int) < b3.2.2.length then
            if (decide ((0 : Int) < (IntKind.i64.wrap (((a2.2.2.getD (i7 : Int).toNat (ByteArray.empty, 0)).2) - ((b3.2.2.getD (r3 : Int).toNat (ByteArray.empty, 0)).2))))) = true then
              if (0 : Int) ≤ i7 ∧ (i7 : Int) < a2.2.2.length then
                if out6.length + ([((a2.2.2.getD (i7 : Int).toNat (ByteArray.empty, 0)).1, IntKind.i64.wrap (((a2.2.2.getD (i7 : Int).toNat (ByteArray.empty, 0)).2) - ((b3.2.2.getD (r3 : Int).toNat (ByteArray.empty, 0)).2)))]).length < room 24 then
                  L5 (IntKind.i64.wrap (i7 + 1)) a2 b3 (out6 ++ ([((a2.2.2.getD (i7 : Int).toNat (ByteArray.empty, 0)).1, IntKind.i64.wrap (((a2.2.2.getD (i7 : Int).toNat (ByteArray.empty, 0)).2) - ((b3.2.2.getD (r3 : Int).toNat (ByteArray.empty, 0)).2)))]))
                else
                  none
              else
                none
            else
              L5 (IntKind.i64.wrap (i7 + 1)) a2 b3 out6
          else
            none
        else if (decide ((0 : Int) < ((a2.2.2.getD (i7 : Int).toNat (ByteArray.empty, 0)).2))) = true then
          if (0 : Int) ≤ i7 ∧ (i7 : Int) < a2.2.2.length then
            if out6.length + ([((a2.2.2.getD (i7 : Int).toNat (ByteArray.empty, 0)).1, (a2.2.2.getD (i7 : Int).toNat (ByteArray.empty, 0)).2)]).length < room 24 then
              L5 (IntKind.i64.wrap (i7 + 1)) a2 b3 (out6 ++ ([((a2.2.2.getD (i7 : Int).toNat (ByteArray.empty, 0)).1, (a2.2.2.getD (i7 : Int).toNat (ByteArray.empty, 0)).2)]))
            else
              none
          else
            none
        else
          L5 (IntKind.i64.wrap (i7 + 1)) a2 b3 out6
      else
        none
    else
      none
  else
    some (out6, 0)
def spec_MissingLines.l5 (n : Nat) : Nat → Int → (ByteArray × Int × List (ByteArray × Int)) → (ByteArray × Int × List (ByteArray × Int)) → (List (ByteArray × Int)) → Option ((List (ByteArray × Int)) × Int)
  | 0 => fun _ _ _ _ => none
  | k + 1 => spec_MissingLines.g5 (spec_MissingLines.l5 n k)
def spec_MissingLines.top (I5 : Int → (ByteArray × Int × List (ByteArray × Int)) → (ByteArray × Int × List (ByteArray × Int)) → (List (ByteArray × Int)) → Option ((List (ByteArray × Int)) × Int)) (a0 : ByteArray × Int × List (ByteArray × Int)) (b1 : ByteArray × Int × List (ByteArray × Int)) : Option ((List (ByteArray × Int)) × Int) :=
  (spec_IsPaper.f a0).bind fun r1 =>
  if (!r1) = false then
    (spec_IsPaper.f b1).bind fun r2 =>
    if (!r2) = true then
      some ([], 1)
    else
      I5 0 a0 b1 []
  else
    some ([], 1)
def spec_MissingLines.fn (n : Nat) (a0 : ByteArray × Int × List (ByteArray × Int)) (b1 : ByteArray × Int × List (ByteArray × Int)) : Option ((List (ByteArray × Int)) × Int) := spec_MissingLines.top (spec_MissingLines.l5 n n) a0 b1
def spec_MissingLines.f (a0 : ByteArray × Int × List (ByteArray × Int)) (b1 : ByteArray × Int × List (ByteArray × Int)) : Option ((List (ByteArray × Int)) × Int) := spec_MissingLines.fn NN a0 b1
end
end Go.Pl

namespace Go.Pl
open Go.Ev
set_option linter.unusedVariables false
set_option linter.unusedSimpArgs false
def missF (bs : List (ByteArray × Int)) (out : List (ByteArray × Int)) (l : ByteArray × Int) : List (ByteArray × Int) := if 0 < l.2 - cntL l.1 bs then out ++ [(l.1, l.2 - cntL l.1 bs)] else out
def missL (ax bs : List (ByteArray × Int)) : List (ByteArray × Int) := ax.foldl (missF bs) []
theorem missF_ok (bs : List (ByteArray × Int)) (hb : ∀ l ∈ bs, lineOk l = true) (out : List (ByteArray × Int)) (l : ByteArray × Int) (hl : lineOk l = true) (n : Nat) (h : out.length ≤ n ∧ ∀ x ∈ out, lineOk x = true) : (missF bs out l).length ≤ n + 1 ∧ ∀ x ∈ missF bs out l, lineOk x = true := by
  have h1 := lineOk_iff.1 hl
  have h2 := cntL_bd l.1 bs hb
  unfold missF
  split
  · refine ⟨by simp; omega, fun x hx => ?_⟩
    rcases List.mem_append.1 hx with h3 | h3
    · exact h.2 x h3
    · rw [List.mem_singleton.1 h3]; exact lineOk_iff.2 ⟨h1.1, by simp only; omega, by simp only; omega⟩
  · exact ⟨by omega, h.2⟩
theorem room24' {α : Type} (out : List α) (x : α) (h : out.length ≤ 2000000) : out.length + [x].length < room 24 := by rw [room24]; simp; omega
theorem impl_Missing_l (v : ByteArray) (d : Int) (ax bs : List (ByteArray × Int)) (ha : ∀ l ∈ ax, lineOk l = true) (hb : ∀ l ∈ bs, lineOk l = true) (hla : ax.length ≤ 12) (hlb : bs.length ≤ 12) :
    ((missL ax bs).length ≤ ax.length ∧ ∀ x ∈ missL ax bs, lineOk x = true) ∧ impl_MissingLines.l5 NN NN ax ax.length 0 (v, d, bs) [] = some (missL ax bs, 0) := by
  have := fold_fix (E := fun l => lineOk l = true) (fun p st => st.length ≤ p.length ∧ ∀ x ∈ st, lineOk x = true) (fun _ => missF bs) (fun st => some (st, (0 : Int))) (fun k i st => impl_MissingLines.l5 NN k ax ax.length i (v, d, bs) st) ax ?_ ?_ [] ha ⟨by simp, by simp⟩ (by omega) NN (NN_lt (by omega))
  · rw [foldi_foldl] at this
    exact this
  · intro k st _
    simp [impl_MissingLines.l5, impl_MissingLines.g5]
  · intro k p l r st hx hl hI c0 c1 c2 cw g
    have h1 := lineOk_iff.1 hl
    have h2 := cntL_bd l.1 bs hb
    have e1 := w64 (n := l.2 - cntL l.1 bs) (by omega) (by omega)
    refine ⟨by rw [List.length_append, List.length_singleton]; exact missF_ok bs hb st l hl p.length hI, ?_⟩
    simp only [impl_MissingLines.l5, impl_MissingLines.g5, c0, c1, cw, and_self, and_true, true_and, decide_true, decide_false, if_true, if_false, mid_get, mid_set, mid_getn, mid_setn, bt_mid, Option.bind_some, Bool.not_true, Bool.not_false, Bool.false_eq_true, Bool.true_eq_false, beq_self_eq_true, bne_self_eq_false, Int.toNat_natCast, g, impl_countIn_f bs l.1 (by omega), e1, decide_eq_true_eq]
    unfold missF
    rw [if_pos (room24' st _ (by omega))]
    split <;> rfl
theorem spec_Missing_l (v w : ByteArray) (d e : Int) (ax bs : List (ByteArray × Int)) (ha : ∀ l ∈ ax, lineOk l = true) (hb : ∀ l ∈ bs, lineOk l = true) (hla : ax.length ≤ 12) (hlb : bs.length ≤ 12) :
    spec_MissingLines.l5 NN NN 0 (w, e, ax) (v, d, bs) [] = some (missL ax bs, 0) := by
  have := (fold_fix (E := fun l => lineOk l = true) (fun p st => st.length ≤ p.length ∧ ∀ x ∈ st, lineOk x = true) (fun _ => missF bs) (fun st => some (st, (0 : Int))) (fun k i st => spec_MissingLines.l5 NN k i (w, e, ax) (v, d, bs) st) ax ?_ ?_ [] ha ⟨by simp, by simp⟩ (by omega) NN (NN_lt (by omega))).2
  · rw [foldi_foldl] at this
    exact this
  · intro k st _
    simp [spec_MissingLines.l5, spec_MissingLines.g5]
  · intro k p l r st hx hl hI c0 c1 c2 cw g
    have h1 := lineOk_iff.1 hl
    have h2 := cntL_bd l.1 bs hb
    have e1 := w64 (n := l.2 - cntL l.1 bs) (by omega) (by omega)
    refine ⟨by rw [List.length_append, List.length_singleton]; exact missF_ok bs hb st l hl p.length hI, ?_⟩
    simp only [spec_MissingLines.l5, spec_MissingLines.g5, c0, c1, cw, and_self, and_true, true_and, decide_true, decide_false, if_true, if_false, mid_get, mid_set, mid_getn, mid_setn, bt_mid, Option.bind_some, Bool.not_true, Bool.not_false, Bool.false_eq_true, Bool.true_eq_false, beq_self_eq_true, bne_self_eq_false, Int.toNat_natCast, g]
    rw [spec_l29Find_f _ _ (by simp only; omega)]
    simp only [Option.bind_some]
    unfold missF
    have hc := cntL_first l.1 bs 0
    cases hf : firstOf (fun x : ByteArray × Int => decide (x.1 = l.1)) 0 bs with
    | none =>
      rw [hf] at hc
      simp only [Option.elim] at hc
      rw [hc]
      simp only [Option.elim, hf]
      have n1 : ¬ (0 : Int) ≤ -1 := by omega
      simp only [n1, and_self, and_true, true_and, decide_true, decide_false, if_true, if_false, mid_get, mid_set, mid_getn, mid_setn, bt_mid, Option.bind_some, Bool.not_true, Bool.not_false, Bool.false_eq_true, Bool.true_eq_false, beq_self_eq_true, bne_self_eq_false, Int.toNat_natCast, Int.sub_zero]
      rw [if_pos (room24' st _ (by omega))]
      simp only [decide_eq_true_eq]
      split <;> rfl
    | some x =>
      obtain ⟨j, y⟩ := x
      obtain ⟨f1, f2, f3, f4⟩ := firstOf_spec _ _ _ _ _ hf
      rw [hf] at hc
      simp only [Option.elim] at hc
      simp only [Option.elim, hf]
      have n1 : (0 : Int) ≤ (j : Int) := by omega
      have n2 : (j : Int) < (bs.length : Int) := by omega
      have g2 : ∀ z, bs.getD j z = y := fun z => by
        rw [List.getD_eq_getElem?_getD, show j = j - 0 by omega, f3]; rfl
      rw [hc] at e1 ⊢
      simp only [n1, n2, and_self, and_true, true_and, decide_true, decide_false, if_true, if_false, mid_get, mid_set, mid_getn, mid_setn, bt_mid, Option.bind_some, Bool.not_true, Bool.not_false, Bool.false_eq_true, Bool.true_eq_false, beq_self_eq_true, bne_self_eq_false, Int.toNat_natCast, g2, e1]
      rw [if_pos (room24' st _ (by omega))]
      simp only [decide_eq_true_eq]
      split <;> rfl
theorem paperB_iff {p : ByteArray × Int × List (ByteArray × Int)} (h : paperB p = true) : wordB p.1 = true ∧ (0 ≤ p.2.1 ∧ p.2.1 ≤ 100000) ∧ linesB p.2.2 = true := by
  unfold paperB at h
  simp only [Bool.and_eq_true, inB_iff] at h
  exact ⟨h.1.1, h.1.2, h.2⟩
theorem lines_ok {xs : List (ByteArray × Int)} (h1 : xs.length ≤ 1000000) (h2 : ∀ l ∈ xs, lineOk l = true) : Lm OkLine xs := ⟨h1, fun l hl => by
  have h3 := lineOk_iff.1 (h2 l hl)
  have := wordB_size h3.1
  exact ⟨by unfold Sm; omega, wf64.2 (by omega)⟩⟩
theorem MissingLines_core (a b : ByteArray × Int × List (ByteArray × Int)) (ha : OkPaper a) (hb : OkPaper b) : ∃ w, spec_MissingLines.f a b = some w ∧ impl_MissingLines.f a b = some w ∧ Lm OkLine w.1 := by
  unfold spec_MissingLines.f spec_MissingLines.fn spec_MissingLines.top impl_MissingLines.f impl_MissingLines.fn impl_MissingLines.top
  rw [spec_IsPaper_f a ha, spec_IsPaper_f b hb, impl_IsPaper_f a ha, impl_IsPaper_f b hb]
  cases h1 : paperB a
  · exact ⟨([], 1), rfl, rfl, by simp, by simp⟩
  cases h2 : paperB b
  · exact ⟨([], 1), rfl, rfl, by simp, by simp⟩
  have p1 := linesB_ok (paperB_iff h1).2.2
  have p2 := linesB_ok (paperB_iff h2).2.2
  obtain ⟨w, e, ax⟩ := a
  obtain ⟨v, d, bs⟩ := b
  have q1 := impl_Missing_l v d ax bs p1.2 p2.2 p1.1 p2.1
  have q2 := spec_Missing_l v w d e ax bs p1.2 p2.2 p1.1 p2.1
  have p11 : ax.length ≤ 12 := p1.1
  exact ⟨(missL ax bs, 0), q2, q1.2, lines_ok (by simp only; omega) q1.1.2⟩
end Go.Pl

namespace Go.Pl
open Go.Ev
set_option linter.unusedVariables false
noncomputable section
def impl_articleOf.g2 (L2 : ByteArray → (List (ByteArray × Int × Int × Int × Int × Int × Int × Int × Int)) → Int → Int → Option Int) (code1 : ByteArray) (v7 : List (ByteArray × Int × Int × Int × Int × Int × Int × Int × Int)) (v8 : Int) (v9 : Int) : Option Int :=
  if (decide ((v9 : Int) < v8)) = true then
    if (0 : Int) ≤ v9 ∧ (v9 : Int) < v7.length then
      if (((v7.getD (v9 : Int).toNat (ByteArray.empty, (0, (0, (0, (0, (0, (0, (0, 0))))))))).1).toList == code1.toList) = true then
        some v9
      else
        L2 code1 v7 v8 (IntKind.i64.wrap (v9 + 1))
    else
      none
  else
    some (-1)
def impl_articleOf.l2 (n : Nat) : Nat → ByteArray → (List (ByteArray × Int × Int × Int × Int × Int × Int × Int × Int)) → Int → Int → Option Int
  | 0 => fun _ _ _ _ => none
  | k + 1 => impl_articleOf.g2 (impl_articleOf.l2 n k)
def impl_articleOf.top (I2 : ByteArray → (List (ByteArray × Int × Int × Int × Int × Int × Int × Int × Int)) → Int → Int → Option Int) (list0 : List (ByteArray × Int × Int × Int × Int × Int × Int × Int × Int)) (code1 : ByteArray) : Option Int :=
  I2 code1 list0 (list0.length : Int) 0
def impl_articleOf.fn (n : Nat) (list0 : List (ByteArray × Int × Int × Int × Int × Int × Int × Int × Int)) (code1 : ByteArray) : Option Int := impl_articleOf.top (impl_articleOf.l2 n n) list0 code1
def impl_articleOf.f (list0 : List (ByteArray × Int × Int × Int × Int × Int × Int × Int × Int)) (code1 : ByteArray) : Option Int := impl_articleOf.fn NN list0 code1
end
end Go.Pl

namespace Go.Pl
open Go.Ev
set_option linter.unusedVariables false
noncomputable section
def spec_l03Find.g2 (L2 : (List (ByteArray × Int × Int × Int × Int × Int × Int × Int × Int)) → ByteArray → Int → Option Int) (list0 : List (ByteArray × Int × Int × Int × Int × Int × Int × Int × Int)) (code1 : ByteArray) (i5 : Int) : Option Int :=
  if (decide ((i5 : Int) < (list0.length : Int))) = true then
    if (0 : Int) ≤ i5 ∧ (i5 : Int) < list0.length then
      if (((list0.getD (i5 : Int).toNat (ByteArray.empty, (0, (0, (0, (0, (0, (0, (0, 0))))))))).1).toList == code1.toList) = true then
        some i5
      else
        L2 list0 code1 (IntKind.i64.wrap (i5 + 1))
    else
      none
  else
    some (-1)
def spec_l03Find.l2 (n : Nat) : Nat → (List (ByteArray × Int × Int × Int × Int × Int × Int × Int × Int)) → ByteArray → Int → Option Int
  | 0 => fun _ _ _ => none
  | k + 1 => spec_l03Find.g2 (spec_l03Find.l2 n k)
def spec_l03Find.top (I2 : (List (ByteArray × Int × Int × Int × Int × Int × Int × Int × Int)) → ByteArray → Int → Option Int) (list0 : List (ByteArray × Int × Int × Int × Int × Int × Int × Int × Int)) (code1 : ByteArray) : Option Int :=
  I2 list0 code1 0
def spec_l03Find.fn (n : Nat) (list0 : List (ByteArray × Int × Int × Int × Int × Int × Int × Int × Int)) (code1 : ByteArray) : Option Int := spec_l03Find.top (spec_l03Find.l2 n n) list0 code1
def spec_l03Find.f (list0 : List (ByteArray × Int × Int × Int × Int × Int × Int × Int × Int)) (code1 : ByteArray) : Option Int := spec_l03Find.fn NN list0 code1
end
end Go.Pl

namespace Go.Pl
open Go.Ev
set_option linter.unusedVariables false
set_option linter.unusedSimpArgs false
abbrev Art : Type := ByteArray × Int × Int × Int × Int × Int × Int × Int × Int
def artB (a : Art) : Bool := wordB a.1 && inB a.2.1 0 3 && inB a.2.2.1 20 300 && inB a.2.2.2.1 0 10000 && inB a.2.2.2.2.1 0 a.2.2.2.1 && inB a.2.2.2.2.2.1 1 50 && inB a.2.2.2.2.2.2.1 0 10000 && inB a.2.2.2.2.2.2.2.1 1 100000 && inB a.2.2.2.2.2.2.2.2 0 3
theorem impl_IsArticle_f (a : Art) (h : Sz a.1) : impl_IsArticle.f a = some (artB a) := by
  unfold impl_IsArticle.f impl_IsArticle.fn impl_IsArticle.top artB
  simp only [impl_IsWord_f _ h, impl_within_f, Option.bind_some]
  cases wordB a.1
  · rfl
  cases inB a.2.1 0 3
  · rfl
  cases inB a.2.2.1 20 300
  · rfl
  cases inB a.2.2.2.1 0 10000
  · rfl
  cases inB a.2.2.2.2.1 0 a.2.2.2.1
  · rfl
  cases inB a.2.2.2.2.2.1 1 50
  · rfl
  cases inB a.2.2.2.2.2.2.1 0 10000
  · rfl
  cases inB a.2.2.2.2.2.2.2.1 1 100000
  · rfl
  · rfl
theorem spec_IsArticle_f (a : Art) (h : Sz a.1) : spec_IsArticle.f a = some (artB a) := by
  unfold spec_IsArticle.f spec_IsArticle.fn spec_IsArticle.top artB
  simp only [spec_IsWord_f _ h, spec_l01In_f, Option.bind_some]
  cases wordB a.1
  · rfl
  cases inB a.2.1 0 3
  · rfl
  cases inB a.2.2.1 20 300
  · rfl
  cases inB a.2.2.2.1 0 10000
  · rfl
  cases inB a.2.2.2.2.1 0 a.2.2.2.1
  · rfl
  cases inB a.2.2.2.2.2.1 1 50
  · rfl
  cases inB a.2.2.2.2.2.2.1 0 10000
  · rfl
  cases inB a.2.2.2.2.2.2.2.1 1 100000
  · rfl
  · rfl
/-- articles, looked at from the second on -/
def artsF : Art → List Art → Bool
  | _, [] => true
  | x, a :: r => artB a && ltS x.1 a.1 && artsF a r
def artsL : List Art → Bool
  | [] => true
  | a :: r => artB a && artsF a r
def artsB (xs : List Art) : Bool := decide (xs.length ≤ 12) && artsL xs
noncomputable def impl_arts_call (k : Nat) (xs : List Art) (i : Int) := impl_AreArticles.l4 NN k xs xs xs.length i
noncomputable def spec_arts_call (k : Nat) (xs : List Art) (i : Int) := spec_AreArticles.l2 NN k xs i
theorem impl_arts_loop : ∀ (r p : List Art) (x : Art) (k : Nat), p.length + r.length + 1 ≤ 140737488355328 → r.length < k → (∀ a ∈ r, Sz a.1) →
    impl_arts_call k (p ++ [x] ++ r) ((p.length : Int) + 1) = if artsF x r = true then some ((fun _ => true) (p ++ [x] ++ r)) else some false := by
  intro r
  induction r with
  | nil =>
    intro p x k _ hk _
    obtain ⟨k, rfl⟩ : ∃ j, k = j + 1 := ⟨k - 1, by omega⟩
    have n1 : ¬ (p.length : Int) + 1 < ((p ++ [x] ++ []).length : Int) := by simp
    simp only [impl_arts_call, impl_AreArticles.l4, impl_AreArticles.g4, n1, decide_false, Bool.false_eq_true, if_false, artsF, if_true]
  | cons a r ih =>
    intro p x k hb hk hz
    simp only [List.length_cons] at hb hk
    obtain ⟨k, rfl⟩ : ∃ j, k = j + 1 := ⟨k - 1, by omega⟩
    have hl : ((p ++ [x] ++ a :: r).length : Int) = p.length + r.length + 2 := by simp; omega
    have w1 := w64 (n := (p.length : Int) + 1 - 1) (by omega) (by omega)
    have w2 := w64 (n := (p.length : Int) + 1 + 1) (by omega) (by omega)
    have c1 : (p.length : Int) + 1 < ((p ++ [x] ++ a :: r).length : Int) := by omega
    have c2 : (0 : Int) ≤ (p.length : Int) + 1 - 1 := by omega
    have c3 : (p.length : Int) + 1 - 1 < ((p ++ [x] ++ a :: r).length : Int) := by omega
    have c4 : (0 : Int) ≤ (p.length : Int) + 1 := by omega
    have c5 : (0 : Int) < (p.length : Int) + 1 := by omega
    have g1 : ∀ z, (p ++ [x] ++ a :: r).getD ((p.length : Int) + 1).toNat z = a := fun z => by
      rw [show ((p.length : Int) + 1).toNat = (p ++ [x]).length by simp, mid_getn]
    have g2 : ∀ z, (p ++ [x] ++ a :: r).getD ((p.length : Int) + 1 - 1).toNat z = x := fun z => by
      rw [show ((p.length : Int) + 1 - 1).toNat = p.length by omega, snoc_getl']
    have i1 := ih (p ++ [x]) a k (by simp; omega) (by omega) (fun b hb => hz b (by simp [hb]))
    have e1 : (((p ++ [x]).length : Nat) : Int) + 1 = (p.length : Int) + 1 + 1 := by simp
    have e2 : p ++ [x] ++ [a] ++ r = p ++ [x] ++ a :: r := by simp
    rw [e1, e2] at i1
    simp only [impl_arts_call] at i1
    simp only [impl_arts_call, impl_AreArticles.l4, impl_AreArticles.g4, w1, w2, c1, c2, c3, c4, c5, g1, g2, and_self, decide_true, if_true, Option.bind_some, impl_IsArticle_f a (hz a (by simp)), artsF]
    rcases Bool.eq_false_or_eq_true (artB a) with h1 | h1
    · rcases Bool.eq_false_or_eq_true (ltS x.1 a.1) with h2 | h2
      · have h2' : Op.bytesLess x.1.toList a.1.toList = true := h2
        simp only [h1, h2, h2', Bool.not_true, Bool.false_eq_true, if_false, if_true, Bool.true_and, Bool.and_true]
        exact i1
      · have h2' : Op.bytesLess x.1.toList a.1.toList = false := h2
        simp [h1, h2, h2']
    · simp [h1]
theorem impl_arts_all (xs : List Art) (hb : xs.length ≤ 140737488355328) (hz : ∀ a ∈ xs, Sz a.1) : impl_arts_call NN xs 0 = if artsL xs = true then some ((fun _ => true) xs) else some false := by
  obtain ⟨k, hk⟩ : ∃ j, NN = j + 1 := ⟨NN - 1, by have := NNb; omega⟩
  have hkb : 1000000000000000 < k := by rw [NN_eq] at hk; omega
  unfold impl_arts_call
  rw [show impl_AreArticles.l4 NN NN = impl_AreArticles.l4 NN (k + 1) by rw [← hk]]
  cases xs with
  | nil =>
    have n1 : ¬ (0 : Int) < (([] : List Art).length : Int) := by simp
    simp only [impl_AreArticles.l4, impl_AreArticles.g4, n1, decide_false, Bool.false_eq_true, if_false, artsL, if_true]
  | cons a r =>
    simp only [List.length_cons] at hb
    have i1 := impl_arts_loop r [] a k (by simp; omega) (by omega) (fun b hb => hz b (by simp [hb]))
    simp only [impl_arts_call, List.nil_append, List.length_nil] at i1
    have n1 : (0 : Int) < ((a :: r).length : Int) := by simp only [List.length_cons]; omega
    have w2 := w64 (n := (0 : Int) + 1) (by omega) (by omega)
    have g1 : ∀ z, (a :: r).getD (0 : Int).toNat z = a := fun z => rfl
    simp only [impl_AreArticles.l4, impl_AreArticles.g4, n1, w2, g1, Int.le_refl, Int.lt_irrefl, and_self, decide_true, decide_false, if_true, Option.bind_some, impl_IsArticle_f a (hz a (by simp)), artsL]
    rcases Bool.eq_false_or_eq_true (artB a) with h1 | h1
    · simp only [h1, Bool.not_true, Bool.false_eq_true, if_false, if_true, Bool.true_and]
      exact i1
    · simp [h1]
theorem spec_arts_loop : ∀ (r p : List Art) (x : Art) (k : Nat), p.length + r.length + 1 ≤ 140737488355328 → r.length < k → (∀ a ∈ r, Sz a.1) →
    spec_arts_call k (p ++ [x] ++ r) ((p.length : Int) + 1) = if artsF x r = true then some ((fun xs : List Art => decide (((xs.length : Int) : Int) ≤ 12)) (p ++ [x] ++ r)) else some false := by
  intro r
  induction r with
  | nil =>
    intro p x k _ hk _
    obtain ⟨k, rfl⟩ : ∃ j, k = j + 1 := ⟨k - 1, by omega⟩
    have n1 : ¬ (p.length : Int) + 1 < ((p ++ [x] ++ []).length : Int) := by simp
    simp only [spec_arts_call, spec_AreArticles.l2, spec_AreArticles.g2, n1, decide_false, Bool.false_eq_true, if_false, artsF, if_true]
  | cons a r ih =>
    intro p x k hb hk hz
    simp only [List.length_cons] at hb hk
    obtain ⟨k, rfl⟩ : ∃ j, k = j + 1 := ⟨k - 1, by omega⟩
    have hl : ((p ++ [x] ++ a :: r).length : Int) = p.length + r.length + 2 := by simp; omega
    have w1 := w64 (n := (p.length : Int) + 1 - 1) (by omega) (by omega)
    have w2 := w64 (n := (p.length : Int) + 1 + 1) (by omega) (by omega)
    have c1 : (p.length : Int) + 1 < ((p ++ [x] ++ a :: r).length : Int) := by omega
    have c2 : (0 : Int) ≤ (p.length : Int) + 1 - 1 := by omega
    have c3 : (p.length : Int) + 1 - 1 < ((p ++ [x] ++ a :: r).length : Int) := by omega
    have c4 : (0 : Int) ≤ (p.length : Int) + 1 := by omega
    have c5 : (0 : Int) < (p.length : Int) + 1 := by omega
    have g1 : ∀ z, (p ++ [x] ++ a :: r).getD ((p.length : Int) + 1).toNat z = a := fun z => by
      rw [show ((p.length : Int) + 1).toNat = (p ++ [x]).length by simp, mid_getn]
    have g2 : ∀ z, (p ++ [x] ++ a :: r).getD ((p.length : Int) + 1 - 1).toNat z = x := fun z => by
      rw [show ((p.length : Int) + 1 - 1).toNat = p.length by omega, snoc_getl']
    have i1 := ih (p ++ [x]) a k (by simp; omega) (by omega) (fun b hb => hz b (by simp [hb]))
    have e1 : (((p ++ [x]).length : Nat) : Int) + 1 = (p.length : Int) + 1 + 1 := by simp
    have e2 : p ++ [x] ++ [a] ++ r = p ++ [x] ++ a :: r := by simp
    rw [e1, e2] at i1
    simp only [spec_arts_call] at i1
    simp only [spec_arts_call, spec_AreArticles.l2, spec_AreArticles.g2, w1, w2, c1, c2, c3, c4, c5, g1, g2, and_self, decide_true, if_true, Option.bind_some, spec_IsArticle_f a (hz a (by simp)), artsF]
    rcases Bool.eq_false_or_eq_true (artB a) with h1 | h1
    · rcases Bool.eq_false_or_eq_true (ltS x.1 a.1) with h2 | h2
      · have h2' : Op.bytesLess x.1.toList a.1.toList = true := h2
        simp only [h1, h2, h2', Bool.not_true, Bool.false_eq_true, if_false, if_true, Bool.true_and, Bool.and_true]
        exact i1
      · have h2' : Op.bytesLess x.1.toList a.1.toList = false := h2
        simp [h1, h2, h2']
    · simp [h1]
theorem spec_arts_all (xs : List Art) (hb : xs.length ≤ 140737488355328) (hz : ∀ a ∈ xs, Sz a.1) : spec_arts_call NN xs 0 = if artsL xs = true then some ((fun xs : List Art => decide (((xs.length : Int) : Int) ≤ 12)) xs) else some false := by
  obtain ⟨k, hk⟩ : ∃ j, NN = j + 1 := ⟨NN - 1, by have := NNb; omega⟩
  have hkb : 1000000000000000 < k := by rw [NN_eq] at hk; omega
  unfold spec_arts_call
  rw [show spec_AreArticles.l2 NN NN = spec_AreArticles.l2 NN (k + 1) by rw [← hk]]
  cases xs with
  | nil =>
    have n1 : ¬ (0 : Int) < (([] : List Art).length : Int) := by simp
    simp only [spec_AreArticles.l2, spec_AreArticles.g2, n1, decide_false, Bool.false_eq_true, if_false, artsL, if_true]
  | cons a r =>
    simp only [List.length_cons] at hb
    have i1 := spec_arts_loop r [] a k (by simp; omega) (by omega) (fun b hb => hz b (by simp [hb]))
    simp only [spec_arts_call, List.nil_append, List.length_nil] at i1
    have n1 : (0 : Int) < ((a :: r).length : Int) := by simp only [List.length_cons]; omega
    have w2 := w64 (n := (0 : Int) + 1) (by omega) (by omega)
    have g1 : ∀ z, (a :: r).getD (0 : Int).toNat z = a := fun z => rfl
    simp only [spec_AreArticles.l2, spec_AreArticles.g2, n1, w2, g1, Int.le_refl, Int.lt_irrefl, and_self, decide_true, decide_false, if_true, Option.bind_some, spec_IsArticle_f a (hz a (by simp)), artsL]
    rcases Bool.eq_false_or_eq_true (artB a) with h1 | h1
    · simp only [h1, Bool.not_true, Bool.false_eq_true, if_false, if_true, Bool.true_and]
      exact i1
    · simp [h1]
theorem impl_AreArticles_f (xs : List Art) (hb : xs.length ≤ 140737488355328) (hz : ∀ a ∈ xs, Sz a.1) : impl_AreArticles.f xs = some (artsB xs) := by
  unfold impl_AreArticles.f impl_AreArticles.fn impl_AreArticles.top artsB
  have := impl_arts_all xs hb hz
  unfold impl_arts_call at this
  by_cases h : (12 : Int) < (xs.length : Int)
  · have h2 : ¬ xs.length ≤ 12 := by omega
    simp only [h, h2, decide_true, decide_false, if_true, Bool.false_and]
  · have h2 : xs.length ≤ 12 := by omega
    simp only [h, h2, decide_true, decide_false, Bool.false_eq_true, if_false, Bool.true_and]
    rw [this]
    cases artsL xs <;> rfl
theorem spec_AreArticles_f (xs : List Art) (hb : xs.length ≤ 140737488355328) (hz : ∀ a ∈ xs, Sz a.1) : spec_AreArticles.f xs = some (artsB xs) := by
  unfold spec_AreArticles.f spec_AreArticles.fn spec_AreArticles.top artsB
  have := spec_arts_all xs hb hz
  unfold spec_arts_call at this
  rw [this]
  have e : decide (((xs.length : Int) : Int) ≤ 12) = decide (xs.length ≤ 12) := by
    by_cases h : xs.length ≤ 12
    · have : (xs.length : Int) ≤ 12 := by omega
      simp [h, this]
    · have : ¬ (xs.length : Int) ≤ 12 := by omega
      simp [h, this]
  simp only [e]
  cases artsL xs <;> simp
theorem artsF_ok : ∀ (r : List Art) (x : Art), artsF x r = true → ∀ a ∈ r, artB a = true := by
  intro r
  induction r with
  | nil => intro x _ a ha; cases ha
  | cons b r ih =>
    intro x h a ha
    simp only [artsF, Bool.and_eq_true] at h
    rcases List.mem_cons.1 ha with rfl | ha
    · exact h.1.1
    · exact ih b h.2 a ha
theorem artsB_ok {xs : List Art} (h : artsB xs = true) : xs.length ≤ 12 ∧ ∀ a ∈ xs, artB a = true := by
  unfold artsB at h
  simp only [Bool.and_eq_true, decide_eq_true_eq] at h
  refine ⟨h.1, ?_⟩
  cases xs with
  | nil => intro a ha; cases ha
  | cons b r =>
    intro a ha
    have h2 := h.2
    simp only [artsL, Bool.and_eq_true] at h2
    rcases List.mem_cons.1 ha with rfl | ha
    · exact h2.1
    · exact artsF_ok r b h2.2 a ha
theorem artB_iff {a : Art} (h : artB a = true) : wordB a.1 = true ∧ (0 ≤ a.2.1 ∧ a.2.1 ≤ 3) ∧ (20 ≤ a.2.2.1 ∧ a.2.2.1 ≤ 300) ∧ (1 ≤ a.2.2.2.2.2.2.2.1 ∧ a.2.2.2.2.2.2.2.1 ≤ 100000) ∧ (0 ≤ a.2.2.2.2.2.2.2.2 ∧ a.2.2.2.2.2.2.2.2 ≤ 3) := by
  unfold artB at h
  simp only [Bool.and_eq_true, inB_iff] at h
  exact ⟨h.1.1.1.1.1.1.1.1, h.1.1.1.1.1.1.1.2, h.1.1.1.1.1.1.2, h.1.2, h.2⟩
/-- the number of an article, or -1 -/
def artI (xs : List Art) (c : ByteArray) : Int := (firstOf (fun l : Art => decide (l.1 = c)) 0 xs).elim (-1) (fun x => (x.1 : Int))
theorem impl_articleOf_f (xs : List Art) (c : ByteArray) (h : xs.length ≤ 140737488355328) : impl_articleOf.f xs c = some (artI xs c) := by
  have := find_loop (E := fun _ => True) (fun l : Art => decide (l.1 = c)) (fun i _ => some (i : Int)) (fun _ => some (-1)) (fun k xs i => impl_articleOf.l2 NN k c xs xs.length i) ?_ ?_ xs (fun _ _ => trivial) (by omega) NN (NN_lt (by omega))
  · refine this.trans ?_
    unfold artI
    cases firstOf (fun l : Art => decide (l.1 = c)) 0 xs <;> rfl
  · intro k p
    simp [impl_articleOf.l2, impl_articleOf.g2]
  · intro k p l r _ c0 c1 c2 cw
    simp only [impl_articleOf.l2, impl_articleOf.g2, c0, c1, cw, and_self, and_true, true_and, decide_true, decide_false, if_true, if_false, mid_get, mid_set, mid_getn, mid_setn, bt_mid, Option.bind_some, Bool.not_true, Bool.not_false, Bool.false_eq_true, Bool.true_eq_false, beq_self_eq_true, bne_self_eq_false, Int.toNat_natCast, ba_beq]
theorem spec_l03Find_f (xs : List Art) (c : ByteArray) (h : xs.length ≤ 140737488355328) : spec_l03Find.f xs c = some (artI xs c) := by
  have := find_loop (E := fun _ => True) (fun l : Art => decide (l.1 = c)) (fun i _ => some (i : Int)) (fun _ => some (-1)) (fun k xs i => spec_l03Find.l2 NN k xs c i) ?_ ?_ xs (fun _ _ => trivial) (by omega) NN (NN_lt (by omega))
  · refine this.trans ?_
    unfold artI
    cases firstOf (fun l : Art => decide (l.1 = c)) 0 xs <;> rfl
  · intro k p
    simp [spec_l03Find.l2, spec_l03Find.g2]
  · intro k p l r _ c0 c1 c2 cw
    simp only [spec_l03Find.l2, spec_l03Find.g2, c0, c1, cw, and_self, and_true, true_and, decide_true, decide_false, if_true, if_false, mid_get, mid_set, mid_getn, mid_setn, bt_mid, Option.bind_some, Bool.not_true, Bool.not_false, Bool.false_eq_true, Bool.true_eq_false, beq_self_eq_true, bne_self_eq_false, Int.toNat_natCast, ba_beq]
theorem artI_bd (xs : List Art) (c : ByteArray) : artI xs c < (xs.length : Int) := by
  unfold artI
  cases h : firstOf (fun l : Art => decide (l.1 = c)) 0 xs with
  | none => simp only [Option.elim_none]; omega
  | some x =>
    have := firstOf_spec _ xs 0 x.1 x.2 h
    simp only [Option.elim_some]; omega
theorem firstOf_none {α : Type} (P : α → Bool) : ∀ (xs : List α) (i : Nat), firstOf P i xs = none → ∀ x ∈ xs, P x = false := by
  intro xs
  induction xs with
  | nil => intro i _ x hx; cases hx
  | cons a r ih =>
    intro i h x hx
    simp only [firstOf] at h
    split at h
    · cases h
    · rename_i hp
      rcases List.mem_cons.1 hx with rfl | hx
      · simpa using hp
      · exact ih _ h x hx
end Go.Pl

namespace Go.Pl
open Go.Ev
set_option linter.unusedVariables false
noncomputable section
def laws_hasInt.g2 (L2 : List Int → Int → Int → Option Bool) (list0 : List Int) (x1 : Int) (i5 : Int) : Option Bool :=
  if (decide ((i5 : Int) < (list0.length : Int))) = true then
    if (0 : Int) ≤ i5 ∧ (i5 : Int) < list0.length then
      if (((list0.getD (i5 : Int).toNat 0) : Int) == x1) = true then
        some true
      else
        L2 list0 x1 (IntKind.i64.wrap (i5 + 1))
    else
      none
  else
    some false
def laws_hasInt.l2 (n : Nat) : Nat → List Int → Int → Int → Option Bool
  | 0 => fun _ _ _ => none
  | k + 1 => laws_hasInt.g2 (laws_hasInt.l2 n k)
def laws_hasInt.top (I2 : List Int → Int → Int → Option Bool) (list0 : List Int) (x1 : Int) : Option Bool :=
  I2 list0 x1 0
def laws_hasInt.fn (n : Nat) (list0 : List Int) (x1 : Int) : Option Bool := laws_hasInt.top (laws_hasInt.l2 n n) list0 x1
def laws_hasInt.f (list0 : List Int) (x1 : Int) : Option Bool := laws_hasInt.fn NN list0 x1
end
end Go.Pl

namespace Go.Pl
open Go.Ev
set_option linter.unusedVariables false
set_option linter.unusedSimpArgs false
theorem likeInts_self (a : List Int) (hl : a.length ≤ 140737488355328) : laws_likeInts.f a a = some true := by
  unfold laws_likeInts.f laws_likeInts.fn laws_likeInts.top
  simp only [bne_self_eq_false, Bool.false_eq_true, if_false]
  refine eqS_loop (E := fun _ => True) (fun k a b i => laws_likeInts.l4 NN k a b i) a (fun _ _ => trivial) ?_ ?_ NN (NN_lt (by omega))
  · intro k p x r hx ha
    subst ha
    have hm := mid_len p r x
    have c1 : (p.length : Int) < ((p ++ x :: r).length : Int) := by omega
    have c0 : (0 : Int) ≤ (p.length : Int) := by omega
    have cw := w64 (n := (p.length : Int) + 1) (by omega) (by omega)
    simp only [laws_likeInts.l4, laws_likeInts.g4, c0, c1, cw, and_self, and_true, true_and, decide_true, decide_false, if_true, if_false, mid_get, mid_set, mid_getn, mid_setn, bt_mid, Option.bind_some, Bool.not_true, Bool.not_false, Bool.false_eq_true, Bool.true_eq_false, beq_self_eq_true, bne_self_eq_false, Int.toNat_natCast]
  · intro k
    simp [laws_likeInts.l4, laws_likeInts.g4]
theorem hasInt_f (xs : List Int) (x : Int) (hl : xs.length ≤ 140737488355328) : laws_hasInt.f xs x = some (decide (x ∈ xs)) := by
  have := find_loop (E := fun _ => True) (fun c : Int => c == x) (fun _ _ => some true) (fun _ => some false) (fun k xs i => laws_hasInt.l2 NN k xs x i) ?_ ?_ xs (fun _ _ => trivial) (by omega) NN (NN_lt (by omega))
  · refine this.trans ?_
    have key : ∀ (xs : List Int) (i : Nat), (firstOf (fun c : Int => c == x) i xs).elim (some false) (fun _ => some true) = some (decide (x ∈ xs)) := by
      intro xs
      induction xs with
      | nil => intro i; simp [firstOf]
      | cons a r ih =>
        intro i
        by_cases h : a = x
        · subst h; simp [firstOf]
        · have h1 : (a == x) = false := by rw [beq_eq_false_iff_ne]; exact h
          have h2 : ¬ x = a := fun e => h e.symm
          simp only [firstOf, h1, Bool.false_eq_true, if_false, List.mem_cons, h2, false_or]
          exact ih _
    exact key xs 0
  · intro k p
    simp [laws_hasInt.l2, laws_hasInt.g2]
  · intro k p a r _ c0 c1 c2 cw
    simp only [laws_hasInt.l2, laws_hasInt.g2, c0, c1, cw, and_self, and_true, true_and, decide_true, decide_false, if_true, if_false, mid_get, mid_set, mid_getn, mid_setn, bt_mid, Option.bind_some, Bool.not_true, Bool.not_false, Bool.false_eq_true, Bool.true_eq_false, beq_self_eq_true, bne_self_eq_false, Int.toNat_natCast]
end Go.Pl

namespace Go.Pl
open Go.Ev
set_option linter.unusedVariables false
set_option linter.unusedSimpArgs false
theorem room80 : room 80 = 1759218604441 := by decide
theorem getB_mem3 {xs : List ByteArray} {i : Nat} (h : i < xs.length) : xs.getD i ByteArray.empty ∈ xs := by
  rw [List.getD_eq_getElem?_getD, List.getElem?_eq_getElem h]; exact List.getElem_mem h
def nam6 : List ByteArray := [(⟨#[97, 115, 116, 101, 114]⟩ : ByteArray), (⟨#[99, 111, 109, 101, 116]⟩ : ByteArray), (⟨#[100, 97, 104, 108, 105, 97]⟩ : ByteArray), (⟨#[112, 97, 108, 109]⟩ : ByteArray), (⟨#[112, 101, 111, 110, 121]⟩ : ByteArray), (⟨#[119, 105, 108, 108, 111, 119]⟩ : ByteArray)]
theorem nam6_f : spec_l03Names.f = some nam6 := rfl
theorem nam6_len : nam6.length = 6 := rfl
theorem nam6_sm : ∀ c ∈ nam6, c.size ≤ 100 := by
  intro c hc
  unfold nam6 at hc
  simp only [List.mem_cons, List.not_mem_nil, or_false] at hc
  rcases hc with h | h | h | h | h | h <;> (rw [h]; exact Nat.le_of_ble_eq_true rfl)
theorem word03_good {s : List Int × Int × Int} (hs : SrcOk s) : ∃ u s', spec_l01Good.f s = some (u, s') ∧ SrcOk s' ∧ u.size ≤ 100 := by
  unfold spec_l01Good.f spec_l01Good.fn spec_l01Good.top
  obtain ⟨a, s1, e1, o1, a0, a1⟩ := next_ok hs 12 (by omega)
  rw [e1]
  simp only [Option.bind_some]
  rw [if_pos ⟨a0, by simp only [List.length_cons, List.length_nil]; omega⟩]
  refine ⟨_, _, rfl, o1, ?_⟩
  have hm := getB_mem3 (xs := [(⟨#[97, 100, 97]⟩ : ByteArray), (⟨#[98, 114, 117, 110, 111]⟩ : ByteArray), (⟨#[99, 108, 97, 114, 97]⟩ : ByteArray), (⟨#[100, 111, 114, 97]⟩ : ByteArray), (⟨#[101, 109, 105, 108]⟩ : ByteArray), (⟨#[102, 114, 105, 100, 97]⟩ : ByteArray), (⟨#[103, 117, 115, 116, 97, 118]⟩ : ByteArray), (⟨#[104, 97, 110, 110, 97]⟩ : ByteArray), (⟨#[105, 118, 97, 110]⟩ : ByteArray), (⟨#[106, 97, 110, 97]⟩ : ByteArray), (⟨#[107, 97, 114, 108]⟩ : ByteArray), (⟨#[108, 101, 110, 97]⟩ : ByteArray)]) (i := a.toNat) (by simp only [List.length_cons, List.length_nil]; omega)
  revert hm
  generalize List.getD _ a.toNat ByteArray.empty = c
  intro hc
  simp only [List.mem_cons, List.not_mem_nil, or_false] at hc
  rcases hc with h | h | h | h | h | h | h | h | h | h | h | h <;> (rw [h]; exact Nat.le_of_ble_eq_true rfl)
theorem word03_ok {s : List Int × Int × Int} (hs : SrcOk s) : ∃ u s', spec_l01DrawWord.f s = some (u, s') ∧ SrcOk s' ∧ u.size ≤ 100 := by
  unfold spec_l01DrawWord.f spec_l01DrawWord.fn spec_l01DrawWord.top
  obtain ⟨a, s1, e1, o1, a0, a1⟩ := next_ok hs 24 (by omega)
  obtain ⟨b, s2, e2, o2, b0, b1⟩ := next_ok o1 6 (by omega)
  obtain ⟨u, s3, e3, o3, u1⟩ := word03_good o1
  rw [e1]
  simp only [Option.bind_some, e2, e3]
  split
  · rw [if_pos ⟨b0, by simp only [List.length_cons, List.length_nil]; omega⟩]
    refine ⟨_, _, rfl, o2, ?_⟩
    have hm := getB_mem3 (xs := [(⟨#[]⟩ : ByteArray), (⟨#[65, 100, 97]⟩ : ByteArray), (⟨#[97, 49]⟩ : ByteArray), (⟨#[97, 98, 99, 100, 101, 102, 103, 104, 105, 106, 107, 108, 109, 110, 111, 112]⟩ : ByteArray), (⟨#[97, 98, 99, 100, 101, 102, 103, 104, 105, 106, 107, 108, 109, 110, 111, 112, 113]⟩ : ByteArray), (⟨#[97, 32, 98]⟩ : ByteArray)]) (i := b.toNat) (by simp only [List.length_cons, List.length_nil]; omega)
    revert hm
    generalize List.getD _ b.toNat ByteArray.empty = c
    intro hc
    simp only [List.mem_cons, List.not_mem_nil, or_false] at hc
    rcases hc with h | h | h | h | h | h <;> (rw [h]; exact Nat.le_of_ble_eq_true rfl)
  · exact ⟨_, _, rfl, o3, u1⟩
/-- an article as drawn -/
def ArtM (M : Int) (a : Art) : Prop := a.1.size ≤ 1000 ∧ (-10 ≤ a.2.1 ∧ a.2.1 ≤ M) ∧ (-10 ≤ a.2.2.1 ∧ a.2.2.1 ≤ M) ∧ (-10 ≤ a.2.2.2.1 ∧ a.2.2.2.1 ≤ M) ∧ (-10 ≤ a.2.2.2.2.1 ∧ a.2.2.2.2.1 ≤ M) ∧ (-10 ≤ a.2.2.2.2.2.1 ∧ a.2.2.2.2.2.1 ≤ M) ∧ (-10 ≤ a.2.2.2.2.2.2.1 ∧ a.2.2.2.2.2.2.1 ≤ M) ∧ (-10 ≤ a.2.2.2.2.2.2.2.1 ∧ a.2.2.2.2.2.2.2.1 ≤ M) ∧ (-10 ≤ a.2.2.2.2.2.2.2.2 ∧ a.2.2.2.2.2.2.2.2 ≤ M)
abbrev ArtS (a : Art) : Prop := ArtM 1000000 a
theorem artM_S {a : Art} (h : ArtM 100000 a) : ArtS a := by
  obtain ⟨h0, h1, h2, h3, h4, h5, h6, h7, h8⟩ := h
  exact ⟨h0, by omega, by omega, by omega, by omega, by omega, by omega, by omega, by omega⟩
theorem artS_ok {a : Art} (h : ArtS a) : OkArticle a := by
  obtain ⟨h0, h1, h2, h3, h4, h5, h6, h7, h8⟩ := h
  exact ⟨Nat.le_trans h0 (by omega), wf64.2 (by omega), wf64.2 (by omega), wf64.2 (by omega), wf64.2 (by omega), wf64.2 (by omega), wf64.2 (by omega), wf64.2 (by omega), wf64.2 (by omega)⟩
theorem good03_ok {s : List Int × Int × Int} (hs : SrcOk s) (name : ByteArray) (hn : name.size ≤ 1000) : ∃ a s', spec_l03Good.f s name = some (a, s') ∧ SrcOk s' ∧ ArtM 100000 a := by
  unfold spec_l03Good.f spec_l03Good.fn spec_l03Good.top
  obtain ⟨a, s1, e1, o1, a0, a1⟩ := next_ok hs 4 (by omega)
  obtain ⟨b, s2, e2, o2, b0, b1⟩ := next_ok o1 281 (by omega)
  have w1 := w64 (n := 20 + b) (by omega) (by omega)
  obtain ⟨c, s3, e3, o3, c0⟩ := pick_ok o2 [50, 75, 100, 150, 20 + b] (by simp) (by simp)
  have c1 : -10 ≤ c ∧ c ≤ 100000 := by simp at c0; omega
  obtain ⟨d, s4, e4, o4, d0, d1⟩ := next_ok o3 5000 (by omega)
  obtain ⟨e, s5, e5, o5, f0, f1⟩ := next_ok o4 300 (by omega)
  obtain ⟨f, s6, e6, o6, g0, g1⟩ := next_ok o5 2000 (by omega)
  obtain ⟨g, s7, e7, o7, h0, h1⟩ := next_ok o6 4 (by omega)
  obtain ⟨h, s8, e8, o8, i0, i1⟩ := next_ok o7 8 (by omega)
  obtain ⟨i, s9, e9, o9, j0, j1⟩ := next_ok o8 2000 (by omega)
  have w2 := w64 (n := 1000 + d) (by omega) (by omega)
  have w3 := w64 (n := 50 + f) (by omega) (by omega)
  have w4 := w64 (n := 1 + h) (by omega) (by omega)
  have w5 := w64 (n := 500 + i) (by omega) (by omega)
  simp only [e1, e2, w1, e3, e4, e5, e6, e7, e8, e9, w2, w3, w4, w5, Option.bind_some, beq_iff_eq]
  by_cases q1 : a = 1
  · have q2 : ¬ a = 2 := by omega
    rw [if_pos q1, if_neg q2]
    exact ⟨_, _, rfl, o9, hn, by simp only; omega, by simp only; omega, by simp only; omega, by simp only; omega, by simp only; omega, by simp only; omega, by simp only; omega, by simp only; omega⟩
  · rw [if_neg q1]
    by_cases q2 : a = 2
    · rw [if_pos q2]
      exact ⟨_, _, rfl, o7, hn, by simp only; omega, by simp only; omega, by simp only; omega, by simp only; omega, by simp only; omega, by simp only; omega, by simp only; omega, by simp only; omega⟩
    · rw [if_neg q2]
      exact ⟨_, _, rfl, o7, hn, by simp only; omega, by simp only; omega, by simp only; omega, by simp only; omega, by simp only; omega, by simp only; omega, by simp only; omega, by simp only; omega⟩
theorem draw03_ok {s : List Int × Int × Int} (hs : SrcOk s) (name : ByteArray) (hn : name.size ≤ 1000) : ∃ a s', spec_l03Draw.f s name = some (a, s') ∧ SrcOk s' ∧ ArtS a := by
  unfold spec_l03Draw.f spec_l03Draw.fn spec_l03Draw.top
  obtain ⟨g, s1, e1, o1, gm⟩ := good03_ok hs name hn
  obtain ⟨p0, p1, p2, p3, p4, p5, p6, p7, p8⟩ := artM_S gm
  have pm := gm.2.2.2.1
  obtain ⟨b, s2, e2, o2, b0, b1⟩ := next_ok o1 60 (by omega)
  have w1 := w64 (n := g.2.2.2.1 + 1) (by omega) (by omega)
  obtain ⟨c3, t3, e3, o3, m3⟩ := pick_ok o2 [19, 20, 300, 301] (by simp) (by simp)
  obtain ⟨c4, t4, e4, o4, m4⟩ := pick_ok o2 [g.2.2.2.1, g.2.2.2.1 + 1, (-1)] (by simp) (by simp)
  obtain ⟨c5, t5, e5, o5, m5⟩ := pick_ok o2 [0, 50, 51] (by simp) (by simp)
  obtain ⟨u, t6, e6, o6, m6⟩ := word03_ok o2
  obtain ⟨c7, t7, e7, o7, m7⟩ := pick_ok o2 [0, 100000, 100001] (by simp) (by simp)
  have n3 : -10 ≤ c3 ∧ c3 ≤ 1000000 := by simp at m3; omega
  have n4 : -10 ≤ c4 ∧ c4 ≤ 1000000 := by simp at m4; omega
  have n5 : -10 ≤ c5 ∧ c5 ≤ 1000000 := by simp at m5; omega
  have n7 : -10 ≤ c7 ∧ c7 ≤ 1000000 := by simp at m7; omega
  simp only [e1, e2, e3, w1, e4, e5, e6, e7, Option.bind_some]
  split
  · exact ⟨_, _, rfl, o3, p0, p1, n3, p3, p4, p5, p6, p7, p8⟩
  split
  · exact ⟨_, _, rfl, o4, p0, p1, p2, p3, n4, p5, p6, p7, p8⟩
  split
  · exact ⟨_, _, rfl, o5, p0, p1, p2, p3, p4, n5, p6, p7, p8⟩
  split
  · exact ⟨_, _, rfl, o6, Nat.le_trans m6 (by omega), p1, p2, p3, p4, p5, p6, p7, p8⟩
  split
  · exact ⟨_, _, rfl, o7, p0, p1, p2, p3, p4, p5, p6, n7, p8⟩
  · exact ⟨_, _, rfl, o2, p0, p1, p2, p3, p4, p5, p6, p7, p8⟩
theorem artS_snoc {out : List Art} {a : Art} (h : ∀ x ∈ out, ArtS x) (ha : ArtS a) : ∀ x ∈ out ++ [a], ArtS x := fun x hx => by
  rcases List.mem_append.1 hx with h1 | h1
  · exact h x h1
  · rw [List.mem_singleton.1 h1]; exact ha
def al14 : ByteArray := ⟨#[97, 98, 99, 100, 101, 102, 103, 104, 105, 106, 107, 108, 109, 110]⟩
theorem al14_size : al14.size = 14 := rfl
def exx : ByteArray := ⟨#[120]⟩
theorem exx_size : exx.size = 1 := rfl
theorem list03_l13 : ∀ (d i k : Nat) (s : List Int × Int × Int) (out : List Art), i + d = 14 → out.length ≤ 6 + i → d < k → SrcOk s → (∀ x ∈ out, ArtS x) →
    ∃ o s', spec_l03List.l13 NN k i s out = some (o, s') ∧ SrcOk s' ∧ o.length ≤ 20 ∧ ∀ x ∈ o, ArtS x := by
  intro d
  induction d with
  | zero =>
    intro i k s out hd hl hk hs ho
    obtain ⟨k, rfl⟩ : ∃ j, k = j + 1 := ⟨k - 1, by omega⟩
    obtain ⟨a, s1, e1, o1, a0, a1⟩ := next_ok hs 2 (by omega)
    have n1 : ¬ (i : Int) < 14 := by omega
    simp only [spec_l03List.l13, spec_l03List.g13, e1, Option.bind_some, n1, decide_false, Bool.false_eq_true, if_false]
    rw [ite_self]
    exact ⟨_, _, rfl, o1, by omega, ho⟩
  | succ d ih =>
    intro i k s out hd hl hk hs ho
    obtain ⟨k, rfl⟩ : ∃ j, k = j + 1 := ⟨k - 1, by omega⟩
    obtain ⟨a, s1, e1, o1, a0, a1⟩ := next_ok hs 2 (by omega)
    have n1 : (i : Int) < 14 := by omega
    have w1 := w64 (n := (i : Int) + 1) (by omega) (by omega)
    have hz : exx.size + (al14.extract (i : Int).toNat ((i : Int) + 1).toNat).size ≤ 1000 := by
      rw [exx_size, ByteArray.size_extract, al14_size]; omega
    have hz2 : (exx ++ al14.extract (i : Int).toNat ((i : Int) + 1).toNat).size ≤ 1000 := by
      rw [ByteArray.size_append]; exact hz
    obtain ⟨g, s2, e2, o2, g1⟩ := good03_ok o1 _ hz2
    have hc : (0 : Int) ≤ (i : Int) ∧ (i : Int) ≤ (i : Int) + 1 ∧ ((i : Int) + 1) ≤ (al14.size : Int) := by rw [al14_size]; omega
    have w2 := w64 (n := 12 + a) (by omega) (by omega)
    simp only [spec_l03List.l13, spec_l03List.g13, e1, Option.bind_some, n1, decide_true, if_true, w1, w2]
    rw [show (⟨#[97, 98, 99, 100, 101, 102, 103, 104, 105, 106, 107, 108, 109, 110]⟩ : ByteArray) = al14 from rfl, show (⟨#[120]⟩ : ByteArray) = exx from rfl]
    by_cases n2 : (out.length : Int) < 12 + a
    · rw [if_pos (decide_eq_true n2), if_pos hc, if_pos (show exx.size + (al14.extract (i : Int).toNat ((i : Int) + 1).toNat).size ≤ 9223372036854775807 by omega), e2]
      simp only [Option.bind_some]
      rw [if_pos (by rw [room80]; simp; omega)]
      have := ih (i + 1) k s2 (out ++ [g]) (by omega) (by simp; omega) (by omega) o2 (artS_snoc ho (artM_S g1))
      rw [show ((i + 1 : Nat) : Int) = (i : Int) + 1 by omega] at this
      exact this
    · rw [if_neg (by rw [decide_eq_false n2]; decide)]
      exact ⟨_, _, rfl, o1, by omega, ho⟩
theorem list03_l4 : ∀ (d i k : Nat) (s : List Int × Int × Int) (out : List Art), i + d = 6 → out.length ≤ i → d < k → SrcOk s → (∀ x ∈ out, ArtS x) →
    ∃ o s', spec_l03List.l4 NN k i s out nam6 = some (o, s') ∧ SrcOk s' ∧ o.length ≤ 20 ∧ ∀ x ∈ o, ArtS x := by
  intro d
  induction d with
  | zero =>
    intro i k s out hd hl hk hs ho
    obtain ⟨k, rfl⟩ : ∃ j, k = j + 1 := ⟨k - 1, by omega⟩
    obtain ⟨a, s1, e1, o1, a0, a1⟩ := next_ok hs 30 (by omega)
    have n1 : ¬ (i : Int) < (nam6.length : Int) := by rw [nam6_len]; omega
    obtain ⟨g, s2, e2, o2, g1⟩ := good03_ok o1 (⟨#[97, 115, 116, 101, 114]⟩ : ByteArray) (Nat.le_of_ble_eq_true rfl)
    simp only [spec_l03List.l4, spec_l03List.g4, e1, e2, Option.bind_some, n1, decide_false, Bool.false_eq_true, if_false]
    split
    · rw [if_pos (by rw [room80]; simp; omega)]
      exact ⟨_, _, rfl, o2, by simp; omega, artS_snoc ho (artM_S g1)⟩
    split
    · exact list03_l13 14 0 NN s1 out (by omega) (by omega) (NN_lt (by omega)) o1 ho
    · exact ⟨_, _, rfl, o1, by omega, ho⟩
  | succ d ih =>
    intro i k s out hd hl hk hs ho
    obtain ⟨k, rfl⟩ : ∃ j, k = j + 1 := ⟨k - 1, by omega⟩
    obtain ⟨a, s1, e1, o1, a0, a1⟩ := next_ok hs 3 (by omega)
    have n1 : (i : Int) < (nam6.length : Int) := by rw [nam6_len]; omega
    have n0 : (0 : Int) ≤ (i : Int) := by omega
    have w1 := w64 (n := (i : Int) + 1) (by omega) (by omega)
    have hm := getB_mem3 (xs := nam6) (i := i) (by rw [nam6_len]; omega)
    obtain ⟨g, s2, e2, o2, g1⟩ := draw03_ok o1 (nam6.getD i ByteArray.empty) (by have := nam6_sm _ hm; omega)
    simp only [spec_l03List.l4, spec_l03List.g4, e1, Option.bind_some, n1, n0, and_self, decide_true, if_true, w1, Int.toNat_natCast, e2]
    split
    · rw [if_pos (by rw [room80]; simp; omega)]
      have := ih (i + 1) k s2 (out ++ [g]) (by omega) (by simp; omega) (by omega) o2 (artS_snoc ho g1)
      rw [show ((i + 1 : Nat) : Int) = (i : Int) + 1 by omega] at this
      exact this
    · have := ih (i + 1) k s1 out (by omega) (by omega) (by omega) o1 ho
      rw [show ((i + 1 : Nat) : Int) = (i : Int) + 1 by omega] at this
      exact this
theorem list03_ok {s : List Int × Int × Int} (hs : SrcOk s) : ∃ o s', spec_l03List.f s = some (o, s') ∧ SrcOk s' ∧ o.length ≤ 20 ∧ ∀ x ∈ o, ArtS x := by
  unfold spec_l03List.f spec_l03List.fn spec_l03List.top
  rw [nam6_f]
  exact list03_l4 6 0 NN s [] (by omega) (by simp) (NN_lt (by omega)) hs (by simp)
theorem arts_lm {xs : List Art} (hl : xs.length ≤ 20) (h : ∀ x ∈ xs, ArtS x) : Lm OkArticle xs := ⟨by omega, fun a ha => artS_ok (h a ha)⟩
def CntS (cs : List Int) : Prop := ∀ c ∈ cs, -10 ≤ c ∧ c ≤ 100000
theorem cntS_snoc {cs : List Int} {c : Int} (h : CntS cs) (hc : -10 ≤ c ∧ c ≤ 100000) : CntS (cs ++ [c]) := fun x hx => by
  rcases List.mem_append.1 hx with h1 | h1
  · exact h x h1
  · rw [List.mem_singleton.1 h1]; exact hc
theorem mem_set {cs : List Int} {i : Nat} {v x : Int} (h : x ∈ cs.set i v) : x ∈ cs ∨ x = v := by
  rw [List.mem_iff_getElem?] at h
  obtain ⟨j, hj⟩ := h
  by_cases e : i = j
  · subst e
    rw [List.getElem?_set] at hj
    simp only [if_true] at hj
    split at hj
    · right; exact (Option.some.inj hj).symm
    · cases hj
  · rw [List.getElem?_set_ne e] at hj
    exact .inl (List.mem_iff_getElem?.2 ⟨j, hj⟩)
theorem cntS_set {cs : List Int} {i : Nat} {c : Int} (h : CntS cs) (hc : -10 ≤ c ∧ c ≤ 100000) : CntS (cs.set i c) := fun x hx => by
  rcases mem_set hx with h1 | h1
  · exact h x h1
  · rw [h1]; exact hc
theorem counts_l3 (N : Nat) (hN : N ≤ 1000) : ∀ (d i k : Nat) (s : List Int × Int × Int) (out : List Int), i + d = N → out.length = i → d < k → SrcOk s → CntS out →
    ∃ o s', spec_l03Counts.l3 NN k N i s out = some (o, s') ∧ SrcOk s' ∧ o.length ≤ 1001 ∧ CntS o := by
  intro d
  induction d with
  | zero =>
    intro i k s out hd hl hk hs ho
    obtain ⟨k, rfl⟩ : ∃ j, k = j + 1 := ⟨k - 1, by omega⟩
    obtain ⟨a, s1, e1, o1, a0, a1⟩ := next_ok hs 24 (by omega)
    have n1 : ¬ (i : Int) < (N : Int) := by omega
    obtain ⟨c, s2, e2, o2, c0⟩ := pick_ok o1 [1000, 1001, (-1)] (by simp) (by simp)
    have c1 : -10 ≤ c ∧ c ≤ 100000 := by simp at c0; omega
    simp only [spec_l03Counts.l3, spec_l03Counts.g3, e1, e2, Option.bind_some, n1, decide_false, Bool.false_eq_true, if_false]
    split
    · rw [if_pos (by rw [room8]; simp; omega)]
      exact ⟨_, _, rfl, o1, by simp; omega, cntS_snoc ho (by omega)⟩
    split
    · split
      · rename_i h0
        have h0' : (0 : Int) < N := by simpa using h0
        rw [if_pos ⟨Int.le_refl _, by omega⟩]
        exact ⟨_, _, rfl, o2, by simp; omega, cntS_set ho c1⟩
      · exact ⟨_, _, rfl, o1, by omega, ho⟩
    · exact ⟨_, _, rfl, o1, by omega, ho⟩
  | succ d ih =>
    intro i k s out hd hl hk hs ho
    obtain ⟨k, rfl⟩ : ∃ j, k = j + 1 := ⟨k - 1, by omega⟩
    obtain ⟨a, s1, e1, o1, a0, a1⟩ := next_ok hs 12 (by omega)
    obtain ⟨b, s2, e2, o2, b0, b1⟩ := next_ok o1 12 (by omega)
    obtain ⟨c, s3, e3, o3, c0⟩ := pick_ok o2 [0, a, b] (by simp) (by simp)
    have c1 : -10 ≤ c ∧ c ≤ 100000 := by simp at c0; omega
    have n1 : (i : Int) < (N : Int) := by omega
    have w1 := w64 (n := (i : Int) + 1) (by omega) (by omega)
    simp only [spec_l03Counts.l3, spec_l03Counts.g3, e1, e2, e3, Option.bind_some, n1, decide_true, if_true, w1]
    rw [if_pos (by rw [room8]; simp; omega)]
    have := ih (i + 1) k s3 (out ++ [c]) (by omega) (by simp; omega) (by omega) o3 (cntS_snoc ho c1)
    rw [show ((i + 1 : Nat) : Int) = (i : Int) + 1 by omega] at this
    exact this
theorem counts03_ok {s : List Int × Int × Int} (hs : SrcOk s) (N : Nat) (hN : N ≤ 1000) : ∃ o s', spec_l03Counts.f s N = some (o, s') ∧ SrcOk s' ∧ o.length ≤ 1001 ∧ CntS o := by
  unfold spec_l03Counts.f spec_l03Counts.fn spec_l03Counts.top
  exact counts_l3 N hN N 0 NN s [] (by omega) (by simp) (NN_lt (by omega)) hs (fun _ h => by cases h)
theorem cnts_lm {cs : List Int} (hl : cs.length ≤ 1001) (h : CntS cs) : Lm (Rg .i64) cs := ⟨by omega, fun c hc => wf64.2 (by have := h c hc; omega)⟩
end Go.Pl

namespace Go.Pl
open Go.Ev
set_option linter.unusedVariables false
set_option linter.unusedSimpArgs false
abbrev Prm := Int × Int × Int × Int × List Int × Int
def hasK (ks : List Int) (k : Int) : Bool := ks.any fun x => decide (x = k)
theorem any_foldl (k : Int) : ∀ (ks : List Int) (b : Bool), ks.foldl (fun st x => st || decide (x = k)) b = (b || hasK ks k) := by
  intro ks
  induction ks with
  | nil => intro b; simp [hasK]
  | cons x r ih => intro b; rw [List.foldl_cons, ih]; simp [hasK, Bool.or_assoc]
theorem first_any {α : Type} (P : α → Bool) : ∀ (xs : List α) (i : Nat), (firstOf P i xs).elim (some false) (fun _ => some true) = some (xs.any P) := by
  intro xs
  induction xs with
  | nil => intro i; rfl
  | cons x r ih =>
    intro i
    simp only [firstOf, List.any_cons]
    cases P x
    · simp only [Bool.false_eq_true, if_false, Bool.false_or]; exact ih _
    · rfl
theorem spec_l01Has_f (ks : List Int) (k : Int) (h : ks.length ≤ 140737488355328) : spec_l01Has.f ks k = some (hasK ks k) := by
  have := find_loop (E := fun _ => True) (fun x : Int => decide (x = k)) (fun _ _ => some true) (fun _ => some false) (fun j xs i => spec_l01Has.l2 NN j xs k i) ?_ ?_ ks (fun _ _ => trivial) (by omega) NN (NN_lt (by omega))
  · refine this.trans ?_
    exact first_any _ _ _
  · intro j p
    simp [spec_l01Has.l2, spec_l01Has.g2]
  · intro j p x r _ c0 c1 c2 cw
    simp only [spec_l01Has.l2, spec_l01Has.g2, c0, c1, cw, and_self, and_true, true_and, decide_true, decide_false, if_true, if_false, mid_get, mid_set, mid_getn, mid_setn, bt_mid, Option.bind_some, Bool.not_true, Bool.not_false, Bool.false_eq_true, Bool.true_eq_false, beq_self_eq_true, bne_self_eq_false, Int.toNat_natCast]
    by_cases hx : x = k <;> simp [hx]
/-- counts that go with articles -/
def cntsB (xs : List Art) (cs : List Int) : Bool := decide (cs.length = xs.length) && cs.all (inB · 0 1000)
theorem cntsB_iff {xs : List Art} {cs : List Int} (h : cntsB xs cs = true) : cs.length = xs.length ∧ ∀ i : Nat, 0 ≤ cs.getD i 0 ∧ cs.getD i 0 ≤ 1000 := by
  unfold cntsB at h
  simp only [Bool.and_eq_true, decide_eq_true_eq, List.all_eq_true, inB_iff] at h
  refine ⟨h.1, fun i => ?_⟩
  rw [List.getD_eq_getElem?_getD]
  cases e : cs[i]? with
  | none => simp
  | some c => exact h.2 c (List.mem_of_getElem? e)
theorem impl_areCounts_f (xs : List Art) (cs : List Int) (h : cs.length ≤ 1000000) : impl_areCounts.f xs cs = some (cntsB xs cs) := by
  unfold impl_areCounts.f impl_areCounts.fn impl_areCounts.top cntsB
  rw [impl_allWithin_f cs 0 1000 (by omega)]
  by_cases e : cs.length = xs.length
  · simp [e]
  · have e' : ¬ ((cs.length : Int) = (xs.length : Int)) := by omega
    simp [e, e']
theorem spec_l03Code_f (xs : List Art) (cs : List Int) (hb : xs.length ≤ 140737488355328) (hz : ∀ a ∈ xs, Sz a.1) (h : cs.length ≤ 1000000) : spec_l03Code.f xs cs = some (if artsB xs = true then (if cntsB xs cs = true then 0 else 2) else 1) := by
  unfold spec_l03Code.f spec_l03Code.fn spec_l03Code.top
  rw [spec_AreArticles_f xs hb hz]
  cases hx : artsB xs
  · rfl
  have := find_loop (E := fun _ => True) (fun x : Int => !inB x 0 1000) (fun _ _ => some (2 : Int)) (fun p => if (((p.length : Int) : Int) != (xs.length : Int)) = true then some 2 else some 0) (fun j ys i => spec_l03Code.l4 NN j xs ys i) ?_ ?_ cs (fun _ _ => trivial) (by omega) NN (NN_lt (by omega))
  · simp only [Option.bind_some, Bool.not_true, Bool.false_eq_true, if_false, if_true]
    rw [this]
    unfold cntsB
    have ha : ∀ (ys : List Int) (i : Nat), (firstOf (fun x : Int => !inB x 0 1000) i ys).isSome = !(ys.all (inB · 0 1000)) := by
      intro ys
      induction ys with
      | nil => intro i; rfl
      | cons y r ih => intro i; rcases Bool.eq_false_or_eq_true (inB y 0 1000) with q | q <;> simp [firstOf, q, ih]
    have ha := ha cs 0
    cases hf : firstOf (fun x : Int => !inB x 0 1000) 0 cs with
    | none =>
      rw [hf] at ha
      simp only [Option.isSome_none] at ha
      have ha2 : cs.all (inB · 0 1000) = true := by rw [← Bool.not_eq_false']; exact ha.symm
      simp only [Option.elim_none, ha2, Bool.and_true, decide_eq_true_eq]
      by_cases e : cs.length = xs.length
      · simp [e]
      · have e' : ¬ ((cs.length : Int) = (xs.length : Int)) := by omega
        simp [e, e']
    | some y =>
      rw [hf] at ha
      simp only [Option.isSome_some] at ha
      have ha2 : cs.all (inB · 0 1000) = false := by rw [← Bool.not_eq_true']; exact ha.symm
      simp only [Option.elim_some, ha2, Bool.and_false, Bool.false_eq_true, if_false]
  · intro j p
    simp [spec_l03Code.l4, spec_l03Code.g4]
  · intro j p x r _ c0 c1 c2 cw
    simp only [spec_l03Code.l4, spec_l03Code.g4, c0, c1, cw, and_self, and_true, true_and, decide_true, decide_false, if_true, if_false, mid_get, mid_set, mid_getn, mid_setn, bt_mid, Option.bind_some, Bool.not_true, Bool.not_false, Bool.false_eq_true, Bool.true_eq_false, beq_self_eq_true, bne_self_eq_false, Int.toNat_natCast, spec_l01In_f]
/-- the net mass of an order -/
def netS (cs : List Int) (i : Nat) (st : Int) (a : Art) : Int := st + a.2.2.2.2.2.2.2.1 * cs.getD i 0
def netO (xs : List Art) (cs : List Int) : Int := foldi (netS cs) 0 0 xs
theorem mul_bd {a c : Int} (h1 : 1 ≤ a ∧ a ≤ 100000) (h2 : 0 ≤ c ∧ c ≤ 1000) : 0 ≤ a * c ∧ a * c ≤ 100000000 := by
  refine ⟨Int.mul_nonneg (by omega) h2.1, ?_⟩
  have := Int.mul_le_mul h1.2 h2.2 h2.1 (show (0 : Int) ≤ 100000 by omega)
  omega
theorem impl_orderNet_f (xs : List Art) (cs : List Int) (hx : artsB xs = true) (hc : cntsB xs cs = true) : (0 ≤ netO xs cs ∧ netO xs cs ≤ 1200000000) ∧ impl_orderNet.f xs cs = some (netO xs cs) := by
  obtain ⟨h1, h2⟩ := artsB_ok hx
  obtain ⟨h3, h4⟩ := cntsB_iff hc
  have := fold_fix (E := fun a : Art => artB a = true) (fun p (st : Int) => 0 ≤ st ∧ st ≤ 100000000 * p.length) (netS cs) (fun st => some st) (fun k i st => impl_orderNet.l3 NN k cs st xs xs.length i) xs ?_ ?_ 0 h2 (by simp) (by omega) NN (NN_lt (by omega))
  · exact ⟨⟨this.1.1, by have := this.1.2; unfold netO; omega⟩, this.2⟩
  · intro k st _
    simp [impl_orderNet.l3, impl_orderNet.g3]
  · intro k p a r st hxx ha hI c0 c1 c2 cw g
    have hpl : p.length ≤ 12 := by rw [hxx] at h1; simp at h1; omega
    have hb := mul_bd (artB_iff ha).2.2.2.1 (h4 p.length)
    have w1 := w64 (n := a.2.2.2.2.2.2.2.1 * cs.getD p.length 0) (by omega) (by omega)
    have w2 := w64 (n := st + a.2.2.2.2.2.2.2.1 * cs.getD p.length 0) (by omega) (by omega)
    have c3 : (p.length : Int) < (cs.length : Int) := by omega
    refine ⟨by unfold netS; rw [List.length_append, List.length_singleton]; omega, ?_⟩
    simp only [impl_orderNet.l3, impl_orderNet.g3, c0, c1, c3, cw, and_self, and_true, true_and, decide_true, decide_false, if_true, if_false, mid_get, mid_set, mid_getn, mid_setn, bt_mid, Option.bind_some, Bool.not_true, Bool.not_false, Bool.false_eq_true, Bool.true_eq_false, beq_self_eq_true, bne_self_eq_false, Int.toNat_natCast, g, w1, w2]
    rfl
def refF (p : Prm) (cs : List Int) (i : Nat) (st : Bool × Bool × Bool) (a : Art) : Bool × Bool × Bool :=
  if cs.getD i 0 = 0 then st else (st.1 || decide (p.2.2.2.1 < a.2.2.1), st.2.1 || !hasK p.2.2.2.2.1 a.2.1, st.2.2 || decide (p.2.2.2.2.2 < a.2.2.2.2.2.2.2.2))
def bitsV (l : List Bool) : Int := (l.foldl (fun (st : Int × Int) t => (if t = true then st.1 + st.2 else st.1, 2 * st.2)) (0, 1)).1
/-- the refusals of an order -/
def refV (p : Prm) (xs : List Art) (cs : List Int) (day : Int) : Int :=
  bitsV [!inB day p.1 p.2.1, decide (p.2.2.1 < netO xs cs), (foldi (refF p cs) 0 (false, false, false) xs).1, (foldi (refF p cs) 0 (false, false, false) xs).2.1, (foldi (refF p cs) 0 (false, false, false) xs).2.2]
theorem bits_impl (a b c d e : Bool) : IntKind.i64.wrap ((IntKind.i64.wrap ((IntKind.i64.wrap ((IntKind.i64.wrap ((if a = true then 1 else 0) + (if b = true then 2 else 0))) + (if c = true then 4 else 0))) + (if d = true then 8 else 0))) + (if e = true then 16 else 0)) = bitsV [a, b, c, d, e] := by
  cases a <;> cases b <;> cases c <;> cases d <;> cases e <;> rfl
theorem impl_bit_f (b : Bool) (n : Int) : impl_bit.f b n = some (if b = true then n else 0) := by
  unfold impl_bit.f impl_bit.fn impl_bit.top
  cases b <;> rfl
theorem impl_ref_in (p : Prm) (cs : List Int) (xs : List Art) (v i : Int) (L : List Int → List Art → Int → Int → Prm → List Bool → Option Int) (a : Art) (b0 b1 c k g : Bool) (h : p.2.2.2.2.1.length ≤ 140737488355328) :
    impl_refusalsOf.l10 NN L NN cs false xs v i p.2.2.2.2.1 p.2.2.2.2.1.length 0 p [b0, b1, c, k, g] a = L cs xs v (IntKind.i64.wrap (i + 1)) p [b0, b1, c || decide (p.2.2.2.1 < a.2.2.1), k || !hasK p.2.2.2.2.1 a.2.1, g || decide (p.2.2.2.2.2 < a.2.2.2.2.2.2.2.2)] := by
  have := (fold_fix (E := fun _ => True) (fun _ _ => True) (fun _ st x => st || decide (x = a.2.1)) (fun kd => L cs xs v (IntKind.i64.wrap (i + 1)) p [b0, b1, c || decide (p.2.2.2.1 < a.2.2.1), k || !kd, g || decide (p.2.2.2.2.2 < a.2.2.2.2.2.2.2.2)]) (fun j m kd => impl_refusalsOf.l10 NN L j cs kd xs v i p.2.2.2.2.1 p.2.2.2.2.1.length m p [b0, b1, c, k, g] a) p.2.2.2.2.1 ?_ ?_ false (fun _ _ => trivial) trivial h NN (NN_lt (by omega))).2
  · rw [foldi_foldl, any_foldl, Bool.false_or] at this
    exact this
  · intro j kd _
    cases c <;> cases k <;> cases g <;> simp [impl_refusalsOf.l10, impl_refusalsOf.g10]
  · intro j q x r kd hx _ _ c0 c1 c2 cw gg
    refine ⟨trivial, ?_⟩
    simp only [impl_refusalsOf.l10, impl_refusalsOf.g10, c0, c1, cw, and_self, and_true, true_and, decide_true, decide_false, if_true, if_false, mid_get, mid_set, mid_getn, mid_setn, bt_mid, Option.bind_some, Bool.not_true, Bool.not_false, Bool.false_eq_true, Bool.true_eq_false, beq_self_eq_true, bne_self_eq_false, Int.toNat_natCast, gg]
    cases kd
    · simp only [if_true, Bool.false_or]; rfl
    · simp
theorem impl_refusalsOf_f (p : Prm) (xs : List Art) (cs : List Int) (day : Int) (hx : artsB xs = true) (hc : cntsB xs cs = true) (h : p.2.2.2.2.1.length ≤ 140737488355328) : impl_refusalsOf.f p xs cs day = some (refV p xs cs day) := by
  obtain ⟨h1, h2⟩ := artsB_ok hx
  obtain ⟨h3, h4⟩ := cntsB_iff hc
  unfold impl_refusalsOf.f impl_refusalsOf.fn impl_refusalsOf.top
  rw [impl_within_f, (impl_orderNet_f xs cs hx hc).2]
  have := (fold_fix (E := fun a : Art => artB a = true) (fun _ _ => True) (refF p cs) (fun st => some (bitsV [!inB day p.1 p.2.1, decide (p.2.2.1 < netO xs cs), st.1, st.2.1, st.2.2])) (fun k i st => impl_refusalsOf.l5 NN k cs xs xs.length i p [!inB day p.1 p.2.1, decide (p.2.2.1 < netO xs cs), st.1, st.2.1, st.2.2]) xs ?_ ?_ (false, false, false) h2 trivial (by omega) NN (NN_lt (by omega))).2
  · simp only [Option.bind_some]
    rw [if_pos (by omega), if_pos (by omega)]
    exact this
  · intro k st _
    simp only [impl_refusalsOf.l5, impl_refusalsOf.g5, Int.lt_irrefl, and_self, and_true, true_and, decide_true, decide_false, if_true, if_false, mid_get, mid_set, mid_getn, mid_setn, bt_mid, Option.bind_some, Bool.not_true, Bool.not_false, Bool.false_eq_true, Bool.true_eq_false, beq_self_eq_true, bne_self_eq_false, Int.toNat_natCast, impl_bit_f]
    rw [if_pos (by omega), if_pos (by omega), if_pos (by omega), if_pos (by omega), if_pos (by omega)]
    exact congrArg some (bits_impl (!inB day p.1 p.2.1) (decide (p.2.2.1 < netO xs cs)) st.1 st.2.1 st.2.2)
  · intro k q a r st hxx ha _ c0 c1 c2 cw g
    refine ⟨trivial, ?_⟩
    have c3 : (q.length : Int) < (cs.length : Int) := by omega
    simp only [impl_refusalsOf.l5, impl_refusalsOf.g5, c0, c1, c3, cw, and_self, and_true, true_and, decide_true, decide_false, if_true, if_false, mid_get, mid_set, mid_getn, mid_setn, bt_mid, Option.bind_some, Bool.not_true, Bool.not_false, Bool.false_eq_true, Bool.true_eq_false, beq_self_eq_true, bne_self_eq_false, Int.toNat_natCast, g]
    unfold refF
    by_cases e : cs.getD q.length 0 = 0
    · simp only [e, and_self, and_true, true_and, decide_true, decide_false, if_true, if_false, mid_get, mid_set, mid_getn, mid_setn, bt_mid, Option.bind_some, Bool.not_true, Bool.not_false, Bool.false_eq_true, Bool.true_eq_false, beq_self_eq_true, bne_self_eq_false, Int.toNat_natCast, if_true]
    · have e' : (cs.getD q.length 0 == 0) = false := by simpa using e
      simp only [e, e', and_self, and_true, true_and, decide_true, decide_false, if_true, if_false, mid_get, mid_set, mid_getn, mid_setn, bt_mid, Option.bind_some, Bool.not_true, Bool.not_false, Bool.false_eq_true, Bool.true_eq_false, beq_self_eq_true, bne_self_eq_false, Int.toNat_natCast, if_false]
      rw [impl_ref_in p cs xs xs.length q.length _ a _ _ _ _ _ h, cw]
def refG (p : Prm) (cs : List Int) (i : Nat) (st : Int × Bool × Bool × Bool) (a : Art) : Int × Bool × Bool × Bool := (netS cs i st.1 a, refF p cs i st.2 a)
theorem refG_fold (p : Prm) (cs : List Int) : ∀ (xs : List Art) (i : Nat) (st : Int × Bool × Bool × Bool), foldi (refG p cs) i st xs = (foldi (netS cs) i st.1 xs, foldi (refF p cs) i st.2 xs) := by
  intro xs
  induction xs with
  | nil => intro i st; rfl
  | cons a r ih => intro i st; simp only [foldi, ih, refG]
theorem spec_bits (l : List Bool) (h : l.length ≤ 5) : spec_l30Refusals.l14 NN NN 0 1 0 l = some (bitsV l) := by
  have := (fold_fix (E := fun _ => True) (fun (p : List Bool) (st : Int × Int) => st.2 = 2 ^ p.length ∧ 0 ≤ st.1 ∧ st.1 ≤ 2 ^ p.length) (fun _ (st : Int × Int) t => (if t = true then st.1 + st.2 else st.1, 2 * st.2)) (fun st => some st.1) (fun k i st => spec_l30Refusals.l14 NN k st.1 st.2 i l) l ?_ ?_ (0, 1) (fun _ _ => trivial) (by simp) (by omega) NN (NN_lt (by omega))).2
  · rw [foldi_foldl] at this
    exact this
  · intro k st _
    simp [spec_l30Refusals.l14, spec_l30Refusals.g14]
  · intro k q t r st hx _ hI c0 c1 c2 cw g
    have hq : q.length ≤ 4 := by rw [hx] at h; simp at h; omega
    have hp : (2 : Int) ^ q.length ≤ 16 := by
      rcases Nat.lt_or_ge q.length 1 with h | h
      · rw [show q.length = 0 by omega]; decide
      rcases Nat.lt_or_ge q.length 2 with h | h
      · rw [show q.length = 1 by omega]; decide
      rcases Nat.lt_or_ge q.length 3 with h | h
      · rw [show q.length = 2 by omega]; decide
      rcases Nat.lt_or_ge q.length 4 with h | h
      · rw [show q.length = 3 by omega]; decide
      · rw [show q.length = 4 by omega]; decide
    obtain ⟨i1, i2, i3⟩ := hI
    have w1 := w64 (n := st.1 + st.2) (by omega) (by omega)
    have w2 := w64 (n := 2 * st.2) (by omega) (by omega)
    refine ⟨?_, ?_⟩
    · rw [List.length_append, List.length_singleton, Int.pow_succ]
      refine ⟨by simp only; omega, ?_⟩
      cases t <;> simp only [if_true, Bool.false_eq_true, if_false] <;> omega
    · simp only [spec_l30Refusals.l14, spec_l30Refusals.g14, c0, c1, cw, and_self, and_true, true_and, decide_true, decide_false, if_true, if_false, mid_get, mid_set, mid_getn, mid_setn, bt_mid, Option.bind_some, Bool.not_true, Bool.not_false, Bool.false_eq_true, Bool.true_eq_false, beq_self_eq_true, bne_self_eq_false, Int.toNat_natCast, g, w1, w2]
      cases t <;> rfl
theorem spec_l30Refusals_f (p : Prm) (xs : List Art) (cs : List Int) (day : Int) (hx : artsB xs = true) (hc : cntsB xs cs = true) (h : p.2.2.2.2.1.length ≤ 140737488355328) : spec_l30Refusals.f p xs cs day = some (refV p xs cs day) := by
  obtain ⟨h1, h2⟩ := artsB_ok hx
  obtain ⟨h3, h4⟩ := cntsB_iff hc
  unfold spec_l30Refusals.f spec_l30Refusals.fn spec_l30Refusals.top
  have := (fold_fix (E := fun a : Art => artB a = true) (fun q (st : Int × Bool × Bool × Bool) => 0 ≤ st.1 ∧ st.1 ≤ 100000000 * q.length) (refG p cs) (fun st => some (bitsV [!inB day p.1 p.2.1, decide (p.2.2.1 < st.1), st.2.1, st.2.2.1, st.2.2.2])) (fun k i st => spec_l30Refusals.l4 NN k xs cs day st.1 st.2.1 st.2.2.1 st.2.2.2 i p) xs ?_ ?_ (0, false, false, false) h2 (by simp) (by omega) NN (NN_lt (by omega))).2
  · rw [refG_fold] at this
    exact this
  · intro k st _
    simp only [spec_l30Refusals.l4, spec_l30Refusals.g4, Int.lt_irrefl, and_self, and_true, true_and, decide_true, decide_false, if_true, if_false, mid_get, mid_set, mid_getn, mid_setn, bt_mid, Option.bind_some, Bool.not_true, Bool.not_false, Bool.false_eq_true, Bool.true_eq_false, beq_self_eq_true, bne_self_eq_false, Int.toNat_natCast, spec_l01In_f]
    exact spec_bits _ (by simp)
  · intro k q a r st hxx ha hI c0 c1 c2 cw g
    have hpl : q.length ≤ 12 := by rw [hxx] at h1; simp at h1; omega
    have c3 : (q.length : Int) < (cs.length : Int) := by omega
    have hb := mul_bd (artB_iff ha).2.2.2.1 (h4 q.length)
    have w1 := w64 (n := a.2.2.2.2.2.2.2.1 * cs.getD q.length 0) (by omega) (by omega)
    have w2 := w64 (n := st.1 + a.2.2.2.2.2.2.2.1 * cs.getD q.length 0) (by omega) (by omega)
    refine ⟨by unfold refG netS; rw [List.length_append, List.length_singleton]; simp only; omega, ?_⟩
    simp only [spec_l30Refusals.l4, spec_l30Refusals.g4, c0, c1, c3, cw, and_self, and_true, true_and, decide_true, decide_false, if_true, if_false, mid_get, mid_set, mid_getn, mid_setn, bt_mid, Option.bind_some, Bool.not_true, Bool.not_false, Bool.false_eq_true, Bool.true_eq_false, beq_self_eq_true, bne_self_eq_false, Int.toNat_natCast, g, w1, w2, spec_l01Has_f _ _ h]
    unfold refG refF netS
    obtain ⟨n, c, kd, gr⟩ := st
    by_cases e : cs.getD q.length 0 = 0
    · simp only [e, and_self, and_true, true_and, decide_true, decide_false, if_true, if_false, mid_get, mid_set, mid_getn, mid_setn, bt_mid, Option.bind_some, Bool.not_true, Bool.not_false, Bool.false_eq_true, Bool.true_eq_false, beq_self_eq_true, bne_self_eq_false, Int.toNat_natCast, Int.mul_zero, Int.add_zero]
    · have e' : (cs.getD q.length 0 == 0) = false := by simpa using e
      simp only [e, e', and_self, and_true, true_and, decide_true, decide_false, if_true, if_false, mid_get, mid_set, mid_getn, mid_setn, bt_mid, Option.bind_some, Bool.not_true, Bool.not_false, Bool.false_eq_true, Bool.true_eq_false, beq_self_eq_true, bne_self_eq_false, Int.toNat_natCast]
      cases c <;> cases kd <;> cases gr <;> simp
def askO (b : Bool) (xs : List Art) (cs : List Int) (day : Int) : Int := if b = true then (if artsB xs = true then (if cntsB xs cs = true then (if inB day 0 100000 = true then 0 else 2) else 2) else 1) else 1
def permsL (ps : List Prm) : Bool := decide (ps.length ≤ 8) && ps.all permB
theorem spec_l30All_f (ps : List Prm) (h : ps.length ≤ 1000000) (hk : ∀ p ∈ ps, p.2.2.2.2.1.length ≤ 140737488355328) : spec_l30All.f ps = some (permsL ps) := by
  have := all_loop (E := fun p : Prm => p.2.2.2.2.1.length ≤ 140737488355328) permB (fun p => some (decide (((p.length : Int) : Int) ≤ 8))) (fun k xs i => spec_l30All.l2 NN k xs i) ?_ ?_ ps hk (by omega) NN (NN_lt (by omega))
  · unfold spec_l30All.f spec_l30All.fn spec_l30All.top permsL
    refine this.trans ?_
    have e : decide ((ps.length : Int) ≤ 8) = decide (ps.length ≤ 8) := by congr 1; exact propext (by omega)
    cases ps.all permB <;> simp [e]
  · intro k p
    simp [spec_l30All.l2, spec_l30All.g2]
  · intro k p a r ha c0 c1 cw
    simp only [spec_l30All.l2, spec_l30All.g2, c0, c1, cw, and_self, and_true, true_and, decide_true, decide_false, if_true, if_false, mid_get, mid_set, mid_getn, mid_setn, bt_mid, Option.bind_some, Bool.not_true, Bool.not_false, Bool.false_eq_true, Bool.true_eq_false, beq_self_eq_true, bne_self_eq_false, Int.toNat_natCast, spec_IsPermit_f a ha]
    cases permB a <;> simp
theorem spec_l30Code_f (ps : List Prm) (xs : List Art) (cs : List Int) (day : Int) (h : ps.length ≤ 1000000) (hk : ∀ p ∈ ps, p.2.2.2.2.1.length ≤ 140737488355328) (hb : xs.length ≤ 140737488355328) (hz : ∀ a ∈ xs, Sz a.1) (hc : cs.length ≤ 1000000) :
    spec_l30Code.f ps xs cs day = some (askO (permsL ps) xs cs day) := by
  unfold spec_l30Code.f spec_l30Code.fn spec_l30Code.top askO
  rw [spec_l30All_f ps h hk, spec_l03Code_f xs cs hb hz hc, spec_l01In_f]
  cases permsL ps
  · rfl
  cases artsB xs
  · rfl
  cases cntsB xs cs
  · rfl
  cases inB day 0 100000 <;> rfl
def refR (p : Prm) (xs : List Art) (cs : List Int) (day : Int) : Int × Int := if askO (permB p) xs cs day = 0 then (refV p xs cs day, 0) else (0, askO (permB p) xs cs day)
theorem askO_zero {b : Bool} {xs : List Art} {cs : List Int} {day : Int} (h : askO b xs cs day = 0) : b = true ∧ artsB xs = true ∧ cntsB xs cs = true ∧ inB day 0 100000 = true := by
  unfold askO at h
  cases b
  · simp at h
  cases h1 : artsB xs
  · rw [h1] at h; simp at h
  cases h2 : cntsB xs cs
  · rw [h1, h2] at h; simp at h
  cases h3 : inB day 0 100000
  · rw [h1, h2, h3] at h; simp at h
  exact ⟨rfl, rfl, rfl, rfl⟩
theorem arts_z {xs : List Art} (h : Lm OkArticle xs) : ∀ a ∈ xs, Sz a.1 := fun a ha => Nat.le_trans (h.2 a ha).1 (by omega)
theorem RefusalsOf_both (p : Prm) (xs : List Art) (cs : List Int) (day : Int) (hp : OkPermit p) (hx : Lm OkArticle xs) (hc : Lm (Rg .i64) cs) : spec_RefusalsOf.f p xs cs day = some (refR p xs cs day) ∧ impl_RefusalsOf.f p xs cs day = some (refR p xs cs day) := by
  have hk : p.2.2.2.2.1.length ≤ 140737488355328 := Nat.le_trans hp.2.2.2.2.1.1 (by omega)
  have hb : xs.length ≤ 140737488355328 := Nat.le_trans hx.1 (by omega)
  refine ⟨?_, ?_⟩
  · unfold spec_RefusalsOf.f spec_RefusalsOf.fn spec_RefusalsOf.top refR
    rw [spec_l30Code_f [p] xs cs day (by simp) (fun q hq => by rw [List.mem_singleton.1 hq]; exact hk) hb (arts_z hx) hc.1]
    have e1 : permsL [p] = permB p := by simp [permsL]
    rw [e1]
    simp only [Option.bind_some]
    by_cases h0 : askO (permB p) xs cs day = 0
    · obtain ⟨_, a1, a2, _⟩ := askO_zero h0
      rw [if_pos h0, if_neg (by rw [h0]; decide), spec_l30Refusals_f p xs cs day a1 a2 hk]; rfl
    · rw [if_neg h0, if_pos (by simpa using h0)]
  · unfold impl_RefusalsOf.f impl_RefusalsOf.fn impl_RefusalsOf.top refR askO
    rw [impl_IsPermit_f p hk, impl_AreArticles_f xs hb (arts_z hx), impl_areCounts_f xs cs hc.1, impl_isDay_f]
    cases permB p
    · rfl
    cases h1 : artsB xs
    · rfl
    cases h2 : cntsB xs cs
    · rfl
    cases inB day 0 100000
    · rfl
    rw [impl_refusalsOf_f p xs cs day h1 h2 hk]; rfl
theorem RefusalsOf_core (p : Prm) (xs : List Art) (cs : List Int) (day : Int) (hp : OkPermit p) (hx : Lm OkArticle xs) (hc : Lm (Rg .i64) cs) (_ : Rg .i64 day) : ∃ w, spec_RefusalsOf.f p xs cs day = some w ∧ impl_RefusalsOf.f p xs cs day = some w ∧ True :=
  ⟨_, (RefusalsOf_both p xs cs day hp hx hc).1, (RefusalsOf_both p xs cs day hp hx hc).2, trivial⟩
end Go.Pl

namespace Go.Pl
open Go.Ev
set_option linter.unusedVariables false
noncomputable section
def impl_covers.g4 (L1 : (List (Int × Int × Int × Int × List Int × Int)) → Int → Int → Option Bool) (L4 : (List (Int × Int × Int × Int × List Int × Int)) → Int → Int → Int → (List (Int × Int × Int × Int × List Int × Int)) → Int → Int → Option Bool) (permits0 : List (Int × Int × Int × Int × List Int × Int)) (from1 : Int) (to2 : Int) (next7 : Int) (v14 : List (Int × Int × Int × Int × List Int × Int)) (v15 : Int) (v16 : Int) : Option Bool :=
  if (decide ((v16 : Int) < v15)) = true then
    if (0 : Int) ≤ v16 ∧ (v16 : Int) < v14.length then
      (impl_within.f from1 ((v14.getD (v16 : Int).toNat (0, (0, (0, (0, ([], 0)))))).1) (((v14.getD (v16 : Int).toNat (0, (0, (0, (0, ([], 0)))))).2).1)).bind fun r1 =>
      if r1 = true then
        L4 permits0 from1 to2 (if (IntKind.i64.wrap ((((v14.getD (v16 : Int).toNat (0, (0, (0, (0, ([], 0)))))).2).1) + 1)) > next7 then (IntKind.i64.wrap ((((v14.getD (v16 : Int).toNat (0, (0, (0, (0, ([], 0)))))).2).1) + 1)) else next7) v14 v15 (IntKind.i64.wrap (v16 + 1))
      else
        L4 permits0 from1 to2 next7 v14 v15 (IntKind.i64.wrap (v16 + 1))
    else
      none
  else if ((next7 : Int) == from1) = true then
    some false
  else
    L1 permits0 next7 to2
def impl_covers.l4 (n : Nat) (L1 : (List (Int × Int × Int × Int × List Int × Int)) → Int → Int → Option Bool) : Nat → (List (Int × Int × Int × Int × List Int × Int)) → Int → Int → Int → (List (Int × Int × Int × Int × List Int × Int)) → Int → Int → Option Bool
  | 0 => fun _ _ _ _ _ _ _ => none
  | k + 1 => impl_covers.g4 L1 (impl_covers.l4 n L1 k)
def impl_covers.g1 (I4 : (List (Int × Int × Int × Int × List Int × Int)) → Int → Int → Int → (List (Int × Int × Int × Int × List Int × Int)) → Int → Int → Option Bool) (L1 : (List (Int × Int × Int × Int × List Int × Int)) → Int → Int → Option Bool) (permits0 : List (Int × Int × Int × Int × List Int × Int)) (from1 : Int) (to2 : Int) : Option Bool :=
  if (decide ((from1 : Int) ≤ to2)) = true then
    I4 permits0 from1 to2 from1 permits0 (permits0.length : Int) 0
  else
    some true
def impl_covers.l1 (n : Nat) : Nat → (List (Int × Int × Int × Int × List Int × Int)) → Int → Int → Option Bool
  | 0 => fun _ _ _ => none
  | k + 1 => impl_covers.g1 (impl_covers.l4 n (impl_covers.l1 n k) n) (impl_covers.l1 n k)
def impl_covers.top (I1 : (List (Int × Int × Int × Int × List Int × Int)) → Int → Int → Option Bool) (permits0 : List (Int × Int × Int × Int × List Int × Int)) (from1 : Int) (to2 : Int) : Option Bool :=
  I1 permits0 from1 to2
def impl_covers.fn (n : Nat) (permits0 : List (Int × Int × Int × Int × List Int × Int)) (from1 : Int) (to2 : Int) : Option Bool := impl_covers.top (impl_covers.l1 n n) permits0 from1 to2
def impl_covers.f (permits0 : List (Int × Int × Int × Int × List Int × Int)) (from1 : Int) (to2 : Int) : Option Bool := impl_covers.fn NN permits0 from1 to2
end
end Go.Pl

namespace Go.Pl
open Go.Ev
set_option linter.unusedVariables false
noncomputable section
def impl_areDays.top (from0 : Int) (to1 : Int) : Option Bool :=
  (impl_isDay.f from0).bind fun r1 =>
  if r1 = true then
    (impl_isDay.f to1).bind fun r2 =>
    if r2 = true then
      some (decide ((from0 : Int) ≤ to1))
    else
      some false
  else
    some false
def impl_areDays.fn (n : Nat) (from0 : Int) (to1 : Int) : Option Bool := impl_areDays.top from0 to1
def impl_areDays.f (from0 : Int) (to1 : Int) : Option Bool := impl_areDays.fn NN from0 to1
end
end Go.Pl

namespace Go.Pl
open Go.Ev
set_option linter.unusedVariables false
noncomputable section
def impl_DaysCovered.g7 (L7 : (List (Int × Int × Int × Int × List Int × Int)) → Int → Int → Int → Option (Int × Int)) (permits0 : List (Int × Int × Int × Int × List Int × Int)) (to2 : Int) (count8 : Int) (day9 : Int) : Option (Int × Int) :=
  if (decide ((day9 : Int) ≤ to2)) = true then
    (impl_covers.f permits0 day9 day9).bind fun r3 =>
    if r3 = true then
      L7 permits0 to2 (IntKind.i64.wrap (count8 + 1)) (IntKind.i64.wrap (day9 + 1))
    else
      L7 permits0 to2 count8 (IntKind.i64.wrap (day9 + 1))
  else
    some (count8, 0)
def impl_DaysCovered.l7 (n : Nat) : Nat → (List (Int × Int × Int × Int × List Int × Int)) → Int → Int → Int → Option (Int × Int)
  | 0 => fun _ _ _ _ => none
  | k + 1 => impl_DaysCovered.g7 (impl_DaysCovered.l7 n k)
def impl_DaysCovered.top (I7 : (List (Int × Int × Int × Int × List Int × Int)) → Int → Int → Int → Option (Int × Int)) (permits0 : List (Int × Int × Int × Int × List Int × Int)) (from1 : Int) (to2 : Int) : Option (Int × Int) :=
  (impl_arePermits.f permits0).bind fun r1 =>
  if (!r1) = true then
    some (0, 1)
  else
    (impl_areDays.f from1 to2).bind fun r2 =>
    if (!r2) = true then
      some (0, 2)
    else
      I7 permits0 to2 0 from1
def impl_DaysCovered.fn (n : Nat) (permits0 : List (Int × Int × Int × Int × List Int × Int)) (from1 : Int) (to2 : Int) : Option (Int × Int) := impl_DaysCovered.top (impl_DaysCovered.l7 n n) permits0 from1 to2
def impl_DaysCovered.f (permits0 : List (Int × Int × Int × Int × List Int × Int)) (from1 : Int) (to2 : Int) : Option (Int × Int) := impl_DaysCovered.fn NN permits0 from1 to2
end
end Go.Pl

namespace Go.Pl
open Go.Ev
set_option linter.unusedVariables false
noncomputable section
def spec_l30Days.top (permits0 : List (Int × Int × Int × Int × List Int × Int)) (from1 : Int) (to2 : Int) : Option Int :=
  (spec_l30All.f permits0).bind fun r1 =>
  if (!r1) = true then
    some 1
  else
    (spec_l01In.f from1 0 100000).bind fun r2 =>
    if (!r2) = false then
      (spec_l01In.f to2 from1 100000).bind fun r3 =>
      if (!r3) = true then
        some 2
      else
        some 0
    else
      some 2
def spec_l30Days.fn (n : Nat) (permits0 : List (Int × Int × Int × Int × List Int × Int)) (from1 : Int) (to2 : Int) : Option Int := spec_l30Days.top permits0 from1 to2
def spec_l30Days.f (permits0 : List (Int × Int × Int × Int × List Int × Int)) (from1 : Int) (to2 : Int) : Option Int := spec_l30Days.fn NN permits0 from1 to2
end
end Go.Pl

namespace Go.Pl
open Go.Ev
set_option linter.unusedVariables false
noncomputable section
def spec_l30Holds.g2 (L2 : (List (Int × Int × Int × Int × List Int × Int)) → List Int → Int → Int → Option Bool) (permits0 : List (Int × Int × Int × Int × List Int × Int)) (some1 : List Int) (day2 : Int) (i7 : Int) : Option Bool :=
  if (decide ((i7 : Int) < (some1.length : Int))) = true then
    if (0 : Int) ≤ i7 ∧ (i7 : Int) < some1.length then
      if (0 : Int) ≤ (some1.getD (i7 : Int).toNat 0) ∧ ((some1.getD (i7 : Int).toNat 0) : Int) < permits0.length then
        if (0 : Int) ≤ i7 ∧ (i7 : Int) < some1.length then
          if (0 : Int) ≤ (some1.getD (i7 : Int).toNat 0) ∧ ((some1.getD (i7 : Int).toNat 0) : Int) < permits0.length then
            (spec_l01In.f day2 ((permits0.getD ((some1.getD (i7 : Int).toNat 0) : Int).toNat (0, (0, (0, (0, ([], 0)))))).1) (((permits0.getD ((some1.getD (i7 : Int).toNat 0) : Int).toNat (0, (0, (0, (0, ([], 0)))))).2).1)).bind fun r1 =>
            if r1 = true then
              some true
            else
              L2 permits0 some1 day2 (IntKind.i64.wrap (i7 + 1))
          else
            none
        else
          none
      else
        none
    else
      none
  else
    some false
def spec_l30Holds.l2 (n : Nat) : Nat → (List (Int × Int × Int × Int × List Int × Int)) → List Int → Int → Int → Option Bool
  | 0 => fun _ _ _ _ => none
  | k + 1 => spec_l30Holds.g2 (spec_l30Holds.l2 n k)
def spec_l30Holds.top (I2 : (List (Int × Int × Int × Int × List Int × Int)) → List Int → Int → Int → Option Bool) (permits0 : List (Int × Int × Int × Int × List Int × Int)) (some1 : List Int) (day2 : Int) : Option Bool :=
  I2 permits0 some1 day2 0
def spec_l30Holds.fn (n : Nat) (permits0 : List (Int × Int × Int × Int × List Int × Int)) (some1 : List Int) (day2 : Int) : Option Bool := spec_l30Holds.top (spec_l30Holds.l2 n n) permits0 some1 day2
def spec_l30Holds.f (permits0 : List (Int × Int × Int × Int × List Int × Int)) (some1 : List Int) (day2 : Int) : Option Bool := spec_l30Holds.fn NN permits0 some1 day2
end
end Go.Pl

namespace Go.Pl
open Go.Ev
set_option linter.unusedVariables false
noncomputable section
def spec_l30Every.g3 (L3 : Int → Int → List Int → Option (List Int)) (v7 : Int) (v8 : Int) (out3 : List Int) : Option (List Int) :=
  if (decide ((v8 : Int) < v7)) = true then
    if out3.length + ([v8]).length < room 8 then
      L3 v7 (IntKind.i64.wrap (v8 + 1)) (out3 ++ ([v8]))
    else
      none
  else
    some out3
def spec_l30Every.l3 (n : Nat) : Nat → Int → Int → List Int → Option (List Int)
  | 0 => fun _ _ _ => none
  | k + 1 => spec_l30Every.g3 (spec_l30Every.l3 n k)
def spec_l30Every.top (I3 : Int → Int → List Int → Option (List Int)) (permits0 : List (Int × Int × Int × Int × List Int × Int)) : Option (List Int) :=
  I3 (permits0.length : Int) 0 []
def spec_l30Every.fn (n : Nat) (permits0 : List (Int × Int × Int × Int × List Int × Int)) : Option (List Int) := spec_l30Every.top (spec_l30Every.l3 n n) permits0
def spec_l30Every.f (permits0 : List (Int × Int × Int × Int × List Int × Int)) : Option (List Int) := spec_l30Every.fn NN permits0
end
end Go.Pl

namespace Go.Pl
open Go.Ev
set_option linter.unusedVariables false
noncomputable section
def spec_DaysCovered.g7 (L7 : (List (Int × Int × Int × Int × List Int × Int)) → Int → Int → Int → List Int → Option (Int × Int)) (permits0 : List (Int × Int × Int × Int × List Int × Int)) (to2 : Int) (n9 : Int) (day11 : Int) (all10 : List Int) : Option (Int × Int) :=
  if (decide ((day11 : Int) ≤ to2)) = true then
    (spec_l30Holds.f permits0 all10 day11).bind fun r3 =>
    if r3 = true then
      L7 permits0 to2 (IntKind.i64.wrap (n9 + 1)) (IntKind.i64.wrap (day11 + 1)) all10
    else
      L7 permits0 to2 n9 (IntKind.i64.wrap (day11 + 1)) all10
  else
    some (n9, 0)
def spec_DaysCovered.l7 (n : Nat) : Nat → (List (Int × Int × Int × Int × List Int × Int)) → Int → Int → Int → List Int → Option (Int × Int)
  | 0 => fun _ _ _ _ _ => none
  | k + 1 => spec_DaysCovered.g7 (spec_DaysCovered.l7 n k)
def spec_DaysCovered.top (I7 : (List (Int × Int × Int × Int × List Int × Int)) → Int → Int → Int → List Int → Option (Int × Int)) (permits0 : List (Int × Int × Int × Int × List Int × Int)) (from1 : Int) (to2 : Int) : Option (Int × Int) :=
  (spec_l30Days.f permits0 from1 to2).bind fun r1 =>
  if ((r1 : Int) != 0) = true then
    some (0, r1)
  else
    (spec_l30Every.f permits0).bind fun r2 =>
    I7 permits0 to2 0 from1 r2
def spec_DaysCovered.fn (n : Nat) (permits0 : List (Int × Int × Int × Int × List Int × Int)) (from1 : Int) (to2 : Int) : Option (Int × Int) := spec_DaysCovered.top (spec_DaysCovered.l7 n n) permits0 from1 to2
def spec_DaysCovered.f (permits0 : List (Int × Int × Int × Int × List Int × Int)) (from1 : Int) (to2 : Int) : Option (Int × Int) := spec_DaysCovered.fn NN permits0 from1 to2
end
end Go.Pl

namespace Go.Pl
open Go.Ev
set_option linter.unusedVariables false
set_option linter.unusedSimpArgs false
theorem impl_arePermits_f (ps : List Prm) (h : ps.length ≤ 1000000) (hk : ∀ p ∈ ps, p.2.2.2.2.1.length ≤ 140737488355328) : impl_arePermits.f ps = some (permsL ps) := by
  unfold impl_arePermits.f impl_arePermits.fn impl_arePermits.top permsL
  by_cases h8 : (8 : Int) < (ps.length : Int)
  · have : ¬ ps.length ≤ 8 := by omega
    simp [h8, this]
  have e8 : ps.length ≤ 8 := by omega
  simp only [h8, e8, and_self, and_true, true_and, decide_true, decide_false, if_true, if_false, mid_get, mid_set, mid_getn, mid_setn, bt_mid, Option.bind_some, Bool.not_true, Bool.not_false, Bool.false_eq_true, Bool.true_eq_false, beq_self_eq_true, bne_self_eq_false, Int.toNat_natCast]
  have := all_loop (E := fun p : Prm => p.2.2.2.2.1.length ≤ 140737488355328) permB (fun _ => some true) (fun k xs i => impl_arePermits.l4 NN k xs xs.length i) ?_ ?_ ps hk (by omega) NN (NN_lt (by omega))
  · refine this.trans ?_
    cases ps.all permB <;> simp
  · intro k p
    simp [impl_arePermits.l4, impl_arePermits.g4]
  · intro k p a r ha c0 c1 cw
    simp only [impl_arePermits.l4, impl_arePermits.g4, c0, c1, cw, and_self, and_true, true_and, decide_true, decide_false, if_true, if_false, mid_get, mid_set, mid_getn, mid_setn, bt_mid, Option.bind_some, Bool.not_true, Bool.not_false, Bool.false_eq_true, Bool.true_eq_false, beq_self_eq_true, bne_self_eq_false, Int.toNat_natCast, impl_IsPermit_f a ha]
    cases permB a <;> simp
theorem permB_iff {p : Prm} (h : permB p = true) : (0 ≤ p.1 ∧ p.1 ≤ 100000) ∧ (p.1 ≤ p.2.1 ∧ p.2.1 ≤ 100000) := by
  unfold permB at h
  simp only [Bool.and_eq_true, inB_iff] at h
  omega
def fstP (ps : List Prm) (xs : List Art) (cs : List Int) (day : Int) : Option (Nat × Prm) := firstOf (fun p : Prm => decide (refV p xs cs day = 0)) 0 ps
def frsR (ps : List Prm) (xs : List Art) (cs : List Int) (day : Int) : Int × Int := if askO (permsL ps) xs cs day = 0 then (fstP ps xs cs day).elim (0, 4) (fun x => ((x.1 : Int), 0)) else (0, askO (permsL ps) xs cs day)
theorem perms_k {ps : List Prm} (hp : Lm OkPermit ps) : ∀ p ∈ ps, p.2.2.2.2.1.length ≤ 140737488355328 := fun p h => Nat.le_trans (hp.2 p h).2.2.2.2.1.1 (by omega)
theorem FirstPermit_both (ps : List Prm) (xs : List Art) (cs : List Int) (day : Int) (hp : Lm OkPermit ps) (hx : Lm OkArticle xs) (hc : Lm (Rg .i64) cs) : spec_FirstPermit.f ps xs cs day = some (frsR ps xs cs day) ∧ impl_FirstPermit.f ps xs cs day = some (frsR ps xs cs day) := by
  have hk := perms_k hp
  have hpl := hp.1
  have hb : xs.length ≤ 140737488355328 := Nat.le_trans hx.1 (by omega)
  refine ⟨?_, ?_⟩
  · unfold spec_FirstPermit.f spec_FirstPermit.fn spec_FirstPermit.top frsR
    rw [spec_l30Code_f ps xs cs day hpl hk hb (arts_z hx) hc.1]
    simp only [Option.bind_some]
    by_cases h0 : askO (permsL ps) xs cs day = 0
    · obtain ⟨_, a1, a2, _⟩ := askO_zero h0
      rw [if_pos h0, if_neg (by rw [h0]; decide)]
      have := find_loop (E := fun p : Prm => p.2.2.2.2.1.length ≤ 140737488355328) (fun p : Prm => decide (refV p xs cs day = 0)) (fun i _ => some (i : Int)) (fun _ => some (-1)) (fun k ys i => spec_l30First.l2 NN k ys xs cs day i) ?_ ?_ ps hk (by omega) NN (NN_lt (by omega))
      · unfold spec_l30First.f spec_l30First.fn spec_l30First.top
        rw [this]
        unfold fstP
        cases firstOf (fun p : Prm => decide (refV p xs cs day = 0)) 0 ps with
        | none => rfl
        | some y =>
          have : ¬ (y.1 : Int) < 0 := by omega
          simp [this]
      · intro k q
        simp [spec_l30First.l2, spec_l30First.g2]
      · intro k q p r he c0 c1 c2 cw
        simp only [spec_l30First.l2, spec_l30First.g2, c0, c1, cw, and_self, and_true, true_and, decide_true, decide_false, if_true, if_false, mid_get, mid_set, mid_getn, mid_setn, bt_mid, Option.bind_some, Bool.not_true, Bool.not_false, Bool.false_eq_true, Bool.true_eq_false, beq_self_eq_true, bne_self_eq_false, Int.toNat_natCast, spec_l30Refusals_f p xs cs day a1 a2 he]
        by_cases h : refV p xs cs day = 0 <;> simp [h]
    · rw [if_neg h0, if_pos (by simpa using h0)]
  · unfold impl_FirstPermit.f impl_FirstPermit.fn impl_FirstPermit.top frsR
    rw [impl_arePermits_f ps hpl hk, impl_AreArticles_f xs hb (arts_z hx), impl_areCounts_f xs cs hc.1, impl_isDay_f]
    have ea : ∀ v : Int × Int, (if askO (permsL ps) xs cs day = 0 then v else (0, askO (permsL ps) xs cs day)) = if permsL ps = true then (if artsB xs = true then (if cntsB xs cs = true then (if inB day 0 100000 = true then v else (0, 2)) else (0, 2)) else (0, 1)) else (0, 1) := fun v => by
      unfold askO
      cases permsL ps
      · rfl
      cases artsB xs
      · rfl
      cases cntsB xs cs
      · rfl
      cases inB day 0 100000 <;> rfl
    rw [ea]
    cases permsL ps
    · rfl
    cases h1 : artsB xs
    · rfl
    cases h2 : cntsB xs cs
    · rfl
    cases inB day 0 100000
    · rfl
    have := find_loop (E := fun p : Prm => p.2.2.2.2.1.length ≤ 140737488355328) (fun p : Prm => decide (refV p xs cs day = 0)) (fun i _ => some ((i : Int), (0 : Int))) (fun _ => some (0, 4)) (fun k ys i => impl_FirstPermit.l6 NN k xs cs day ys ys.length i) ?_ ?_ ps hk (by omega) NN (NN_lt (by omega))
    · simp only [Option.bind_some, Bool.not_true, Bool.false_eq_true, if_false, if_true]
      refine this.trans ?_
      unfold fstP
      cases firstOf (fun p : Prm => decide (refV p xs cs day = 0)) 0 ps <;> rfl
    · intro k q
      simp [impl_FirstPermit.l6, impl_FirstPermit.g6]
    · intro k q p r he c0 c1 c2 cw
      simp only [impl_FirstPermit.l6, impl_FirstPermit.g6, c0, c1, cw, and_self, and_true, true_and, decide_true, decide_false, if_true, if_false, mid_get, mid_set, mid_getn, mid_setn, bt_mid, Option.bind_some, Bool.not_true, Bool.not_false, Bool.false_eq_true, Bool.true_eq_false, beq_self_eq_true, bne_self_eq_false, Int.toNat_natCast, impl_refusalsOf_f p xs cs day h1 h2 he]
      by_cases h : refV p xs cs day = 0 <;> simp [h]
theorem FirstPermit_core (ps : List Prm) (xs : List Art) (cs : List Int) (day : Int) (hp : Lm OkPermit ps) (hx : Lm OkArticle xs) (hc : Lm (Rg .i64) cs) (_ : Rg .i64 day) : ∃ w, spec_FirstPermit.f ps xs cs day = some w ∧ impl_FirstPermit.f ps xs cs day = some w ∧ True :=
  ⟨_, (FirstPermit_both ps xs cs day hp hx hc).1, (FirstPermit_both ps xs cs day hp hx hc).2, trivial⟩
def maxD (a b : Int) : Int := if a > b then a else b
def nxtF (xs : List Art) (cs : List Int) (day : Int) (best : Int) (p : Prm) : Int :=
  if refV p xs cs (maxD p.1 day) = 0 then (if best < 0 then maxD p.1 day else if maxD p.1 day < best then maxD p.1 day else best) else best
def nxtL (ps : List Prm) (xs : List Art) (cs : List Int) (day : Int) : Int := ps.foldl (nxtF xs cs day) (-1)
def nxtR (ps : List Prm) (xs : List Art) (cs : List Int) (day : Int) : Int × Int := if askO (permsL ps) xs cs day = 0 then (if nxtL ps xs cs day < 0 then (0, 4) else (nxtL ps xs cs day, 0)) else (0, askO (permsL ps) xs cs day)
theorem ask_iff (b : Bool) (xs : List Art) (cs : List Int) (day : Int) (v : Int × Int) : (if askO b xs cs day = 0 then v else (0, askO b xs cs day)) = if b = true then (if artsB xs = true then (if cntsB xs cs = true then (if inB day 0 100000 = true then v else (0, 2)) else (0, 2)) else (0, 1)) else (0, 1) := by
  unfold askO
  cases b
  · rfl
  cases artsB xs
  · rfl
  cases cntsB xs cs
  · rfl
  cases inB day 0 100000 <;> rfl
theorem NextDay_both (ps : List Prm) (xs : List Art) (cs : List Int) (day : Int) (hp : Lm OkPermit ps) (hx : Lm OkArticle xs) (hc : Lm (Rg .i64) cs) : spec_NextDay.f ps xs cs day = some (nxtR ps xs cs day) ∧ impl_NextDay.f ps xs cs day = some (nxtR ps xs cs day) := by
  have hk := perms_k hp
  have hpl := hp.1
  have hb : xs.length ≤ 140737488355328 := Nat.le_trans hx.1 (by omega)
  have fin : ∀ st : Int, (if (decide ((st : Int) < 0)) = true then some ((0 : Int), (4 : Int)) else some (st, 0)) = some (if st < 0 then (0, 4) else (st, 0)) := fun st => by
    by_cases h : st < 0 <;> simp [h]
  refine ⟨?_, ?_⟩
  · unfold spec_NextDay.f spec_NextDay.fn spec_NextDay.top nxtR
    rw [spec_l30Code_f ps xs cs day hpl hk hb (arts_z hx) hc.1]
    simp only [Option.bind_some]
    by_cases h0 : askO (permsL ps) xs cs day = 0
    · obtain ⟨_, a1, a2, _⟩ := askO_zero h0
      rw [if_pos h0, if_neg (by rw [h0]; decide)]
      have := (fold_fix (E := fun p : Prm => p.2.2.2.2.1.length ≤ 140737488355328) (fun _ _ => True) (fun _ => nxtF xs cs day) (fun st => some (if st < 0 then ((0 : Int), (4 : Int)) else (st, 0))) (fun k i st => spec_NextDay.l6 NN k ps xs cs day st i) ps ?_ ?_ (-1) hk trivial (by omega) NN (NN_lt (by omega))).2
      · rw [foldi_foldl] at this
        exact this
      · intro k st _
        simp only [spec_NextDay.l6, spec_NextDay.g6, Int.lt_irrefl, and_self, and_true, true_and, decide_true, decide_false, if_true, if_false, mid_get, mid_set, mid_getn, mid_setn, bt_mid, Option.bind_some, Bool.not_true, Bool.not_false, Bool.false_eq_true, Bool.true_eq_false, beq_self_eq_true, bne_self_eq_false, Int.toNat_natCast]
        exact fin st
      · intro k q p r st hxx he _ c0 c1 c2 cw g
        refine ⟨trivial, ?_⟩
        simp only [spec_NextDay.l6, spec_NextDay.g6, c0, c1, cw, and_self, and_true, true_and, decide_true, decide_false, if_true, if_false, mid_get, mid_set, mid_getn, mid_setn, bt_mid, Option.bind_some, Bool.not_true, Bool.not_false, Bool.false_eq_true, Bool.true_eq_false, beq_self_eq_true, bne_self_eq_false, Int.toNat_natCast, g]
        rw [spec_l30Refusals_f p xs cs _ a1 a2 he]
        rw [show (if p.1 > day then p.1 else day) = maxD p.1 day from rfl]
        unfold nxtF
        simp only [Option.bind_some]
        by_cases h : refV p xs cs (maxD p.1 day) = 0
        · by_cases h2 : st < 0
          · simp [h, h2]
          · by_cases h3 : maxD p.1 day < st
            · simp [h, h2, h3]
            · simp [h, h2, h3]
        · simp [h]
    · rw [if_neg h0, if_pos (by simpa using h0)]
  · unfold impl_NextDay.f impl_NextDay.fn impl_NextDay.top nxtR
    rw [impl_arePermits_f ps hpl hk, impl_AreArticles_f xs hb (arts_z hx), impl_areCounts_f xs cs hc.1, impl_isDay_f, ask_iff]
    cases permsL ps
    · rfl
    cases h1 : artsB xs
    · rfl
    cases h2 : cntsB xs cs
    · rfl
    cases inB day 0 100000
    · rfl
    have := (fold_fix (E := fun p : Prm => p.2.2.2.2.1.length ≤ 140737488355328) (fun _ _ => True) (fun _ => nxtF xs cs day) (fun st => some (if st < 0 then ((0 : Int), (4 : Int)) else (st, 0))) (fun k i st => impl_NextDay.l7 NN k xs cs day st ps ps.length i) ps ?_ ?_ (-1) hk trivial (by omega) NN (NN_lt (by omega))).2
    · rw [foldi_foldl] at this
      simp only [Option.bind_some, Bool.not_true, Bool.false_eq_true, if_false, if_true]
      exact this
    · intro k st _
      simp only [impl_NextDay.l7, impl_NextDay.g7, Int.lt_irrefl, and_self, and_true, true_and, decide_true, decide_false, if_true, if_false, mid_get, mid_set, mid_getn, mid_setn, bt_mid, Option.bind_some, Bool.not_true, Bool.not_false, Bool.false_eq_true, Bool.true_eq_false, beq_self_eq_true, bne_self_eq_false, Int.toNat_natCast]
      exact fin st
    · intro k q p r st hxx he _ c0 c1 c2 cw g
      refine ⟨trivial, ?_⟩
      simp only [impl_NextDay.l7, impl_NextDay.g7, c0, c1, cw, and_self, and_true, true_and, decide_true, decide_false, if_true, if_false, mid_get, mid_set, mid_getn, mid_setn, bt_mid, Option.bind_some, Bool.not_true, Bool.not_false, Bool.false_eq_true, Bool.true_eq_false, beq_self_eq_true, bne_self_eq_false, Int.toNat_natCast, g]
      rw [impl_refusalsOf_f p xs cs _ h1 h2 he]
      rw [show (if p.1 > day then p.1 else day) = maxD p.1 day from rfl]
      unfold nxtF
      simp only [Option.bind_some]
      by_cases h : refV p xs cs (maxD p.1 day) = 0
      · by_cases h2 : st < 0
        · simp [h, h2]
        · by_cases h3 : maxD p.1 day < st
          · simp [h, h2, h3]
          · simp [h, h2, h3]
      · simp [h]
theorem NextDay_core (ps : List Prm) (xs : List Art) (cs : List Int) (day : Int) (hp : Lm OkPermit ps) (hx : Lm OkArticle xs) (hc : Lm (Rg .i64) cs) (_ : Rg .i64 day) : ∃ w, spec_NextDay.f ps xs cs day = some w ∧ impl_NextDay.f ps xs cs day = some w ∧ True :=
  ⟨_, (NextDay_both ps xs cs day hp hx hc).1, (NextDay_both ps xs cs day hp hx hc).2, trivial⟩
end Go.Pl

namespace Go.Pl
open Go.Ev
set_option linter.unusedVariables false
set_option linter.unusedSimpArgs false
def insK (n : Int) : List Int → List Int
  | [] => [n]
  | a :: r => if a < n then a :: insK n r else if a = n then a :: r else n :: a :: r
def hitK (n : Int) (xs : List Int) (i : Nat) (a : Int) : List Int := if a = n then xs else xs.take i ++ n :: xs.drop i
theorem insK_first (n : Int) : ∀ (r p : List Int), p ++ insK n r = (firstOf (fun a => !decide (a < n)) p.length r).elim (p ++ r ++ [n]) (fun x => hitK n (p ++ r) x.1 x.2) := by
  intro r
  induction r with
  | nil => intro p; simp [insK, firstOf]
  | cons l r ih =>
    intro p
    have := ih (p ++ [l])
    simp only [insK, firstOf]
    by_cases h : l < n
    · simp only [h, if_true, decide_true, Bool.not_true, Bool.false_eq_true, if_false]
      simp only [List.length_append, List.length_singleton, List.append_assoc, List.singleton_append] at this ⊢
      exact this
    · simp only [h, if_false, decide_false, Bool.not_false, if_true, Option.elim, hitK]
      by_cases h2 : l = n <;> simp [h2]
theorem room8n {n : Nat} (h : n ≤ 2000000) : n < room 8 := by rw [room8]; omega
theorem spec_l03Insert_f (xs : List Int) (n : Int) (h : xs.length ≤ 1000000) : spec_l03Insert.f xs n = some (insK n xs) := by
  have := find_loop (E := fun _ => True) (fun a => !decide (a < n)) (fun i a => some (hitK n xs i a)) (fun p => some (p ++ [n])) (fun k p i => if p = xs then spec_l03Insert.l2 NN k n i p else (firstOf (fun a => !decide (a < n)) i.toNat (p.drop i.toNat)).elim (some (p ++ [n])) (fun x => some (hitK n xs x.1 x.2))) ?_ ?_ xs (fun _ _ => trivial) (by omega) NN (NN_lt (by omega))
  · rw [if_pos rfl] at this
    unfold spec_l03Insert.f spec_l03Insert.fn spec_l03Insert.top
    rw [this]
    have h2 := insK_first n xs []
    simp only [List.nil_append, List.length_nil] at h2
    rw [h2]
    cases firstOf (fun a => !decide (a < n)) 0 xs <;> rfl
  · intro k p
    by_cases hp : p = xs
    · subst hp
      rw [if_pos rfl]
      have q0 : (0 : Int) ≤ (p.length : Int) := by omega
      simp only [spec_l03Insert.l2, spec_l03Insert.g2, Int.lt_irrefl, and_self, and_true, true_and, decide_true, decide_false, if_true, if_false, mid_get, mid_set, mid_getn, mid_setn, bt_mid, Option.bind_some, Bool.not_true, Bool.not_false, Bool.false_eq_true, Bool.true_eq_false, beq_self_eq_true, bne_self_eq_false, Int.toNat_natCast, Int.le_refl, q0, List.take_length, List.drop_length, List.nil_append, List.append_nil]
      rw [if_pos (room8n (by simp; omega)), if_pos (room8n (by simp; omega)), if_pos (room8n (by simp; omega))]
    · rw [if_neg hp]; simp [firstOf]
  · intro k p l r _ c0 c1 c2 cw
    by_cases hp : p ++ l :: r = xs
    · rw [if_pos hp, if_pos hp, hp]
      have c1' : (p.length : Int) < (xs.length : Int) := by rw [← hp]; exact c1
      have g : ∀ z, xs.getD p.length z = l := fun z => by rw [← hp, mid_getn]
      have c3 : (p.length : Int) ≤ (xs.length : Int) := by omega
      simp only [spec_l03Insert.l2, spec_l03Insert.g2, c0, c1', c3, cw, and_self, and_true, true_and, decide_true, decide_false, if_true, if_false, mid_get, mid_set, mid_getn, mid_setn, bt_mid, Option.bind_some, Bool.not_true, Bool.not_false, Bool.false_eq_true, Bool.true_eq_false, beq_self_eq_true, bne_self_eq_false, Int.toNat_natCast, g]
      by_cases h1 : l < n
      · simp [h1]
      · simp only [h1, decide_false, Bool.false_eq_true, if_false, Bool.not_false, if_true, hitK]
        by_cases h2 : l = n
        · simp [h2]
        · have h2' : (l == n) = false := by simpa using h2
          simp only [h2, h2', Bool.false_eq_true, if_false, List.nil_append]
          rw [if_pos (room8n (by simp; omega)), if_pos (room8n (by simp; omega)), if_pos (room8n (by simp; omega))]
          simp
    · rw [if_neg hp, if_neg hp]
      have t1 : ((p.length : Int) + 1).toNat = p.length + 1 := by omega
      rw [t1, Int.toNat_natCast, List.drop_left, show p ++ l :: r = (p ++ [l]) ++ r by simp, show p.length + 1 = (p ++ [l]).length by simp, List.drop_left]
      simp only [firstOf]
      by_cases h1 : l < n
      · simp only [h1, decide_true, Bool.not_true, Bool.false_eq_true, if_false, List.length_append, List.length_singleton]
      · simp only [h1, decide_false, Bool.not_false, if_true, Option.elim]
/-- the kinds that are set -/
def flg (a b c d : Bool) : List Int := (if a = true then [0] else []) ++ ((if b = true then [1] else []) ++ ((if c = true then [2] else []) ++ (if d = true then [3] else [])))
theorem flg_len (a b c d : Bool) : (flg a b c d).length ≤ 4 := by cases a <;> cases b <;> cases c <;> cases d <;> decide
theorem flg_set (a b c d : Bool) (k : Int) (h0 : 0 ≤ k) (h3 : k ≤ 3) : ∃ a' b' c' d', [a, b, c, d].set k.toNat true = [a', b', c', d'] ∧ insK k (flg a b c d) = flg a' b' c' d' := by
  have hk : k = 0 ∨ k = 1 ∨ k = 2 ∨ k = 3 := by omega
  rcases hk with rfl | rfl | rfl | rfl
  · exact ⟨true, b, c, d, rfl, by cases a <;> cases b <;> cases c <;> cases d <;> rfl⟩
  · exact ⟨a, true, c, d, rfl, by cases a <;> cases b <;> cases c <;> cases d <;> rfl⟩
  · exact ⟨a, b, true, d, rfl, by cases a <;> cases b <;> cases c <;> cases d <;> rfl⟩
  · exact ⟨a, b, c, true, rfl, by cases a <;> cases b <;> cases c <;> cases d <;> rfl⟩
structure PF where
  cal : Int
  grp : Int
  a : Bool
  b : Bool
  c : Bool
  d : Bool
def PF.fl (s : PF) : List Bool := [s.a, s.b, s.c, s.d]
def PF.ks (s : PF) : List Int := flg s.a s.b s.c s.d
/-- flags with one more -/
def setF4 (l : List Bool) (s : PF) : PF := { s with a := l.getD 0 false, b := l.getD 1 false, c := l.getD 2 false, d := l.getD 3 false }
def pfF (cs : List Int) (i : Nat) (s : PF) (x : Art) : PF :=
  if 0 < cs.getD i 0 then setF4 (s.fl.set x.2.1.toNat true) { s with cal := maxD x.2.2.1 s.cal, grp := maxD x.2.2.2.2.2.2.2.2 s.grp } else s
theorem pf_fl {s : PF} {k : Int} (h0 : 0 ≤ k) (h3 : k ≤ 3) (c g : Int) : (setF4 (s.fl.set k.toNat true) { s with cal := c, grp := g }).fl = s.fl.set k.toNat true ∧ (setF4 (s.fl.set k.toNat true) { s with cal := c, grp := g }).ks = insK k s.ks ∧ (setF4 (s.fl.set k.toNat true) { s with cal := c, grp := g }).cal = c ∧ (setF4 (s.fl.set k.toNat true) { s with cal := c, grp := g }).grp = g := by
  obtain ⟨a', b', c', d', e1, e2⟩ := flg_set s.a s.b s.c s.d k h0 h3
  unfold PF.fl PF.ks
  rw [e1, e2]
  exact ⟨rfl, rfl, rfl, rfl⟩
def pf0 : PF := ⟨20, 0, false, false, false, false⟩
def pfL (xs : List Art) (cs : List Int) : PF := foldi (pfF cs) 0 pf0 xs
abbrev Z6 : Prm := (0, (0, (0, (0, ([], 0)))))
def pfV (day net : Int) (s : PF) : Prm := (day, (day, (net, (s.cal, (s.ks, s.grp)))))
theorem impl_pf_ks (s : PF) (v1 v2 v3 v4 v5 day net : Int) (w : List Int) : impl_PermitFor.l18 NN NN s.fl 0 v1 v2 v3 v4 v5 day day net s.cal s.grp w [] = some (pfV day net s, 0) := by
  have := (fold_fix (E := fun _ => True) (fun (p : List Bool) (out : List Int) => out.length ≤ p.length) (fun i (out : List Int) (b : Bool) => if b = true then out ++ [(i : Int)] else out) (fun out => some (((day, (day, (net, (s.cal, (out, s.grp))))) : Prm), (0 : Int))) (fun k i out => impl_PermitFor.l18 NN k s.fl i v1 v2 v3 v4 v5 day day net s.cal s.grp w out) s.fl ?_ ?_ [] (fun _ _ => trivial) (by simp) (by simp [PF.fl]) NN (NN_lt (by simp [PF.fl]))).2
  · refine this.trans ?_
    obtain ⟨c, g, a, b, cc, d⟩ := s
    unfold pfV PF.ks PF.fl
    simp only [foldi]
    cases a <;> cases b <;> cases cc <;> cases d <;> rfl
  · intro k out _
    have n1 : ¬ (s.fl.length : Int) < 4 := by simp [PF.fl]
    simp only [impl_PermitFor.l18, impl_PermitFor.g18, n1, and_self, and_true, true_and, decide_true, decide_false, if_true, if_false, mid_get, mid_set, mid_getn, mid_setn, bt_mid, Option.bind_some, Bool.not_true, Bool.not_false, Bool.false_eq_true, Bool.true_eq_false, beq_self_eq_true, bne_self_eq_false, Int.toNat_natCast]
  · intro k p b r out hx _ hI c0 c1 c2 cw g
    have hl4 : s.fl.length = 4 := rfl
    have c3 : (p.length : Int) < 4 := by rw [hl4] at c1; exact c1
    refine ⟨by split <;> simp <;> omega, ?_⟩
    have hr := room8n (n := out.length + [(p.length : Int)].length) (by simp; omega)
    simp only [impl_PermitFor.l18, impl_PermitFor.g18, c0, c3, cw, and_self, and_true, true_and, decide_true, decide_false, if_true, if_false, mid_get, mid_set, mid_getn, mid_setn, bt_mid, Option.bind_some, Bool.not_true, Bool.not_false, Bool.false_eq_true, Bool.true_eq_false, beq_self_eq_true, bne_self_eq_false, Int.toNat_natCast, g, hr]
    cases b <;> simp
def pfR (xs : List Art) (cs : List Int) (day : Int) : Prm × Int := if askO true xs cs day = 0 then (if 1000000000 < netO xs cs then (Z6, 3) else (pfV day (netO xs cs) (pfL xs cs), 0)) else (Z6, askO true xs cs day)
theorem ask_iffP (b : Bool) (xs : List Art) (cs : List Int) (day : Int) (v : Prm × Int) : (if askO b xs cs day = 0 then v else (Z6, askO b xs cs day)) = if b = true then (if artsB xs = true then (if cntsB xs cs = true then (if inB day 0 100000 = true then v else (Z6, 2)) else (Z6, 2)) else (Z6, 1)) else (Z6, 1) := by
  unfold askO
  cases b
  · rfl
  cases artsB xs
  · rfl
  cases cntsB xs cs
  · rfl
  cases inB day 0 100000 <;> rfl
theorem pf_step (cs : List Int) (i : Nat) (s : PF) (x : Art) (hx : artB x = true) : (0 < cs.getD i 0 → (pfF cs i s x).fl = s.fl.set x.2.1.toNat true ∧ (pfF cs i s x).ks = insK x.2.1 s.ks ∧ (pfF cs i s x).cal = maxD x.2.2.1 s.cal ∧ (pfF cs i s x).grp = maxD x.2.2.2.2.2.2.2.2 s.grp) ∧ (¬ 0 < cs.getD i 0 → pfF cs i s x = s) := by
  have hb := artB_iff hx
  refine ⟨fun h => ?_, fun h => by unfold pfF; rw [if_neg h]⟩
  unfold pfF
  rw [if_pos h]
  exact pf_fl hb.2.1.1 hb.2.1.2 _ _
theorem PermitFor_both (xs : List Art) (cs : List Int) (day : Int) (hx : Lm OkArticle xs) (hc : Lm (Rg .i64) cs) : spec_PermitFor.f xs cs day = some (pfR xs cs day) ∧ impl_PermitFor.f xs cs day = some (pfR xs cs day) := by
  have hb : xs.length ≤ 140737488355328 := Nat.le_trans hx.1 (by omega)
  refine ⟨?_, ?_⟩
  · unfold spec_PermitFor.f spec_PermitFor.fn spec_PermitFor.top pfR
    rw [spec_l30Code_f [] xs cs day (by simp) (by simp) hb (arts_z hx) hc.1]
    have e1 : permsL [] = true := rfl
    rw [e1]
    simp only [Option.bind_some]
    by_cases h0 : askO true xs cs day = 0
    · obtain ⟨_, a1, a2, _⟩ := askO_zero h0
      obtain ⟨h1, h2⟩ := artsB_ok a1
      obtain ⟨h3, h4⟩ := cntsB_iff a2
      rw [if_pos h0, if_neg (by rw [h0]; decide)]
      have := (fold_fix (E := fun a : Art => artB a = true) (fun q (st : Int × PF) => 0 ≤ st.1 ∧ st.1 ≤ 100000000 * q.length) (fun i (st : Int × PF) a => (netS cs i st.1 a, pfF cs i st.2 a)) (fun st => some (if 1000000000 < st.1 then ((Z6 : Prm), (3 : Int)) else (pfV day st.1 st.2, 0))) (fun k i st => spec_PermitFor.l6 NN k xs cs i 0 0 0 0 0 day day st.1 st.2.cal st.2.grp [] st.2.ks) xs ?_ ?_ (0, pf0) h2 (by simp) (by omega) NN (NN_lt (by omega))).2
      · have hf : ∀ (ys : List Art) (i : Nat) (st : Int × PF), foldi (fun i (st : Int × PF) a => (netS cs i st.1 a, pfF cs i st.2 a)) i st ys = (foldi (netS cs) i st.1 ys, foldi (pfF cs) i st.2 ys) := by
          intro ys
          induction ys with
          | nil => intro i st; rfl
          | cons a r ih => intro i st; simp only [foldi, ih]
        rw [hf] at this
        exact this
      · intro k st _
        simp only [spec_PermitFor.l6, spec_PermitFor.g6, Int.lt_irrefl, and_self, and_true, true_and, decide_true, decide_false, if_true, if_false, mid_get, mid_set, mid_getn, mid_setn, bt_mid, Option.bind_some, Bool.not_true, Bool.not_false, Bool.false_eq_true, Bool.true_eq_false, beq_self_eq_true, bne_self_eq_false, Int.toNat_natCast]
        by_cases h : 1000000000 < st.1 <;> simp [h, pfV]
      · intro k q a r st hxx ha hI c0 c1 c2 cw g
        have hpl : q.length ≤ 12 := by rw [hxx] at h1; simp at h1; omega
        have c3 : (q.length : Int) < (cs.length : Int) := by omega
        have hbd := mul_bd (artB_iff ha).2.2.2.1 (h4 q.length)
        have hc4 := h4 q.length
        have w1 := w64 (n := a.2.2.2.2.2.2.2.1 * cs.getD q.length 0) (by omega) (by omega)
        have w2 := w64 (n := st.1 + a.2.2.2.2.2.2.2.1 * cs.getD q.length 0) (by omega) (by omega)
        refine ⟨by unfold netS; rw [List.length_append, List.length_singleton]; simp only; omega, ?_⟩
        obtain ⟨s1, s2⟩ := pf_step cs q.length st.2 a ha
        simp only [spec_PermitFor.l6, spec_PermitFor.g6, c0, c1, c3, cw, and_self, and_true, true_and, decide_true, decide_false, if_true, if_false, mid_get, mid_set, mid_getn, mid_setn, bt_mid, Option.bind_some, Bool.not_true, Bool.not_false, Bool.false_eq_true, Bool.true_eq_false, beq_self_eq_true, bne_self_eq_false, Int.toNat_natCast, g, w1, w2, decide_eq_true_eq]
        by_cases hp : 0 < cs.getD q.length 0
        · obtain ⟨t1, t2, t3, t4⟩ := s1 hp
          have hkl : st.2.ks.length ≤ 4 := flg_len _ _ _ _
          rw [if_pos hp, spec_l03Insert_f _ _ (by omega), t2, t3, t4]
          rfl
        · have hz : cs.getD q.length 0 = 0 := by omega
          rw [if_neg hp, s2 hp]
          unfold netS
          rw [hz, Int.mul_zero, Int.add_zero]
    · rw [if_neg h0, if_pos (by simpa using h0)]
  · unfold impl_PermitFor.f impl_PermitFor.fn impl_PermitFor.top pfR
    rw [impl_AreArticles_f xs hb (arts_z hx), impl_areCounts_f xs cs hc.1, impl_isDay_f, ask_iffP]
    cases a1 : artsB xs
    · rfl
    cases a2 : cntsB xs cs
    · rfl
    cases inB day 0 100000
    · rfl
    obtain ⟨h1, h2⟩ := artsB_ok a1
    obtain ⟨h3, h4⟩ := cntsB_iff a2
    simp only [Option.bind_some, Bool.not_true, Bool.false_eq_true, if_false, if_true, (impl_orderNet_f xs cs a1 a2).2, decide_eq_true_eq]
    by_cases hn : 1000000000 < netO xs cs
    · rw [if_pos hn, if_pos hn]
    rw [if_neg hn, if_neg hn]
    have := (fold_fix (E := fun a : Art => artB a = true) (fun _ _ => True) (pfF cs) (fun s => some (pfV day (netO xs cs) s, (0 : Int))) (fun k i s => impl_PermitFor.l10 NN k cs xs xs.length i 0 0 0 0 0 day day (netO xs cs) s.cal s.grp s.fl [] []) xs ?_ ?_ pf0 h2 trivial (by omega) NN (NN_lt (by omega))).2
    · exact this
    · intro k s _
      simp only [impl_PermitFor.l10, impl_PermitFor.g10, Int.lt_irrefl, and_self, and_true, true_and, decide_true, decide_false, if_true, if_false, mid_get, mid_set, mid_getn, mid_setn, bt_mid, Option.bind_some, Bool.not_true, Bool.not_false, Bool.false_eq_true, Bool.true_eq_false, beq_self_eq_true, bne_self_eq_false, Int.toNat_natCast]
      exact impl_pf_ks s _ _ _ _ _ _ _ _
    · intro k q a r s hxx ha _ c0 c1 c2 cw g
      refine ⟨trivial, ?_⟩
      have c3 : (q.length : Int) < (cs.length : Int) := by omega
      have hab := artB_iff ha
      have k1 : (0 : Int) ≤ a.2.1 := hab.2.1.1
      have k2 : a.2.1 < 4 := by have := hab.2.1.2; omega
      obtain ⟨s1, s2⟩ := pf_step cs q.length s a ha
      simp only [impl_PermitFor.l10, impl_PermitFor.g10, c0, c1, c3, cw, and_self, and_true, true_and, decide_true, decide_false, if_true, if_false, mid_get, mid_set, mid_getn, mid_setn, bt_mid, Option.bind_some, Bool.not_true, Bool.not_false, Bool.false_eq_true, Bool.true_eq_false, beq_self_eq_true, bne_self_eq_false, Int.toNat_natCast, g, k1, k2, decide_eq_true_eq]
      by_cases hp : 0 < cs.getD q.length 0
      · obtain ⟨t1, t2, t3, t4⟩ := s1 hp
        rw [if_pos hp, t1, t3, t4]
        rfl
      · rw [if_neg hp, s2 hp]
theorem pfR_ok (xs : List Art) (cs : List Int) (day : Int) (hd : Rg .i64 day) : OkPermit (pfR xs cs day).1 := by
  have hz : OkPermit Z6 := ⟨wf64.2 (by simp), wf64.2 (by simp), wf64.2 (by simp), wf64.2 (by simp), ⟨by simp, by simp⟩, wf64.2 (by simp)⟩
  unfold pfR
  split
  · rename_i h0
    obtain ⟨_, a1, a2, a3⟩ := askO_zero h0
    have hdd := inB_iff.1 a3
    obtain ⟨h1, h2⟩ := artsB_ok a1
    split
    · exact hz
    · have hno := (impl_orderNet_f xs cs a1 a2).1
      have hb : ∀ (ys : List Art) (i : Nat) (s : PF), (∀ a ∈ ys, artB a = true) → (0 ≤ s.cal ∧ s.cal ≤ 1000 ∧ 0 ≤ s.grp ∧ s.grp ≤ 10) → (0 ≤ (foldi (pfF cs) i s ys).cal ∧ (foldi (pfF cs) i s ys).cal ≤ 1000 ∧ 0 ≤ (foldi (pfF cs) i s ys).grp ∧ (foldi (pfF cs) i s ys).grp ≤ 10) := by
        intro ys
        induction ys with
        | nil => intro i s _ h; exact h
        | cons a r ih =>
          intro i s ha h
          refine ih _ _ (fun y hy => ha y (by simp [hy])) ?_
          have hab := artB_iff (ha a (by simp))
          obtain ⟨s1, s2⟩ := pf_step cs i s a (ha a (by simp))
          by_cases hp : 0 < cs.getD i 0
          · obtain ⟨_, _, t3, t4⟩ := s1 hp
            rw [t3, t4]
            unfold maxD
            obtain ⟨_, _, b3, _, b5⟩ := hab
            split <;> split <;> omega
          · rw [s2 hp]; exact h
      have := hb xs 0 pf0 h2 (by simp [pf0])
      have hks : ∀ k ∈ (pfL xs cs).ks, Rg .i64 k := fun k hk => by
        unfold PF.ks flg at hk
        refine wf64.2 ?_
        simp only [List.mem_append] at hk
        rcases hk with h | h | h | h <;> (split at h <;> simp at h <;> omega)
      refine ⟨hd, hd, wf64.2 (by simp only [pfV]; omega), wf64.2 ?_, ⟨?_, hks⟩, wf64.2 ?_⟩
      · show -9223372036854775808 ≤ (pfL xs cs).cal ∧ (pfL xs cs).cal ≤ 9223372036854775807
        unfold pfL; omega
      · have : (pfL xs cs).ks.length ≤ 4 := flg_len _ _ _ _
        show (pfL xs cs).ks.length ≤ 1000000
        omega
      · show -9223372036854775808 ≤ (pfL xs cs).grp ∧ (pfL xs cs).grp ≤ 9223372036854775807
        unfold pfL; omega
  · exact hz
theorem PermitFor_core (xs : List Art) (cs : List Int) (day : Int) (hx : Lm OkArticle xs) (hc : Lm (Rg .i64) cs) (hd : Rg .i64 day) : ∃ w, spec_PermitFor.f xs cs day = some w ∧ impl_PermitFor.f xs cs day = some w ∧ OkPermit w.1 :=
  ⟨_, (PermitFor_both xs cs day hx hc).1, (PermitFor_both xs cs day hx hc).2, pfR_ok xs cs day hd⟩
end Go.Pl

namespace Go.Pl
open Go.Ev
set_option linter.unusedVariables false
set_option linter.unusedSimpArgs false
theorem room64 : room 64 = 2199023255552 := by decide
/-- a permit as drawn -/
def PrmM (M : Int) (p : Prm) : Prop := (-10 ≤ p.1 ∧ p.1 ≤ M) ∧ (-100 ≤ p.2.1 ∧ p.2.1 ≤ M) ∧ (-10 ≤ p.2.2.1 ∧ p.2.2.1 ≤ 1000000001) ∧ (-10 ≤ p.2.2.2.1 ∧ p.2.2.2.1 ≤ M) ∧ (p.2.2.2.2.1.length ≤ 5 ∧ ∀ k ∈ p.2.2.2.2.1, -10 ≤ k ∧ k ≤ 10) ∧ (-10 ≤ p.2.2.2.2.2 ∧ p.2.2.2.2.2 ≤ M)
theorem prmM_ok {p : Prm} (h : PrmM 1000000 p) : OkPermit p := by
  obtain ⟨h1, h2, h3, h4, h5, h6⟩ := h
  exact ⟨wf64.2 (by omega), wf64.2 (by omega), wf64.2 (by omega), wf64.2 (by omega), ⟨by omega, fun k hk => wf64.2 (by have := h5.2 k hk; omega)⟩, wf64.2 (by omega)⟩
theorem kin_snoc {o : List Int} {c : Int} (h : ∀ x ∈ o, -10 ≤ x ∧ x ≤ 10) (hc : -10 ≤ c ∧ c ≤ 10) : ∀ x ∈ o ++ [c], -10 ≤ x ∧ x ≤ 10 := fun x hx => by
  rcases List.mem_append.1 hx with h1 | h1
  · exact h x h1
  · rw [List.mem_singleton.1 h1]; exact hc
theorem good30_l4 (v1 v2 v3 v4 v5 p1 p2 p3 p4 p5 : Int) (w : List Int) : ∀ (d i k : Nat) (s : List Int × Int × Int) (out : List Int), i + d = 4 → out.length ≤ i → d < k → SrcOk s → (∀ x ∈ out, -10 ≤ x ∧ x ≤ 10) →
    ∃ o s', spec_l30Good.l4 NN k i s v1 v2 v3 v4 v5 p1 p2 p3 p4 p5 w out = some ((p1, (p2, (p3, (p4, (o, p5))))), s') ∧ SrcOk s' ∧ o.length ≤ 4 ∧ ∀ x ∈ o, -10 ≤ x ∧ x ≤ 10 := by
  intro d
  induction d with
  | zero =>
    intro i k s out hd hl hk hs ho
    obtain ⟨k, rfl⟩ : ∃ j, k = j + 1 := ⟨k - 1, by omega⟩
    have n1 : ¬ (i : Int) < 4 := by omega
    simp only [spec_l30Good.l4, spec_l30Good.g4, n1, decide_false, Bool.false_eq_true, if_false]
    exact ⟨_, _, rfl, hs, by omega, ho⟩
  | succ d ih =>
    intro i k s out hd hl hk hs ho
    obtain ⟨k, rfl⟩ : ∃ j, k = j + 1 := ⟨k - 1, by omega⟩
    obtain ⟨a, s1, e1, o1, a0, a1⟩ := next_ok hs 5 (by omega)
    have n1 : (i : Int) < 4 := by omega
    have w1 := w64 (n := (i : Int) + 1) (by omega) (by omega)
    simp only [spec_l30Good.l4, spec_l30Good.g4, e1, Option.bind_some, n1, decide_true, if_true, w1]
    split
    · rw [if_pos (by rw [room8]; simp; omega)]
      have := ih (i + 1) k s1 (out ++ [(i : Int)]) (by omega) (by simp; omega) (by omega) o1 (kin_snoc ho (by omega))
      rw [show ((i + 1 : Nat) : Int) = (i : Int) + 1 by omega] at this
      exact this
    · have := ih (i + 1) k s1 out (by omega) (by omega) (by omega) o1 ho
      rw [show ((i + 1 : Nat) : Int) = (i : Int) + 1 by omega] at this
      exact this
theorem good30_ok {s : List Int × Int × Int} (hs : SrcOk s) : ∃ p s', spec_l30Good.f s = some (p, s') ∧ SrcOk s' ∧ PrmM 100000 p ∧ p.2.2.2.2.1.length ≤ 4 := by
  unfold spec_l30Good.f spec_l30Good.fn spec_l30Good.top
  obtain ⟨a, s1, e1, o1, a0, a1⟩ := next_ok hs 30 (by omega)
  obtain ⟨b, s2, e2, o2, b0, b1⟩ := next_ok o1 40000 (by omega)
  obtain ⟨c, s3, e3, o3, c0⟩ := pick_ok o2 [75, 150, 300] (by simp) (by simp)
  have c1 : -10 ≤ c ∧ c ≤ 100000 := by simp at c0; omega
  obtain ⟨d, s4, e4, o4, d0, d1⟩ := next_ok o3 4 (by omega)
  obtain ⟨e, s5, e5, o5, f0⟩ := pick_ok o4 [3, 3, d] (by simp) (by simp)
  have f1 : -10 ≤ e ∧ e ≤ 100000 := by simp at f0; omega
  obtain ⟨f, s6, e6, o6, g0, g1⟩ := next_ok o5 20 (by omega)
  have w1 := w64 (n := 100 + a) (by omega) (by omega)
  have w2 := w64 (n := 100 + a + f) (by omega) (by omega)
  have w3 := w64 (n := 5000 + b) (by omega) (by omega)
  simp only [e1, e2, e3, e4, e5, e6, w1, w2, w3, Option.bind_some]
  obtain ⟨o, s7, e7, o7, l1, l2⟩ := good30_l4 0 0 0 0 0 (100 + a) (100 + a + f) (5000 + b) c e [] 4 0 NN s6 [] (by omega) (by simp) (NN_lt (by omega)) o6 (by simp)
  exact ⟨_, _, e7, o7, ⟨by simp only; omega, by simp only; omega, by simp only; omega, c1, ⟨by simp only; omega, l2⟩, f1⟩, l1⟩
theorem prmM_S {p : Prm} (h : PrmM 100000 p) : PrmM 1000000 p := by
  obtain ⟨h1, h2, h3, h4, h5, h6⟩ := h
  exact ⟨by omega, by omega, h3, by omega, h5, by omega⟩
theorem draw30_ok {s : List Int × Int × Int} (hs : SrcOk s) : ∃ p s', spec_l30Draw.f s = some (p, s') ∧ SrcOk s' ∧ PrmM 1000000 p := by
  unfold spec_l30Draw.f spec_l30Draw.fn spec_l30Draw.top
  obtain ⟨g, s1, e1, o1, gm, gl⟩ := good30_ok hs
  obtain ⟨p0, p1, p2, p3, p4, p5⟩ := prmM_S gm
  obtain ⟨b, s2, e2, o2, b0, b1⟩ := next_ok o1 40 (by omega)
  have w1 := w64 (n := g.1 - 1) (by omega) (by omega)
  have pm := gm.1
  obtain ⟨c3, t3, e3, o3, m3⟩ := pick_ok o2 [g.1 - 1, 100000, 100001] (by simp) (by simp)
  obtain ⟨c4, t4, e4, o4, q4, r4⟩ := next_ok o2 6 (by omega)
  obtain ⟨c5, t5, e5, o5, m5⟩ := pick_ok o2 [(-1), 0, 1000000000, 1000000001] (by simp) (by simp)
  have n3 : -11 ≤ c3 ∧ c3 ≤ 1000000 := by simp at m3; omega
  have n5 : -10 ≤ c5 ∧ c5 ≤ 1000000001 := by simp at m5; omega
  simp only [e1, e2, e3, w1, e4, e5, Option.bind_some]
  split
  · exact ⟨_, _, rfl, o3, p0, ⟨by simp only; omega, n3.2⟩, p2, p3, p4, p5⟩
  split
  · rw [if_pos (by rw [room8]; simp; omega)]
    exact ⟨_, _, rfl, o4, p0, p1, p2, p3, ⟨by simp; omega, kin_snoc p4.2 (by omega)⟩, p5⟩
  split
  · exact ⟨_, _, rfl, o5, p0, p1, n5, p3, p4, p5⟩
  · exact ⟨_, _, rfl, o2, p0, p1, p2, p3, p4, p5⟩
theorem prm_snoc {out : List Prm} {a : Prm} (h : ∀ x ∈ out, PrmM 1000000 x) (ha : PrmM 1000000 a) : ∀ x ∈ out ++ [a], PrmM 1000000 x := fun x hx => by
  rcases List.mem_append.1 hx with h1 | h1
  · exact h x h1
  · rw [List.mem_singleton.1 h1]; exact ha
theorem list30_l8 (p : Prm) (hp : PrmM 1000000 p) : ∀ (d k : Nat) (s : List Int × Int × Int) (out : List Prm), out.length + d = 10 → d < k → SrcOk s → (∀ x ∈ out, PrmM 1000000 x) →
    ∃ o s', spec_l30List.l8 NN k s out p.1 p.2.1 p.2.2.1 p.2.2.2.1 p.2.2.2.2.1 p.2.2.2.2.2 = some (o, s') ∧ SrcOk s' ∧ o.length ≤ 10 ∧ ∀ x ∈ o, PrmM 1000000 x := by
  intro d
  induction d with
  | zero =>
    intro k s out hd hk hs hl
    obtain ⟨k, rfl⟩ : ∃ j, k = j + 1 := ⟨k - 1, by omega⟩
    obtain ⟨a, s1, e1, o1, a0, a1⟩ := next_ok hs 2 (by omega)
    have w := w64 (n := 8 + a) (by omega) (by omega)
    have n1 : ¬ (out.length : Int) < 8 + a := by omega
    simp only [spec_l30List.l8, spec_l30List.g8, e1, Option.bind_some, w, n1, decide_false, Bool.false_eq_true, if_false]
    exact ⟨_, _, rfl, o1, by omega, hl⟩
  | succ d ih =>
    intro k s out hd hk hs hl
    obtain ⟨k, rfl⟩ : ∃ j, k = j + 1 := ⟨k - 1, by omega⟩
    obtain ⟨a, s1, e1, o1, a0, a1⟩ := next_ok hs 2 (by omega)
    have w := w64 (n := 8 + a) (by omega) (by omega)
    by_cases n1 : (out.length : Int) < 8 + a
    · simp only [spec_l30List.l8, spec_l30List.g8, e1, Option.bind_some, w, n1, decide_true, if_true]
      rw [if_pos (by rw [room64]; simp; omega)]
      exact ih k s1 _ (by simp; omega) (by omega) o1 (prm_snoc hl hp)
    · simp only [spec_l30List.l8, spec_l30List.g8, e1, Option.bind_some, w, n1, decide_false, Bool.false_eq_true, if_false]
      exact ⟨_, _, rfl, o1, by omega, hl⟩
theorem list30_l3 : ∀ (d k : Nat) (s : List Int × Int × Int) (out : List Prm), out.length + d ≤ 10 → d < k → SrcOk s → (∀ x ∈ out, PrmM 1000000 x) →
    ∃ o s', spec_l30List.l3 NN k d s out = some (o, s') ∧ SrcOk s' ∧ o.length ≤ 10 ∧ ∀ x ∈ o, PrmM 1000000 x := by
  intro d
  induction d with
  | zero =>
    intro k s out hd hk hs hl
    obtain ⟨k, rfl⟩ : ∃ j, k = j + 1 := ⟨k - 1, by omega⟩
    obtain ⟨a, s1, e1, o1, a0, a1⟩ := next_ok hs 30 (by omega)
    obtain ⟨g, s2, e2, o2, gm, gl⟩ := good30_ok o1
    have n1 : ¬ (0 : Int) < ((0 : Nat) : Int) := by omega
    simp only [spec_l30List.l3, spec_l30List.g3, e1, e2, Option.bind_some, n1, decide_false, Bool.false_eq_true, if_false]
    by_cases h0 : a = 0
    · rw [if_pos (by rw [h0]; rfl)]
      exact list30_l8 g (prmM_S gm) (10 - out.length) NN s2 out (by omega) (NN_lt (by omega)) o2 hl
    · rw [if_neg (by simpa using h0)]
      exact ⟨_, _, rfl, o1, by omega, hl⟩
  | succ d ih =>
    intro k s out hd hk hs hl
    obtain ⟨k, rfl⟩ : ∃ j, k = j + 1 := ⟨k - 1, by omega⟩
    obtain ⟨e, s1, e1, o1, d1⟩ := draw30_ok hs
    have n1 : (0 : Int) < ((d + 1 : Nat) : Int) := by omega
    have w : IntKind.i64.wrap (((d + 1 : Nat) : Int) - 1) = (d : Int) := by rw [w64 (by omega) (by omega)]; omega
    simp only [spec_l30List.l3, spec_l30List.g3, e1, Option.bind_some, n1, decide_true, if_true, w]
    rw [if_pos (by rw [room64]; simp; omega)]
    exact ih k s1 _ (by simp; omega) (by omega) o1 (prm_snoc hl d1)
theorem list30_ok {s : List Int × Int × Int} (hs : SrcOk s) : ∃ o s', spec_l30List.f s = some (o, s') ∧ SrcOk s' ∧ o.length ≤ 10 ∧ ∀ x ∈ o, PrmM 1000000 x := by
  unfold spec_l30List.f spec_l30List.fn spec_l30List.top
  obtain ⟨n, s1, e1, o1, n0, n1⟩ := next_ok hs 6 (by omega)
  obtain ⟨N, hN⟩ := Int.eq_ofNat_of_zero_le n0
  subst hN
  simp only [e1, Option.bind_some]
  exact list30_l3 N NN s1 [] (by simp; omega) (NN_lt (by omega)) o1 (by simp)
/-- what an order's draw is -/
def OrdS (xs : List Art) (cs : List Int) (day : Int) : Prop := (xs.length ≤ 20 ∧ ∀ x ∈ xs, ArtS x) ∧ (cs.length ≤ 1001 ∧ CntS cs) ∧ Rg .i64 day
theorem drawRef_ok {code : List Int} (h : CodeOk code) : ∃ p xs cs day, spec_DrawRefusalsOf.f code = some (p, xs, cs, day) ∧ PrmM 1000000 p ∧ OrdS xs cs day := by
  unfold spec_DrawRefusalsOf.f spec_DrawRefusalsOf.fn spec_DrawRefusalsOf.top
  obtain ⟨s, e, o⟩ := from_ok h
  obtain ⟨p, s1, e1, o1, p1⟩ := draw30_ok o
  obtain ⟨xs, s2, e2, o2, x1, x2⟩ := list03_ok o1
  obtain ⟨cs, s3, e3, o3, c1, c2⟩ := counts03_ok o2 xs.length (by omega)
  obtain ⟨a, s4, e4, o4, a0, a1⟩ := next_ok o3 50 (by omega)
  have q1 := p1.1
  have q2 := p1.2.1
  have w1 := w64 (n := 100 + a) (by omega) (by omega)
  have w2 := w64 (n := p.2.1 + 1) (by omega) (by omega)
  obtain ⟨b, s5, e5, o5, m⟩ := pick_ok o4 [100 + a, p.1, p.2.1, p.2.1 + 1, 100000, 100001] (by simp) (by simp)
  have n : -100 ≤ b ∧ b ≤ 1000001 := by simp at m; omega
  simp only [e, e1, e2, e3, e4, w1, w2, e5, Option.bind_some]
  exact ⟨p, xs, cs, b, rfl, p1, ⟨x1, x2⟩, ⟨c1, c2⟩, wf64.2 (by omega)⟩
theorem firstP_l6 (day : Int) (ps : List Prm) (xs : List Art) : ∀ (d i k : Nat) (cs : List Int), i + d = cs.length → cs.length ≤ 1001 → d < k → CntS cs →
    ∃ cs', spec_DrawFirstPermit.l6 NN k day i ps xs cs = some (ps, xs, cs', day) ∧ cs'.length ≤ 1001 ∧ CntS cs' := by
  intro d
  induction d with
  | zero =>
    intro i k cs hd hl hk hc
    obtain ⟨k, rfl⟩ : ∃ j, k = j + 1 := ⟨k - 1, by omega⟩
    have n1 : ¬ (i : Int) < (cs.length : Int) := by omega
    simp only [spec_DrawFirstPermit.l6, spec_DrawFirstPermit.g6, n1, decide_false, Bool.false_eq_true, if_false]
    exact ⟨cs, rfl, hl, hc⟩
  | succ d ih =>
    intro i k cs hd hl hk hc
    obtain ⟨k, rfl⟩ : ∃ j, k = j + 1 := ⟨k - 1, by omega⟩
    have n1 : (i : Int) < (cs.length : Int) := by omega
    have n0 : (0 : Int) ≤ (i : Int) := by omega
    have w1 := w64 (n := (i : Int) + 1) (by omega) (by omega)
    have hm : cs.getD i 0 ∈ cs := by
      rw [List.getD_eq_getElem?_getD, List.getElem?_eq_getElem (by omega)]; exact List.getElem_mem _
    have hb := hc _ hm
    simp only [spec_DrawFirstPermit.l6, spec_DrawFirstPermit.g6, n1, n0, and_self, decide_true, if_true, w1, Int.toNat_natCast]
    have := ih (i + 1) k (cs.set i (if 1 < cs.getD i 0 then 1 else cs.getD i 0)) (by simp; omega) (by simp; omega) (by omega) (cntS_set hc (by split <;> omega))
    rw [show ((i + 1 : Nat) : Int) = (i : Int) + 1 by omega] at this
    exact this
theorem drawFirst_ok {code : List Int} (h : CodeOk code) : ∃ ps xs cs day, spec_DrawFirstPermit.f code = some (ps, xs, cs, day) ∧ (ps.length ≤ 10 ∧ ∀ p ∈ ps, PrmM 1000000 p) ∧ OrdS xs cs day := by
  unfold spec_DrawFirstPermit.f spec_DrawFirstPermit.fn spec_DrawFirstPermit.top
  obtain ⟨s, e, o⟩ := from_ok h
  obtain ⟨ps, s1, e1, o1, p1, p2⟩ := list30_ok o
  obtain ⟨p, xs, cs, day, e2, _, ⟨x1, x2⟩, ⟨c1, c2⟩, hd⟩ := drawRef_ok h
  obtain ⟨a, s4, e4, o4, a0, a1⟩ := next_ok o1 2 (by omega)
  obtain ⟨cs', e5, c3, c4⟩ := firstP_l6 day ps xs cs.length 0 NN cs (by omega) c1 (NN_lt (by omega)) c2
  simp only [e, e1, e2, e4, Option.bind_some]
  split
  · exact ⟨_, _, _, _, e5, ⟨p1, p2⟩, ⟨x1, x2⟩, ⟨c3, c4⟩, hd⟩
  · exact ⟨_, _, _, _, rfl, ⟨p1, p2⟩, ⟨x1, x2⟩, ⟨c1, c2⟩, hd⟩
theorem drawNext_ok {code : List Int} (h : CodeOk code) : ∃ ps xs cs day, spec_DrawNextDay.f code = some (ps, xs, cs, day) ∧ (ps.length ≤ 10 ∧ ∀ p ∈ ps, PrmM 1000000 p) ∧ OrdS xs cs day := by
  unfold spec_DrawNextDay.f spec_DrawNextDay.fn spec_DrawNextDay.top
  obtain ⟨ps, xs, cs, day, e, h1, h2⟩ := drawFirst_ok h
  simp only [e, Option.bind_some]
  exact ⟨ps, xs, cs, day, rfl, h1, h2⟩
theorem art_set {xs : List Art} {i : Nat} {v : Art} (h : ∀ x ∈ xs, ArtS x) (hv : ArtS v) : ∀ x ∈ xs.set i v, ArtS x := fun x hx => by
  rw [List.mem_iff_getElem?] at hx
  obtain ⟨j, hj⟩ := hx
  by_cases e : i = j
  · subst e
    rw [List.getElem?_set] at hj
    simp only [if_true] at hj
    split at hj
    · rw [← Option.some.inj hj]; exact hv
    · cases hj
  · rw [List.getElem?_set_ne e] at hj
    exact h x (List.mem_iff_getElem?.2 ⟨j, hj⟩)
theorem permF_l9 (day : Int) (xs : List Art) : ∀ (d i k : Nat) (cs : List Int), i + d = cs.length → cs.length ≤ 1001 → d < k → CntS cs →
    ∃ cs', spec_DrawPermitFor.l9 NN k day i xs cs = some (xs, cs', day) ∧ cs'.length ≤ 1001 ∧ CntS cs' := by
  intro d
  induction d with
  | zero =>
    intro i k cs hd hl hk hc
    obtain ⟨k, rfl⟩ : ∃ j, k = j + 1 := ⟨k - 1, by omega⟩
    have n1 : ¬ (i : Int) < (cs.length : Int) := by omega
    simp only [spec_DrawPermitFor.l9, spec_DrawPermitFor.g9, n1, decide_false, Bool.false_eq_true, if_false]
    exact ⟨cs, rfl, hl, hc⟩
  | succ d ih =>
    intro i k cs hd hl hk hc
    obtain ⟨k, rfl⟩ : ∃ j, k = j + 1 := ⟨k - 1, by omega⟩
    have n1 : (i : Int) < (cs.length : Int) := by omega
    have n0 : (0 : Int) ≤ (i : Int) := by omega
    have w1 := w64 (n := (i : Int) + 1) (by omega) (by omega)
    simp only [spec_DrawPermitFor.l9, spec_DrawPermitFor.g9, n1, n0, and_self, decide_true, if_true, w1, Int.toNat_natCast]
    have := ih (i + 1) k (cs.set i 1000) (by simp; omega) (by simp; omega) (by omega) (cntS_set hc (by omega))
    rw [show ((i + 1 : Nat) : Int) = (i : Int) + 1 by omega] at this
    exact this
theorem permF_l5 (day : Int) (cs : List Int) (hl : cs.length ≤ 1001) (hc : CntS cs) : ∀ (d i k : Nat) (xs : List Art), i + d = xs.length → xs.length ≤ 20 → d < k → (∀ x ∈ xs, ArtS x) →
    ∃ xs' cs', spec_DrawPermitFor.l5 NN k day i xs cs = some (xs', cs', day) ∧ (xs'.length ≤ 20 ∧ ∀ x ∈ xs', ArtS x) ∧ (cs'.length ≤ 1001 ∧ CntS cs') := by
  intro d
  induction d with
  | zero =>
    intro i k xs hd hx hk ha
    obtain ⟨k, rfl⟩ : ∃ j, k = j + 1 := ⟨k - 1, by omega⟩
    have n1 : ¬ (i : Int) < (xs.length : Int) := by omega
    obtain ⟨cs', e, c1, c2⟩ := permF_l9 day xs cs.length 0 NN cs (by omega) hl (NN_lt (by omega)) hc
    simp only [spec_DrawPermitFor.l5, spec_DrawPermitFor.g5, n1, decide_false, Bool.false_eq_true, if_false]
    exact ⟨xs, cs', e, ⟨hx, ha⟩, c1, c2⟩
  | succ d ih =>
    intro i k xs hd hx hk ha
    obtain ⟨k, rfl⟩ : ∃ j, k = j + 1 := ⟨k - 1, by omega⟩
    have n1 : (i : Int) < (xs.length : Int) := by omega
    have n0 : (0 : Int) ≤ (i : Int) := by omega
    have w1 := w64 (n := (i : Int) + 1) (by omega) (by omega)
    have hm : xs.getD i (ByteArray.empty, (0, (0, (0, (0, (0, (0, (0, 0)))))))) ∈ xs := by
      rw [List.getD_eq_getElem?_getD, List.getElem?_eq_getElem (by omega)]; exact List.getElem_mem _
    obtain ⟨p0, p1, p2, p3, p4, p5, p6, p7, p8⟩ := ha _ hm
    simp only [spec_DrawPermitFor.l5, spec_DrawPermitFor.g5, n1, n0, and_self, decide_true, if_true, w1, Int.toNat_natCast, Option.bind_some]
    have := ih (i + 1) k _ (by rw [List.length_set]; omega) (by rw [List.length_set]; omega) (by omega) (art_set (i := i) (v := ((xs.getD i (ByteArray.empty, (0, (0, (0, (0, (0, (0, (0, 0))))))))).1, ((xs.getD i (ByteArray.empty, (0, (0, (0, (0, (0, (0, (0, 0))))))))).2.1, ((xs.getD i (ByteArray.empty, (0, (0, (0, (0, (0, (0, (0, 0))))))))).2.2.1, ((xs.getD i (ByteArray.empty, (0, (0, (0, (0, (0, (0, (0, 0))))))))).2.2.2.1, ((xs.getD i (ByteArray.empty, (0, (0, (0, (0, (0, (0, (0, 0))))))))).2.2.2.2.1, ((xs.getD i (ByteArray.empty, (0, (0, (0, (0, (0, (0, (0, 0))))))))).2.2.2.2.2.1, ((xs.getD i (ByteArray.empty, (0, (0, (0, (0, (0, (0, (0, 0))))))))).2.2.2.2.2.2.1, (100000, (xs.getD i (ByteArray.empty, (0, (0, (0, (0, (0, (0, (0, 0))))))))).2.2.2.2.2.2.2.2))))))))) ha ⟨p0, p1, p2, p3, p4, p5, p6, by simp only; omega, p8⟩)
    rw [show ((i + 1 : Nat) : Int) = (i : Int) + 1 by omega] at this
    exact this
theorem drawPermF_ok {code : List Int} (h : CodeOk code) : ∃ xs cs day, spec_DrawPermitFor.f code = some (xs, cs, day) ∧ OrdS xs cs day := by
  unfold spec_DrawPermitFor.f spec_DrawPermitFor.fn spec_DrawPermitFor.top
  obtain ⟨s, e, o⟩ := from_ok h
  obtain ⟨p, xs, cs, day, e2, _, ⟨x1, x2⟩, ⟨c1, c2⟩, hd⟩ := drawRef_ok h
  obtain ⟨a, s4, e4, o4, a0, a1⟩ := next_ok o 24 (by omega)
  obtain ⟨xs', cs', e5, x3, c3⟩ := permF_l5 day cs c1 c2 xs.length 0 NN xs (by omega) x1 (NN_lt (by omega)) x2
  simp only [e, e2, e4, Option.bind_some]
  split
  · exact ⟨_, _, _, e5, x3, c3, hd⟩
  · exact ⟨_, _, _, rfl, ⟨x1, x2⟩, ⟨c1, c2⟩, hd⟩
end Go.Pl

namespace Go.Pl
open Go.Ev
set_option linter.unusedVariables false
set_option linter.unusedSimpArgs false
theorem fstOf_spec {α : Type} (P : α → Bool) : ∀ (xs : List α) (i j : Nat) (x : α), firstOf P i xs = some (j, x) → i ≤ j ∧ j < i + xs.length ∧ xs[j - i]? = some x ∧ P x = true := by
  intro xs
  induction xs with
  | nil => intro i j x h; cases h
  | cons a r ih =>
    intro i j x h
    simp only [firstOf] at h
    by_cases ha : P a = true
    · rw [if_pos ha] at h
      obtain ⟨rfl, rfl⟩ := Prod.mk.inj (Option.some.inj h)
      exact ⟨by omega, by simp, by simp, ha⟩
    · rw [if_neg ha] at h
      obtain ⟨h1, h2, h3, h4⟩ := ih (i + 1) j x h
      refine ⟨by omega, by simp only [List.length_cons]; omega, ?_, h4⟩
      rw [show j - i = (j - (i + 1)) + 1 by omega]
      exact h3
theorem bits_zero (a b c d e : Bool) : bitsV [a, b, c, d, e] = 0 ↔ (a = false ∧ b = false ∧ c = false ∧ d = false ∧ e = false) := by
  cases a <;> cases b <;> cases c <;> cases d <;> cases e <;> decide
def okP (p : Prm) (xs : List Art) (cs : List Int) : Prop := ¬ p.2.2.1 < netO xs cs ∧ foldi (refF p cs) 0 (false, false, false) xs = (false, false, false)
theorem refV_zero (p : Prm) (xs : List Art) (cs : List Int) (day : Int) : refV p xs cs day = 0 ↔ (p.1 ≤ day ∧ day ≤ p.2.1) ∧ okP p xs cs := by
  unfold refV okP
  rw [bits_zero, Bool.not_eq_false', inB_iff, decide_eq_false_iff_not]
  constructor
  · rintro ⟨h1, h2, h3, h4, h5⟩
    exact ⟨h1, h2, Prod.ext h3 (Prod.ext h4 h5)⟩
  · rintro ⟨h1, h2, h3⟩
    rw [h3]
    exact ⟨h1, h2, rfl, rfl, rfl⟩
theorem maxD_le (a day : Int) : day ≤ maxD a day ∧ a ≤ maxD a day ∧ (a ≤ day → maxD a day = day) ∧ (maxD a day = a ∨ maxD a day = day) := by
  unfold maxD
  split <;> omega
theorem nxt_min (xs : List Art) (cs : List Int) (day : Int) (h0 : 0 ≤ day) : ∀ (ps : List Prm) (best : Int), (best < 0 ∨ day ≤ best) →
    (ps.foldl (nxtF xs cs day) best < 0 ∨ day ≤ ps.foldl (nxtF xs cs day) best) ∧ (0 ≤ best → 0 ≤ ps.foldl (nxtF xs cs day) best ∧ ps.foldl (nxtF xs cs day) best ≤ best) ∧
    (∀ p ∈ ps, refV p xs cs (maxD p.1 day) = 0 → 0 ≤ ps.foldl (nxtF xs cs day) best ∧ ps.foldl (nxtF xs cs day) best ≤ maxD p.1 day) ∧
    (ps.foldl (nxtF xs cs day) best = best ∨ ∃ p ∈ ps, refV p xs cs (maxD p.1 day) = 0 ∧ ps.foldl (nxtF xs cs day) best = maxD p.1 day) := by
  intro ps
  induction ps with
  | nil => intro best hb; exact ⟨hb, fun h => ⟨h, Int.le_refl _⟩, fun p hp => (by cases hp), .inl rfl⟩
  | cons p r ih =>
    intro best hb
    rw [List.foldl_cons]
    have hm := (maxD_le p.1 day).1
    by_cases hq : refV p xs cs (maxD p.1 day) = 0
    · have e1 : nxtF xs cs day best p = (if best < 0 then maxD p.1 day else if maxD p.1 day < best then maxD p.1 day else best) := by unfold nxtF; rw [if_pos hq]
      have k : (0 ≤ nxtF xs cs day best p ∧ day ≤ nxtF xs cs day best p ∧ nxtF xs cs day best p ≤ maxD p.1 day) ∧ (0 ≤ best → nxtF xs cs day best p ≤ best) ∧ (nxtF xs cs day best p = best ∨ nxtF xs cs day best p = maxD p.1 day) := by
        rw [e1]
        split
        · omega
        · split <;> omega
      generalize nxtF xs cs day best p = b1 at k
      obtain ⟨i1, i2, i3, i4⟩ := ih b1 (.inr k.1.2.1)
      have i5 := i2 k.1.1
      refine ⟨i1, fun h => ⟨i5.1, by have := k.2.1 h; omega⟩, fun q hqm hq0 => ?_, ?_⟩
      · rcases List.mem_cons.1 hqm with rfl | hqm
        · exact ⟨i5.1, by omega⟩
        · exact i3 q hqm hq0
      · rcases i4 with i4 | ⟨q, q1, q2, q3⟩
        · rcases k.2.2 with k2 | k2
          · left; omega
          · right; exact ⟨p, by simp, hq, by omega⟩
        · right; exact ⟨q, by simp [q1], q2, q3⟩
    · have e1 : nxtF xs cs day best p = best := by unfold nxtF; rw [if_neg hq]
      rw [e1]
      obtain ⟨i1, i2, i3, i4⟩ := ih best hb
      refine ⟨i1, i2, fun q hqm hq0 => ?_, ?_⟩
      · rcases List.mem_cons.1 hqm with rfl | hqm
        · exact absurd hq0 hq
        · exact i3 q hqm hq0
      · rcases i4 with i4 | ⟨q, q1, q2, q3⟩
        · exact .inl i4
        · right; exact ⟨q, by simp [q1], q2, q3⟩
theorem perm_mem {ps : List Prm} {p : Prm} (h : permsL ps = true) (hp : p ∈ ps) : permB p = true := by
  unfold permsL at h
  simp only [Bool.and_eq_true, List.all_eq_true] at h
  first | exact h.1 p hp | exact h.2 p hp
theorem askO_true {b : Bool} {xs : List Art} {cs : List Int} {day : Int} (h1 : b = true) (h2 : artsB xs = true) (h3 : cntsB xs cs = true) (h4 : inB day 0 100000 = true) : askO b xs cs day = 0 := by
  unfold askO
  rw [h1, h2, h3, h4]
  rfl
theorem frs_hit {ps : List Prm} {xs : List Art} {cs : List Int} {day : Int} (h0 : askO (permsL ps) xs cs day = 0) : (∃ (i : Nat) (p : Prm), frsR ps xs cs day = ((i : Int), 0) ∧ i < ps.length ∧ ps[i]? = some p ∧ refV p xs cs day = 0) ∨ (frsR ps xs cs day = (0, 4) ∧ ∀ p ∈ ps, refV p xs cs day ≠ 0) := by
  unfold frsR fstP
  rw [if_pos h0]
  cases hf : firstOf (fun p : Prm => decide (refV p xs cs day = 0)) 0 ps with
  | none =>
    right
    refine ⟨rfl, fun p hp hq => ?_⟩
    have := firstOf_none _ ps 0 hf p hp
    simp [hq] at this
  | some x =>
    left
    obtain ⟨i, p⟩ := x
    obtain ⟨_, h2, h3, h4⟩ := fstOf_spec _ ps 0 i p hf
    exact ⟨i, p, rfl, by omega, by simpa using h3, by simpa using h4⟩
theorem frs_ask {ps : List Prm} {xs : List Art} {cs : List Int} {day : Int} (h : (frsR ps xs cs day).2 = 0) : askO (permsL ps) xs cs day = 0 := by
  unfold frsR at h
  split at h
  · assumption
  · rename_i h1; exact absurd h h1
theorem nxt_ask {ps : List Prm} {xs : List Art} {cs : List Int} {day : Int} (h : (nxtR ps xs cs day).2 = 0) : askO (permsL ps) xs cs day = 0 ∧ 0 ≤ nxtL ps xs cs day ∧ nxtR ps xs cs day = (nxtL ps xs cs day, 0) := by
  unfold nxtR at h ⊢
  split at h
  · rename_i h0
    rw [if_pos h0]
    split at h
    · cases h
    · rename_i h1
      exact ⟨h0, by omega, if_neg h1⟩
  · rename_i h1; exact absurd h h1
theorem fact1 {ps : List Prm} {xs : List Art} {cs : List Int} {day : Int} (h : (frsR ps xs cs day).2 = 0) : (0 ≤ (frsR ps xs cs day).1 ∧ (frsR ps xs cs day).1 < (ps.length : Int)) ∧ refR (ps.getD (frsR ps xs cs day).1.toNat Z6) xs cs day = (0, 0) ∧ nxtR ps xs cs day = (day, 0) := by
  have h0 := frs_ask h
  obtain ⟨a0, a1, a2, a3⟩ := askO_zero h0
  have hd := inB_iff.1 a3
  rcases frs_hit h0 with ⟨i, p, e, h1, h2, h3⟩ | ⟨e, _⟩
  · have hm : p ∈ ps := List.mem_of_getElem? h2
    have hpb := perm_mem a0 hm
    rw [e]
    refine ⟨⟨by simp only; omega, by simp only; omega⟩, ?_, ?_⟩
    · have e2 : ps.getD ((i : Int), (0 : Int)).1.toNat Z6 = p := by
        rw [List.getD_eq_getElem?_getD]
        simp only [Int.toNat_natCast, h2, Option.getD_some]
      rw [e2]
      unfold refR
      rw [if_pos (askO_true hpb a1 a2 a3), h3]
    · have hr := (refV_zero p xs cs day).1 h3
      have hx := (maxD_le p.1 day).2.2.1 hr.1.1
      obtain ⟨_, _, i3, i4⟩ := nxt_min xs cs day hd.1 ps (-1) (.inl (by omega))
      obtain ⟨i1, _, _, _⟩ := nxt_min xs cs day hd.1 ps (-1) (.inl (by omega))
      have i5 := i3 p hm (by rw [hx]; exact h3)
      have e3 : nxtL ps xs cs day = day := by
        show ps.foldl (nxtF xs cs day) (-1) = day
        omega
      unfold nxtR
      rw [if_pos h0, e3, if_neg (by omega)]
  · rw [e] at h; cases h
theorem fact2 {ps : List Prm} {xs : List Art} {cs : List Int} {day : Int} (h : (nxtR ps xs cs day).2 = 0) : (frsR ps xs cs (nxtR ps xs cs day).1).2 = 0 ∧ ¬ (nxtR ps xs cs day).1 < day ∧ (day < (nxtR ps xs cs day).1 → (frsR ps xs cs day).2 = 4) := by
  obtain ⟨h0, h1, h2⟩ := nxt_ask h
  obtain ⟨a0, a1, a2, a3⟩ := askO_zero h0
  have hd := inB_iff.1 a3
  rw [h2]
  simp only
  obtain ⟨i1, _, i3, i4⟩ := nxt_min xs cs day hd.1 ps (-1) (.inl (by omega))
  have hn : nxtL ps xs cs day = ps.foldl (nxtF xs cs day) (-1) := rfl
  rw [← hn] at i1 i4
  have i3' : ∀ p ∈ ps, refV p xs cs (maxD p.1 day) = 0 → 0 ≤ nxtL ps xs cs day ∧ nxtL ps xs cs day ≤ maxD p.1 day := i3
  rcases i4 with i4 | ⟨p, p1, p2, p3⟩
  · omega
  have hpb := permB_iff (perm_mem a0 p1)
  have hmx := maxD_le p.1 day
  refine ⟨?_, by omega, fun hlt => ?_⟩
  · have hb : inB (nxtL ps xs cs day) 0 100000 = true := inB_iff.2 (by omega)
    rcases frs_hit (askO_true a0 a1 a2 hb) with ⟨i, q, e, _⟩ | ⟨e, hno⟩
    · rw [e]
    · exact absurd (by rw [p3]; exact p2) (hno p p1)
  · rcases frs_hit h0 with ⟨i, q, e, q1, q2, q3⟩ | ⟨e, hno⟩
    · have hr := (refV_zero q xs cs day).1 q3
      have hx := (maxD_le q.1 day).2.2.1 hr.1.1
      have := i3' q (List.mem_of_getElem? q2) (by rw [hx]; exact q3)
      omega
    · rw [e]
/-- which kinds are set -/
theorem flg_has (a b c d : Bool) (k : Int) (h0 : 0 ≤ k) (h3 : k ≤ 3) : hasK (flg a b c d) k = [a, b, c, d].getD k.toNat false := by
  have hk : k = 0 ∨ k = 1 ∨ k = 2 ∨ k = 3 := by omega
  rcases hk with rfl | rfl | rfl | rfl <;> cases a <;> cases b <;> cases c <;> cases d <;> rfl
theorem flg_perm (a b c d : Bool) : (flg a b c d).all (inB · 0 3) = true ∧ risB (flg a b c d) = true := by
  cases a <;> cases b <;> cases c <;> cases d <;> exact ⟨by decide, by decide⟩
theorem fl_mono (l : List Bool) (k j : Nat) (h : l.getD j false = true) : (l.set k true).getD j false = true := by
  rw [List.getD_eq_getElem?_getD] at h ⊢
  by_cases e : k = j
  · subst e
    cases hl : l[k]? with
    | none => rw [hl] at h; cases h
    | some v =>
      have := (List.getElem?_eq_some_iff.1 hl).1
      rw [List.getElem?_set_self this]; rfl
  · rw [List.getElem?_set_ne e]; exact h
theorem fl_hit (l : List Bool) (k : Nat) (h : k < l.length) : (l.set k true).getD k false = true := by
  rw [List.getD_eq_getElem?_getD, List.getElem?_set_self h]; rfl
theorem pf_mono (cs : List Int) (hc : ∀ i : Nat, 0 ≤ cs.getD i 0) (p : Prm) (P : Int → Bool) : ∀ (ys : List Art) (i : Nat) (s : PF), (∀ a ∈ ys, artB a = true) →
    (s.cal ≤ (foldi (pfF cs) i s ys).cal ∧ s.grp ≤ (foldi (pfF cs) i s ys).grp ∧ ∀ j : Nat, s.fl.getD j false = true → (foldi (pfF cs) i s ys).fl.getD j false = true) ∧
    ((foldi (pfF cs) i s ys).cal ≤ p.2.2.2.1 → (foldi (pfF cs) i s ys).grp ≤ p.2.2.2.2.2 → (∀ k : Int, 0 ≤ k → k ≤ 3 → (foldi (pfF cs) i s ys).fl.getD k.toNat false = true → hasK p.2.2.2.2.1 k = true) → foldi (refF p cs) i (false, false, false) ys = (false, false, false)) := by
  intro ys
  induction ys with
  | nil => intro i s _; exact ⟨⟨Int.le_refl _, Int.le_refl _, fun _ h => h⟩, fun _ _ _ => rfl⟩
  | cons a r ih =>
    intro i s ha
    simp only [foldi]
    have hab := artB_iff (ha a (by simp))
    obtain ⟨s1, s2⟩ := pf_step cs i s a (ha a (by simp))
    obtain ⟨⟨m1, m2, m3⟩, m4⟩ := ih (i + 1) (pfF cs i s a) (fun y hy => ha y (by simp [hy]))
    have hci := hc i
    by_cases hp : 0 < cs.getD i 0
    · obtain ⟨t1, t2, t3, t4⟩ := s1 hp
      rw [t3] at m1
      rw [t4] at m2
      have x1 : s.cal ≤ maxD a.2.2.1 s.cal ∧ a.2.2.1 ≤ maxD a.2.2.1 s.cal := by unfold maxD; split <;> omega
      have x2 : s.grp ≤ maxD a.2.2.2.2.2.2.2.2 s.grp ∧ a.2.2.2.2.2.2.2.2 ≤ maxD a.2.2.2.2.2.2.2.2 s.grp := by unfold maxD; split <;> omega
      refine ⟨⟨by omega, by omega, fun j hj => m3 j (by rw [t1]; exact fl_mono _ _ _ hj)⟩, fun c1 c2 c3 => ?_⟩
      have k1 : hasK p.2.2.2.2.1 a.2.1 = true := c3 a.2.1 hab.2.1.1 hab.2.1.2 (m3 _ (by rw [t1]; exact fl_hit _ _ (by have := hab.2.1; show a.2.1.toNat < 4; omega)))
      have e : refF p cs i (false, false, false) a = (false, false, false) := by
        unfold refF
        have n0 : ¬ cs.getD i 0 = 0 := by omega
        have n1 : ¬ p.2.2.2.1 < a.2.2.1 := by omega
        have n2 : ¬ p.2.2.2.2.2 < a.2.2.2.2.2.2.2.2 := by omega
        rw [if_neg n0, k1, decide_eq_false n1, decide_eq_false n2]
        rfl
      rw [e]
      exact m4 c1 c2 c3
    · have e0 := s2 hp
      rw [e0] at m1 m2 m3 m4 ⊢
      refine ⟨⟨m1, m2, m3⟩, fun c1 c2 c3 => ?_⟩
      have e : refF p cs i (false, false, false) a = (false, false, false) := by
        unfold refF
        rw [if_pos (by omega)]
      rw [e]
      exact m4 c1 c2 c3
theorem pf_bd (cs : List Int) : ∀ (ys : List Art) (i : Nat) (s : PF), (∀ a ∈ ys, artB a = true) → (20 ≤ s.cal ∧ s.cal ≤ 300 ∧ 0 ≤ s.grp ∧ s.grp ≤ 3) → (20 ≤ (foldi (pfF cs) i s ys).cal ∧ (foldi (pfF cs) i s ys).cal ≤ 300 ∧ 0 ≤ (foldi (pfF cs) i s ys).grp ∧ (foldi (pfF cs) i s ys).grp ≤ 3) := by
  intro ys
  induction ys with
  | nil => intro i s _ h; exact h
  | cons a r ih =>
    intro i s ha h
    refine ih _ _ (fun y hy => ha y (by simp [hy])) ?_
    have hab := artB_iff (ha a (by simp))
    obtain ⟨s1, s2⟩ := pf_step cs i s a (ha a (by simp))
    by_cases hp : 0 < cs.getD i 0
    · obtain ⟨_, _, t3, t4⟩ := s1 hp
      rw [t3, t4]
      unfold maxD
      obtain ⟨_, _, b3, _, b5⟩ := hab
      split <;> split <;> omega
    · rw [s2 hp]; exact h
theorem NetOfOrder_f (xs : List Art) (cs : List Int) (hb : xs.length ≤ 140737488355328) (hz : ∀ a ∈ xs, Sz a.1) (hcl : cs.length ≤ 1000000) (hx : artsB xs = true) (hc : cntsB xs cs = true) : impl_NetOfOrder.f xs cs = some (netO xs cs, 0) := by
  obtain ⟨h1, h2⟩ := artsB_ok hx
  obtain ⟨h3, h4⟩ := cntsB_iff hc
  unfold impl_NetOfOrder.f impl_NetOfOrder.fn impl_NetOfOrder.top
  rw [impl_AreArticles_f xs hb hz, impl_areCounts_f xs cs hcl, hx, hc]
  have := fold_fix (E := fun a : Art => artB a = true) (fun p (st : Int) => 0 ≤ st ∧ st ≤ 100000000 * p.length) (netS cs) (fun st => some (st, (0 : Int))) (fun k i st => impl_NetOfOrder.l7 NN k cs st xs xs.length i) xs ?_ ?_ 0 h2 (by simp) (by omega) NN (NN_lt (by omega))
  · exact this.2
  · intro k st _
    simp [impl_NetOfOrder.l7, impl_NetOfOrder.g7]
  · intro k p a r st hxx ha hI c0 c1 c2 cw g
    have hpl : p.length ≤ 12 := by rw [hxx] at h1; simp at h1; omega
    have hbb := mul_bd (artB_iff ha).2.2.2.1 (h4 p.length)
    have w1 := w64 (n := a.2.2.2.2.2.2.2.1 * cs.getD p.length 0) (by omega) (by omega)
    have w2 := w64 (n := st + a.2.2.2.2.2.2.2.1 * cs.getD p.length 0) (by omega) (by omega)
    have c3 : (p.length : Int) < (cs.length : Int) := by omega
    refine ⟨by unfold netS; rw [List.length_append, List.length_singleton]; omega, ?_⟩
    simp only [impl_NetOfOrder.l7, impl_NetOfOrder.g7, c0, c1, c3, cw, and_self, and_true, true_and, decide_true, decide_false, if_true, if_false, mid_get, mid_set, mid_getn, mid_setn, bt_mid, Option.bind_some, Bool.not_true, Bool.not_false, Bool.false_eq_true, Bool.true_eq_false, beq_self_eq_true, bne_self_eq_false, Int.toNat_natCast, g, w1, w2]
    rfl
theorem fact3 {xs : List Art} {cs : List Int} {day : Int} (hx : Lm OkArticle xs) (hcl : Lm (Rg .i64) cs) (h : (pfR xs cs day).2 = 0) : refR (pfR xs cs day).1 xs cs day = (0, 0) ∧ impl_NetOfOrder.f xs cs = some ((pfR xs cs day).1.2.2.1, 0) ∧ permB (pfR xs cs day).1 = true := by
  unfold pfR at h ⊢
  split at h
  rotate_left
  · rename_i h1; exact absurd h h1
  rename_i h0
  rw [if_pos h0]
  split at h
  · cases h
  rename_i hn
  rw [if_neg hn]
  obtain ⟨_, a1, a2, a3⟩ := askO_zero h0
  have hd := inB_iff.1 a3
  obtain ⟨h1, h2⟩ := artsB_ok a1
  obtain ⟨h3, h4⟩ := cntsB_iff a2
  have hno := (impl_orderNet_f xs cs a1 a2).1
  have hbd := pf_bd cs xs 0 pf0 h2 (by simp [pf0])
  have hfp := flg_perm (pfL xs cs).a (pfL xs cs).b (pfL xs cs).c (pfL xs cs).d
  have hp : permB (pfV day (netO xs cs) (pfL xs cs)) = true := by
    unfold permB pfV
    simp only [Bool.and_eq_true, inB_iff]
    refine ⟨⟨⟨⟨⟨hd, ?_⟩, ?_⟩, ?_⟩, ?_⟩, ?_⟩
    · omega
    · omega
    · exact ⟨hbd.1, hbd.2.1⟩
    · exact hfp
    · exact ⟨hbd.2.2.1, hbd.2.2.2⟩
  refine ⟨?_, NetOfOrder_f xs cs (Nat.le_trans hx.1 (by omega)) (arts_z hx) hcl.1 a1 a2, hp⟩
  unfold refR
  rw [if_pos (askO_true hp a1 a2 a3), (refV_zero _ xs cs day).2 ?_]
  refine ⟨⟨Int.le_refl _, Int.le_refl _⟩, Int.lt_irrefl _, ?_⟩
  refine (pf_mono cs (fun i => (h4 i).1) (pfV day (netO xs cs) (pfL xs cs)) (fun _ => true) xs 0 pf0 h2).2 (Int.le_refl _) (Int.le_refl _) fun k k0 k3 hk => ?_
  show hasK (flg (pfL xs cs).a (pfL xs cs).b (pfL xs cs).c (pfL xs cs).d) k = true
  rw [flg_has _ _ _ _ _ k0 k3]
  exact hk
theorem likePermit_self (p : Prm) (h : p.2.2.2.2.1.length ≤ 140737488355328) : laws_likePermit.f (p.1, (p.2.1, (p.2.2.1, (p.2.2.2.1, (p.2.2.2.2.1, p.2.2.2.2.2))))) (p.1, (p.2.1, (p.2.2.1, (p.2.2.2.1, (p.2.2.2.2.1, p.2.2.2.2.2))))) = some true := by
  unfold laws_likePermit.f laws_likePermit.fn laws_likePermit.top
  simp only [beq_self_eq_true, if_true, likeInts_self _ h, Option.bind_some]
theorem FnPermits_true (code : List Int) (hyp : Ls (Rg .u8) code) : laws_FnPermits.f code = some true := by
  unfold laws_FnPermits.f laws_FnPermits.fn laws_FnPermits.top
  rw [big_f]
  by_cases hb : (4096 : Int) < (code.length : Int)
  · simp [hb]
  have hco := code_of hyp hb
  obtain ⟨xa, ca, da, e1, ⟨a1, a2⟩, ⟨a3, a4⟩, a5⟩ := drawPermF_ok hco
  obtain ⟨p, xb, cb, db, e2, p1, ⟨b1, b2⟩, ⟨b3, b4⟩, b5⟩ := drawRef_ok hco
  obtain ⟨ps, xc, cc, dc, e3, ⟨q1, q2⟩, ⟨c1, c2⟩, ⟨c3, c4⟩, c5⟩ := drawNext_ok hco
  have lxa := arts_lm a1 a2
  have lca := cnts_lm a3 a4
  have lxb := arts_lm b1 b2
  have lcb := cnts_lm b3 b4
  have lxc := arts_lm c1 c2
  have lcc := cnts_lm c3 c4
  have lps : Lm OkPermit ps := ⟨by omega, fun x hx => prmM_ok (q2 x hx)⟩
  have okp := prmM_ok p1
  have pfo := pfR_ok xa ca da a5
  have kp : p.2.2.2.2.1.length ≤ 140737488355328 := Nat.le_trans okp.2.2.2.2.1.1 (by omega)
  have kpf : (pfR xa ca da).1.2.2.2.2.1.length ≤ 140737488355328 := Nat.le_trans pfo.2.2.2.2.1.1 (by omega)
  obtain ⟨f1, f2⟩ := PermitFor_both xa ca da lxa lca
  obtain ⟨r1, r2⟩ := RefusalsOf_both p xb cb db okp lxb lcb
  obtain ⟨n1, n2⟩ := NextDay_both ps xc cc dc lps lxc lcc
  obtain ⟨t1, t2⟩ := FirstPermit_both ps xc cc dc lps lxc lcc
  obtain ⟨t3, t4⟩ := FirstPermit_both ps xc cc (nxtR ps xc cc dc).1 lps lxc lcc
  have lk := likePermit_self _ kpf
  have i1 := impl_IsPermit_f p kp
  have i2 := spec_IsPermit_f p kp
  have i3 := impl_IsPermit_f _ kpf
  have rf := (RefusalsOf_both (pfR xa ca da).1 xa ca da pfo lxa lca).2
  have tail : (if ((pfR xa ca da).2 != 0) = true then some true
      else (impl_RefusalsOf.f ((pfR xa ca da).1.1, ((pfR xa ca da).1.2.1, ((pfR xa ca da).1.2.2.1, ((pfR xa ca da).1.2.2.2.1, ((pfR xa ca da).1.2.2.2.2.1, (pfR xa ca da).1.2.2.2.2.2))))) xa ca da).bind fun r18 =>
        (impl_NetOfOrder.f xa ca).bind fun r19 =>
        if ((r18.2 : Int) == 0) = true then
          if ((r18.1 : Int) == 0) = true then
            if ((r19.2 : Int) == 0) = true then
              if ((r19.1 : Int) == (pfR xa ca da).1.2.2.1) = true then
                (impl_IsPermit.f ((pfR xa ca da).1.1, ((pfR xa ca da).1.2.1, ((pfR xa ca da).1.2.2.1, ((pfR xa ca da).1.2.2.2.1, ((pfR xa ca da).1.2.2.2.2.1, (pfR xa ca da).1.2.2.2.2.2)))))).bind fun r20 =>
                some r20
              else some false
            else some false
          else some false
        else some false) = some true := by
    by_cases hz : (pfR xa ca da).2 = 0
    · obtain ⟨g1, g2, g3⟩ := fact3 lxa lca hz
      rw [if_neg (by rw [hz]; decide), show ((pfR xa ca da).1.1, ((pfR xa ca da).1.2.1, ((pfR xa ca da).1.2.2.1, ((pfR xa ca da).1.2.2.2.1, ((pfR xa ca da).1.2.2.2.2.1, (pfR xa ca da).1.2.2.2.2.2))))) = (pfR xa ca da).1 from rfl, rf, g1, g2, i3, g3]
      simp
    · rw [if_pos (by simpa using hz)]
  have frs0 : ∀ {c : Int}, (c == (0 : Int)) = true → c = 0 := fun h => by simpa using h
  simp only [hb, decide_false, Bool.false_eq_true, if_false, Option.bind_some, e1, e2, e3]
  rw [show (p.1, (p.2.1, (p.2.2.1, (p.2.2.2.1, (p.2.2.2.2.1, p.2.2.2.2.2))))) = p from rfl, f1, f2, r1, r2, n1, n2, t1, t2]
  simp only [Option.bind_some, bne_self_eq_false, if_true, lk, i1, i2, Bool.not_true, Bool.false_eq_true, if_false, beq_self_eq_true, t4]
  by_cases h11 : (frsR ps xc cc dc).2 = 0
  · obtain ⟨⟨k1, k2⟩, k3, k4⟩ := fact1 h11
    have hm : ps.getD (frsR ps xc cc dc).1.toNat Z6 ∈ ps := by
      rw [List.getD_eq_getElem?_getD, List.getElem?_eq_getElem (show (frsR ps xc cc dc).1.toNat < ps.length by omega)]; exact List.getElem_mem _
    have rk := (RefusalsOf_both _ xc cc dc (lps.2 _ hm) lxc lcc).2
    rw [k3] at rk
    have rk' : impl_RefusalsOf.f (ps.getD (frsR ps xc cc dc).1.toNat (0, (0, (0, (0, ([], 0)))))) xc cc dc = some (0, 0) := rk
    rw [k4]
    simp only [h11, beq_self_eq_true, if_true, k1, k2, and_self, rk', Option.bind_some, bne_self_eq_false, Bool.false_eq_true, if_false, Int.lt_irrefl, decide_false]
    exact tail
  · have e11 : ((frsR ps xc cc dc).2 == 0) = false := by rw [beq_eq_false_iff_ne]; exact h11
    simp only [e11, Bool.false_eq_true, if_false]
    by_cases h9 : (nxtR ps xc cc dc).2 = 0
    · obtain ⟨g1, g2, g3⟩ := fact2 h9
      simp only [h9, beq_self_eq_true, if_true, g1, bne_self_eq_false, Bool.false_eq_true, if_false, g2, decide_false]
      by_cases hl : dc < (nxtR ps xc cc dc).1
      · have e4 : ((frsR ps xc cc dc).2 != 4) = false := by rw [g3 hl]; rfl
        simp only [hl, decide_true, if_true, e4, Bool.false_eq_true, if_false]
        exact tail
      · simp only [hl, decide_false, Bool.false_eq_true, if_false]
        exact tail
    · have e9 : ((nxtR ps xc cc dc).2 == 0) = false := by rw [beq_eq_false_iff_ne]; exact h9
      simp only [e9, Bool.false_eq_true, if_false]
      exact tail
end Go.Pl
