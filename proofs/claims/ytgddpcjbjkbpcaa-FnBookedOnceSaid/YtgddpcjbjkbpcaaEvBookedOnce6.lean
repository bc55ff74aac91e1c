/- Part 6 of what the law FnBookedOnce stands on: an evaluator of the model's code, proved sound; the functions as plain texts; their contracts. -/
import Derived.Test.YtgddpcjbjkbpcaaChecked
import Derived.Test.YtgddpcjbjkbpcaaProg
import Derived.Test.YtgddpcjbjkbpcaaRows
import Derived.Below
import Derived.Calls
import Derived.Carry
import Derived.ChangeArms
import Derived.ChangeKeysEq
import Derived.ChangeOld
import Derived.Deep.Quiet
import Derived.KernelRfl
import Derived.Laws.Append
import Derived.Laws.BytesString
import Derived.Laws.MakeOwn
import Derived.Laws.Strings
import Derived.Laws.StructEq
import Derived.OpenShut
import Derived.OrdersHeld
import Derived.ProofKit
import Derived.ShutString
import Derived.SizedLaws
import Derived.Tactics
import Derived.WalkKit
import Derived.WideShapes
import Derived.Test.YtgddpcjbjkbpcaaEvBookedOnce5
/- Words for the plain laws. -/
namespace Go.Pl
open Go.Ev
set_option linter.unusedVariables false

theorem wf64 {n : Int} : (Lit.int .i64 n).wf = true ↔ (-9223372036854775808 ≤ n ∧ n ≤ 9223372036854775807) := by
  simp only [Lit.wf, Bool.and_eq_true, decide_eq_true_eq]
  have e1 : IntKind.i64.min = -9223372036854775808 := by decide
  have e2 : IntKind.i64.max = 9223372036854775807 := by decide
  omega
theorem wf8 {n : Int} : (Lit.int .u8 n).wf = true ↔ (0 ≤ n ∧ n ≤ 255) := by
  simp only [Lit.wf, Bool.and_eq_true, decide_eq_true_eq]
  have e1 : IntKind.u8.min = 0 := by decide
  have e2 : IntKind.u8.max = 255 := by decide
  omega
theorem w8 {n : Int} (h1 : 0 ≤ n) (h2 : n < 256) : IntKind.u8.wrap n = n := by
  simp only [IntKind.wrap, IntKind.bits, IntKind.signed]
  simp
  omega
theorem w8_range (n : Int) : 0 ≤ IntKind.u8.wrap n ∧ IntKind.u8.wrap n < 256 := by
  simp only [IntKind.wrap, IntKind.bits, IntKind.signed]
  simp
  omega

/-! Rows, taken apart where a loop stands. -/
theorem mid_get {α : Type} (p r : List α) (x z : α) : (p ++ x :: r).getD (p.length : Int).toNat z = x := by simp
theorem mid_set {α : Type} (p r : List α) (x y : α) : (p ++ x :: r).set (p.length : Int).toNat y = p ++ y :: r := by simp
theorem mid_getn {α : Type} (p r : List α) (x z : α) : (p ++ x :: r).getD p.length z = x := by simp
theorem mid_setn {α : Type} (p r : List α) (x y : α) : (p ++ x :: r).set p.length y = p ++ y :: r := by simp
theorem mid_len {α : Type} (p r : List α) (x : α) : ((p ++ x :: r).length : Int) = (p.length : Int) + r.length + 1 := by simp; omega
theorem mid_nil {α : Type} (p : List α) : p ++ [] = p := by simp
theorem mid_snoc {α : Type} (p r : List α) (x : α) : (p ++ [x]) ++ r = p ++ x :: r := by simp
theorem snoc_len {α : Type} (p : List α) (x : α) : ((p ++ [x]).length : Int) = (p.length : Int) + 1 := by simp
/-- A loop over a row: l stands for its rounds, f for what it comes to. -/
theorem loop_mid {α ρ σ : Type} {B : Nat} (l : Nat → List α → Int → σ → Option ρ) (f : List α → List α → σ → Option ρ)
    (hnil : ∀ k pre st, pre.length ≤ B → l (k + 1) pre (pre.length : Int) st = f pre [] st)
    (hcons : ∀ k pre a r st, pre.length + r.length + 1 ≤ B → (∀ st', l k (pre ++ a :: r) ((pre.length : Int) + 1) st' = f (pre ++ [a]) r st') → l (k + 1) (pre ++ a :: r) (pre.length : Int) st = f pre (a :: r) st) :
    ∀ r pre k st, pre.length + r.length ≤ B → r.length < k → l k (pre ++ r) (pre.length : Int) st = f pre r st := by
  intro r
  induction r with
  | nil =>
    intro pre k st h1 h2
    obtain ⟨k, rfl⟩ : ∃ j, k = j + 1 := ⟨k - 1, by omega⟩
    rw [List.append_nil]
    exact hnil k pre st (by simpa using h1)
  | cons a r ih =>
    intro pre k st h1 h2
    simp only [List.length_cons] at h1 h2
    obtain ⟨k, rfl⟩ : ∃ j, k = j + 1 := ⟨k - 1, by omega⟩
    refine hcons k pre a r st (by omega) fun st' => ?_
    have := ih (pre ++ [a]) k st' (by simp; omega) (by omega)
    rw [mid_snoc, snoc_len] at this
    exact this
/-- The same, where the row itself is written. -/
theorem loop_mid0 {α ρ σ : Type} {B : Nat} (l : Nat → List α → Int → σ → Option ρ) (f : List α → List α → σ → Option ρ)
    (hnil : ∀ k pre st, pre.length ≤ B → l (k + 1) pre (pre.length : Int) st = f pre [] st)
    (hcons : ∀ k pre a r st, pre.length + r.length + 1 ≤ B → (∀ st', l k (pre ++ a :: r) ((pre.length : Int) + 1) st' = f (pre ++ [a]) r st') → l (k + 1) (pre ++ a :: r) (pre.length : Int) st = f pre (a :: r) st)
    (xs : List α) (k : Nat) (st : σ) (h1 : xs.length ≤ B) (h2 : xs.length < k) : l k xs 0 st = f [] xs st := by
  have := loop_mid l f hnil hcons xs [] k st (by simpa using h1) h2
  simpa using this
/-- A loop by a measure. -/
theorem loop_by {ρ σ : Type} (l : Nat → σ → Option ρ) (μ : σ → Nat) (Q : σ → Option ρ → Prop)
    (h : ∀ k st, (∀ st', μ st' < μ st → Q st' (l k st')) → Q st (l (k + 1) st)) : ∀ k st, μ st < k → Q st (l k st) := by
  intro k
  induction k with
  | zero => intro st h; omega
  | succ k ih => intro st hk; exact h k st fun st' h' => ih st' (by omega)

/-! Bytes. -/
theorem ba_toList {a b : ByteArray} : a.toList = b.toList ↔ a = b := by
  rw [ByteArray.toList_eq, ByteArray.toList_eq]
  exact ⟨fun h => ByteArray.ext (Array.toList_inj.mp h), fun h => by rw [h]⟩
theorem ba_beq (a b : ByteArray) : (a.toList == b.toList) = decide (a = b) := by
  by_cases h : a = b
  · subst h; simp
  · rw [decide_eq_false h, beq_eq_false_iff_ne]; exact fun e => h (ba_toList.1 e)
def bl (s : ByteArray) : List UInt8 := s.data.toList
def ob (l : List UInt8) : ByteArray := ⟨l.toArray⟩
theorem bl_ob (l : List UInt8) : bl (ob l) = l := by simp [bl, ob]
theorem ob_bl (s : ByteArray) : ob (bl s) = s := by simp [bl, ob]
theorem bl_inj {a b : ByteArray} (h : bl a = bl b) : a = b := by rw [← ob_bl a, h, ob_bl]
theorem ob_inj {a b : List UInt8} (h : ob a = ob b) : a = b := by rw [← bl_ob a, h, bl_ob]
theorem bl_length (s : ByteArray) : (bl s).length = s.size := by simp only [bl, Array.length_toList]; rfl
theorem ob_size (l : List UInt8) : (ob l).size = l.length := by rw [← bl_length, bl_ob]
theorem bl_append (a b : ByteArray) : bl (a ++ b) = bl a ++ bl b := by simp [bl]
theorem ob_append (a b : List UInt8) : ob a ++ ob b = ob (a ++ b) := by apply bl_inj; rw [bl_append, bl_ob, bl_ob, bl_ob]
theorem bl_lit (a : Array UInt8) : bl (⟨a⟩ : ByteArray) = a.toList := rfl
theorem lit_ob (l : List UInt8) : (⟨l.toArray⟩ : ByteArray) = ob l := rfl
theorem bl_extract (s : ByteArray) (i j : Nat) : bl (s.extract i j) = ((bl s).take j).drop i := by
  simp only [bl, ByteArray.data_extract, Array.toList_extract, List.extract]
  rw [List.drop_take]
theorem ob_extract (l : List UInt8) (i j : Nat) : (ob l).extract i j = ob ((l.take j).drop i) := by apply bl_inj; rw [bl_extract, bl_ob, bl_ob]
theorem ob_toList (l : List UInt8) : (ob l).toList = l := by rw [ByteArray.toList_eq]; rfl
theorem ba_bl (s : ByteArray) : s.toList = bl s := by rw [ByteArray.toList_eq]; rfl
theorem bt_ob (l : List UInt8) (i : Int) : bt (ob l) i = ((l.getD i.toNat 0).toNat : Int) := rfl
theorem bt_mid (p r : List UInt8) (c : UInt8) : bt (ob (p ++ c :: r)) (p.length : Int) = (c.toNat : Int) := by rw [bt_ob, mid_get]
theorem bt_range (s : ByteArray) (i : Int) : 0 ≤ bt s i ∧ bt s i ≤ 255 := by
  unfold bt
  have := UInt8.toNat_lt ((s.data.toList.getD i.toNat 0))
  omega
theorem u8_lt (c : UInt8) : c.toNat < 256 := UInt8.toNat_lt c
theorem u8_eq {a : UInt8} {n : Nat} (h : n < 256) : ((a.toNat : Int) = (n : Int)) ↔ a = UInt8.ofNat n := by
  constructor
  · intro e
    apply UInt8.toNat_inj.mp
    rw [UInt8.toNat_ofNat']; omega
  · rintro rfl
    rw [UInt8.toNat_ofNat']; omega
theorem bytesOf_ob (l : List Int) : bytesOf l = ob (l.map fun n => UInt8.ofNat n.toNat) := rfl
/-- Every string is of bytes. -/
theorem ob_all {P : ByteArray → Prop} (h : ∀ l, P (ob l)) (s : ByteArray) : P s := by rw [← ob_bl s]; exact h _
/-- A loop over a string's bytes. -/
theorem loop_str0 {ρ σ : Type} {B : Nat} (l : Nat → ByteArray → Int → σ → Option ρ) (f : List UInt8 → List UInt8 → σ → Option ρ)
    (hnil : ∀ k pre st, pre.length ≤ B → l (k + 1) (ob pre) (pre.length : Int) st = f pre [] st)
    (hcons : ∀ k pre a r st, pre.length + r.length + 1 ≤ B → (∀ st', l k (ob (pre ++ a :: r)) ((pre.length : Int) + 1) st' = f (pre ++ [a]) r st') → l (k + 1) (ob (pre ++ a :: r)) (pre.length : Int) st = f pre (a :: r) st)
    (s : ByteArray) (k : Nat) (st : σ) (h1 : s.size ≤ B) (h2 : s.size < k) : l k s 0 st = f [] (bl s) st := by
  have := loop_mid0 (fun k xs i st => l k (ob xs) i st) f hnil hcons (bl s) k st (by rw [bl_length]; exact h1) (by rw [bl_length]; exact h2)
  rw [ob_bl] at this
  exact this
theorem room1 : room 1 = 140737488355328 := by decide
theorem room8 : room 8 = 17592186044416 := by decide
theorem room16 : room 16 = 8796093022208 := by decide
theorem room24 : room 24 = 5864062014805 := by decide
theorem room32 : room 32 = 4398046511104 := by decide
theorem room40 : room 40 = 3518437208883 := by decide
theorem NNb : (1000000000000 : Nat) < NN := by rw [NN_eq]; omega
theorem NN_lt {n : Nat} (h : n < 1152921504606846976) : n < NN := by rw [NN_eq]; omega
theorem some_iff {b c : Bool} (h : b = true ↔ c = true) : some b = some c := by
  congr 1; exact Bool.eq_iff_iff.mpr h
end Go.Pl

/- A law's row: what its arguments are, in plain words. -/
namespace Go.Ev
set_option linter.unusedVariables false
set_option linter.unusedSimpArgs false
open Go.RowKit Go.WideShapes Go.ChangeShapes Go.ChangeAt
variable {P : Program}

def Rg (k : IntKind) (n : Int) : Prop := (Lit.int k n).wf = true
def Sz (s : ByteArray) : Prop := s.size ≤ 140737488355328
def Ls {α : Type} (Q : α → Prop) (xs : List α) : Prop := xs.length ≤ 140737488355328 ∧ ∀ x ∈ xs, Q x
def Plain : (t : Ty) → t.I → Prop
  | .int k, n => Rg k n
  | .bool, _ => True
  | .str, s => Sz s
  | .sl _ t, xs => Ls (Plain t) xs
  | .slb _ _, _ => True
  | .pair a b, x => Plain a x.1 ∧ Plain b x.2
  | .arr n t, xs => xs.length = n ∧ ∀ x ∈ xs, Plain t x
def PlainAll : (ts : List Ty) → Tup ts → Prop
  | [], _ => True
  | [t], x => Plain t x
  | t :: u :: r, x => Plain t x.1 ∧ PlainAll (u :: r) x.2
def okE (B : TypeId → Nat) : Ty → Bool
  | .sl e t => decide (1 ≤ B e) && okE B t
  | .slb e t => decide (1 ≤ B e) && okE B t
  | .pair a b => okE B a && okE B b
  | .arr _ t => okE B t
  | _ => true
theorem reach_lt : reachBytes ≤ 140737488355328 := by decide
theorem fit_plain {B : TypeId → Nat} : ∀ (t : Ty) (x : t.I), okE B t = true → Fit B t x → Plain t x := by
  intro t
  induction t with
  | int k => intro x _ h; exact h
  | bool => intro x _ h; trivial
  | str => intro x _ h; exact Nat.le_trans h reach_lt
  | sl e t ih =>
    intro x ho h
    simp only [okE, Bool.and_eq_true, decide_eq_true_eq] at ho
    refine ⟨?_, fun y hy => ih y ho.2 (h.2 y hy)⟩
    have h1 : x.length * 1 ≤ x.length * B e := Nat.mul_le_mul_left _ ho.1
    have h2 := h.1
    have h3 := reach_lt
    omega
  | slb e t ih => intro x ho h; trivial
  | pair a b iha ihb =>
    intro x ho h
    simp only [okE, Bool.and_eq_true] at ho
    exact ⟨iha _ ho.1 h.1, ihb _ ho.2 h.2⟩
  | arr n t ih => intro x ho h; exact ⟨h.1, fun y hy => ih y ho (h.2 y hy)⟩
theorem fit_plainAll {B : TypeId → Nat} : ∀ (ts : List Ty) (x : Tup ts), ts.all (okE B) = true → FitAll B ts x → PlainAll ts x := by
  intro ts
  induction ts with
  | nil => intro x _ _; trivial
  | cons t r ih =>
    intro x ho h
    simp only [List.all_cons, Bool.and_eq_true] at ho
    cases r with
    | nil => exact fit_plain t x ho.1 h
    | cons u r => exact ⟨fit_plain t x.1 ho.1 h.1, ih x.2 ho.2 h.2⟩
theorem ok_all {tab : List TRow} (h : okB P tab = true) : tab.all (rowB P tab) = true := by
  unfold okB at h; simp only [Bool.and_eq_true] at h; exact h.2.2
theorem bytes_sound {tab : List TRow} (h : okB P tab = true) : ∀ t x, tabT tab t = some x → P.bytesOf t = tabB tab t := by
  intro t x ht
  have hs := tab_sound (ok_all h)
  obtain ⟨ty, n⟩ := x
  obtain ⟨i, h1, h2⟩ := (hs.1 t ty n ht).info
  unfold Program.bytesOf
  rw [h1]
  exact hs.2 t _ ht i h1
section
variable {H : Type} {enc : TypeId × Value → H} {w : World} {base : Nat} {spare : Nat → Bool} {held : Bool}
theorem law_row {tab : List TRow} (hok : okB P tab = true) (hpos : posB tab = true) {f : FuncId} {c : Con} (hg : Good P f c) (hps : (c.ps.map (·.2)).map ((Kn.val, ·)) = c.ps) (hE : (c.ps.map (·.2)).all (okE (tabB tab)) = true)
    (hlaw : ∀ x, PlainAll (c.ps.map (·.2)) x → ∃ r, c.F x = some r ∧ kds' c.rs (dats _ r) = [(.val, ⟨.bool, true⟩)])
    {r : Reach} {b0 : Nat} {ts : List TypeId} {args : Array Value} {ds : List (DataW H)} {p : List MemPlace} (hts : tysOf (tabT tab) ts = some (c.ps.map (·.2))) (h : DataW.TrodAll enc P w base spare held ts args.toList ds p)
    (hval : ∀ (j : Nat) t v, ts[j]? = some t → args[j]? = some v → Value.okWide P w r b0 t v) {vt : List TypeId} {gs : List (DataW H)} (hgs : vt = [] ∨ gs = []) (hw : (DataW.weightsEach P (ts ++ vt) (ds ++ gs)).all (· ≤ reachBytes) = true) (hl : ts.length = ds.length) :
    Calls P f args w fun e w' => e = .returned (.bool true) ∧ Below w.heap.size w w' := by
  refine law_calls (tab_sound (ok_all hok)).1 (bytes_sound hok) (posB_sound hpos) hg hps (fun x hx => hlaw x (fit_plainAll _ x hE hx)) hts h (fun j t v hj hv => hval j t v hj (by simpa using hv)) ?_
  have key : ∀ (ts : List TypeId) (ds : List (DataW H)), ts.length = ds.length → ∀ m ∈ DataW.weightsEach P ts ds, m ∈ DataW.weightsEach P (ts ++ vt) (ds ++ gs) := by
    intro ts
    induction ts with
    | nil => intro ds hl m hm; cases ds <;> simp [DataW.weightsEach] at hm
    | cons t ts ih =>
      intro ds hl m hm
      cases ds with
      | nil => simp [DataW.weightsEach] at hm
      | cons d ds =>
        simp only [List.cons_append, DataW.weightsEach, List.mem_append] at hm ⊢
        rcases hm with hm | hm
        · exact .inl hm
        · exact .inr (ih ds (by simpa using hl) m hm)
  intro m hm
  have := List.all_eq_true.1 hw m (key ts ds hl m hm)
  simpa using this
end
end Go.Ev

/- What the laws' own helpers do, loop by loop: sizes, copies, comparisons, marks. -/
namespace Go.Pl
open Go.Ev
set_option linter.unusedVariables false

def Sm (s : ByteArray) : Prop := s.size ≤ 1000000
def Lm {α : Type} (Q : α → Prop) (xs : List α) : Prop := xs.length ≤ 1000000 ∧ ∀ x ∈ xs, Q x

theorem eqS_loop {α : Type} {E : α → Prop} (l : Nat → List α → List α → Int → Option Bool) (a : List α) (hE : ∀ x ∈ a, E x)
    (hs : ∀ k p x r, E x → a = p ++ x :: r → l (k + 1) a a p.length = l k a a ((p.length : Int) + 1)) (he : ∀ k, l (k + 1) a a a.length = some true) :
    ∀ k, a.length < k → l k a a 0 = some true := by
  have key : ∀ (r p : List α) (k : Nat), a = p ++ r → r.length < k → l k a a p.length = some true := by
    intro r
    induction r with
    | nil =>
      intro p k h hk
      obtain ⟨k, rfl⟩ : ∃ j, k = j + 1 := ⟨k - 1, by omega⟩
      rw [List.append_nil] at h
      rw [← h]; exact he k
    | cons x r ih =>
      intro p k h hk
      simp only [List.length_cons] at hk
      obtain ⟨k, rfl⟩ : ∃ j, k = j + 1 := ⟨k - 1, by omega⟩
      rw [hs k p x r (hE x (by rw [h]; simp)) h]
      have := ih (p ++ [x]) k (by rw [h]; simp) (by omega)
      rw [snoc_len] at this
      exact this
  intro k hk
  have := key a [] k (by simp) hk
  simpa using this

theorem szS_loop {α : Type} {Q R : α → Prop} (l : Nat → List α → Int → Int → Option Int)
    (he : ∀ k p left, l (k + 1) p left p.length = some left)
    (hs : ∀ x, Q x → ∀ left, -1000000000000000 ≤ left → left ≤ 1000000 → ∃ s, s ≤ 1000000 ∧ (0 ≤ s → s ≤ left ∧ R x) ∧ ∀ k p r, p.length + r.length + 1 ≤ 140737488355328 → l (k + 1) (p ++ x :: r) left p.length = if s < 0 then some (-1) else l k (p ++ x :: r) s ((p.length : Int) + 1))
    (a : List α) (k : Nat) (left : Int) (h0 : -1000000000000000 ≤ left) (h1 : left ≤ 1000000) (ha : Ls Q a) (hk : a.length < k) : ∃ s, l k a left 0 = some s ∧ s ≤ 1000000 ∧ (0 ≤ s → s ≤ left ∧ ∀ x ∈ a, R x) := by
  have key : ∀ (r p : List α) (k : Nat) (left : Int), p.length + r.length ≤ 140737488355328 → (∀ x ∈ r, Q x) → -1000000000000000 ≤ left → left ≤ 1000000 → r.length < k → ∃ s, l k (p ++ r) left p.length = some s ∧ s ≤ 1000000 ∧ (0 ≤ s → s ≤ left ∧ ∀ x ∈ r, R x) := by
    intro r
    induction r with
    | nil =>
      intro p k left _ _ _ _ hk
      obtain ⟨k, rfl⟩ : ∃ j, k = j + 1 := ⟨k - 1, by omega⟩
      rw [List.append_nil]
      exact ⟨left, he k p left, by omega, fun _ => ⟨by omega, fun x hx => by cases hx⟩⟩
    | cons x r ih =>
      intro p k left hb hq h0 h1 hk
      simp only [List.length_cons] at hk hb
      obtain ⟨k, rfl⟩ : ∃ j, k = j + 1 := ⟨k - 1, by omega⟩
      obtain ⟨s, s1, s2, s3⟩ := hs x (hq x (by simp)) left h0 h1
      rw [s3 k p r (by omega)]
      by_cases hn : s < 0
      · rw [if_pos hn]; exact ⟨-1, rfl, by omega, by omega⟩
      · rw [if_neg hn]
        obtain ⟨u, u1, u2, u3⟩ := ih (p ++ [x]) k s (by simp; omega) (fun y hy => hq y (by simp [hy])) (by omega) (by omega) (by omega)
        rw [mid_snoc, snoc_len] at u1
        refine ⟨u, u1, by omega, fun h => ⟨by have := (u3 h).1; have := (s2 (by omega)).1; omega, fun y hy => ?_⟩⟩
        rcases List.mem_cons.1 hy with rfl | hy
        · exact (s2 (by omega)).2
        · exact (u3 h).2 y hy
  have := key a [] k left (by simpa using ha.1) ha.2 h0 h1 hk
  simpa using this

theorem toS_loop {α : Type} {Z R : α → Prop} (l5 l9 : Nat → List α → Int → List α → Option (List α × List α))
    (he9 : ∀ k a (out : List α), (a.length : Int) ≤ out.length → l9 (k + 1) a out.length out = some (out.take a.length, out.drop a.length))
    (hs9 : ∀ k a (i : Nat) (out : List α), i < out.length → out.length ≤ 140737488355328 → ∃ z, Z z ∧ l9 (k + 1) a i out = l9 k a ((i : Int) + 1) (out.set i z))
    (he5 : ∀ k a (out : List α), l5 (k + 1) a a.length out = l9 NN a a.length out)
    (hs5 : ∀ k (p r : List α) x (q s : List α) y, R x → p.length = q.length → p.length + r.length + 1 ≤ 140737488355328 → p.length + s.length + 1 ≤ 140737488355328 → l5 (k + 1) (p ++ x :: r) p.length (q ++ y :: s) = l5 k (p ++ x :: r) ((p.length : Int) + 1) (q ++ x :: s))
    (a : List α) (out : List α) (k : Nat) (ha : ∀ x ∈ a, R x) (h : a.length ≤ out.length) (hb : out.length ≤ 140737488355328) (hk : a.length < k) :
    ∃ fil, l5 k a 0 out = some (a, fil) ∧ fil.length = out.length - a.length ∧ ∀ x ∈ fil, Z x := by
  have hN : 140737488355328 < NN := NN_lt (by omega)
  have k9 : ∀ (d : Nat) (k : Nat) (i : Nat) (out : List α), out.length ≤ 140737488355328 → i + d = out.length → d < k → a.length ≤ i → out.take a.length = a → (∀ j x, a.length ≤ j → j < i → out[j]? = some x → Z x) →
      ∃ fil, l9 k a i out = some (a, fil) ∧ fil.length = out.length - a.length ∧ ∀ x ∈ fil, Z x := by
    intro d
    induction d with
    | zero =>
      intro k i out hb hi hk ha ht hz
      obtain ⟨k, rfl⟩ : ∃ j, k = j + 1 := ⟨k - 1, by omega⟩
      obtain rfl : i = out.length := by omega
      refine ⟨_, by rw [he9 k a out (by omega), ht], by simp, fun x hx => ?_⟩
      obtain ⟨m, hm⟩ := List.mem_iff_getElem?.1 hx
      rw [List.getElem?_drop] at hm
      exact hz _ x (by omega) (List.getElem?_eq_some_iff.1 hm).1 hm
    | succ d ih =>
      intro k i out hb hi hk ha ht hz
      obtain ⟨k, rfl⟩ : ∃ j, k = j + 1 := ⟨k - 1, by omega⟩
      obtain ⟨z, z1, z2⟩ := hs9 k a i out (by omega) hb
      rw [z2]
      obtain ⟨fil, f1, f2, f3⟩ := ih k (i + 1) (out.set i z) (by simpa using hb) (by simp; omega) (by omega) (by omega) (by rw [List.take_set_of_le ha]; exact ht) (fun j x h1 h2 h3 => by
        by_cases hj : i = j
        · subst hj
          rw [List.getElem?_set_self (by omega)] at h3
          cases h3; exact z1
        · rw [List.getElem?_set_ne hj] at h3
          exact hz j x h1 (by omega) h3)
      exact ⟨fil, f1, by simpa using f2, f3⟩
  have k5 : ∀ (r p : List α) (s : List α) (k : Nat), p ++ r = a → p.length + s.length ≤ 140737488355328 → r.length ≤ s.length → r.length < k → (∀ x ∈ r, R x) →
      ∃ fil, l5 k a p.length (p ++ s) = some (a, fil) ∧ fil.length = p.length + s.length - a.length ∧ ∀ x ∈ fil, Z x := by
    intro r
    induction r with
    | nil =>
      intro p s k h3 h4 h5 hk _
      obtain ⟨k, rfl⟩ : ∃ j, k = j + 1 := ⟨k - 1, by omega⟩
      rw [List.append_nil] at h3
      subst h3
      rw [he5]
      obtain ⟨fil, f1, f2, f3⟩ := k9 s.length NN p.length (p ++ s) (by simp; omega) (by simp) (by omega) (by omega) (by rw [List.take_left' rfl]) (fun j x h1 h2 => by omega)
      exact ⟨fil, f1, by rw [f2]; simp, f3⟩
    | cons x r ih =>
      intro p s k h3 h4 h5 hk hR
      simp only [List.length_cons] at h5 hk
      obtain ⟨k, rfl⟩ : ∃ j, k = j + 1 := ⟨k - 1, by omega⟩
      cases s with
      | nil => simp at h5
      | cons y s =>
        have hs := hs5 k p r x p s y (hR x (by simp)) rfl (by simp only [List.length_cons] at h4 h5; omega) (by simp only [List.length_cons] at h4; omega)
        rw [h3] at hs
        rw [hs]
        obtain ⟨fil, f1, f2, f3⟩ := ih (p ++ [x]) s k (by rw [← h3]; simp) (by simp only [List.length_append, List.length_cons, List.length_nil] at h4 ⊢; omega) (by simp only [List.length_cons] at h5; omega) (by omega) (fun z hz => hR z (by simp [hz]))
        rw [mid_snoc, snoc_len] at f1
        exact ⟨fil, f1, by rw [f2]; simp only [List.length_append, List.length_cons, List.length_nil]; omega, f3⟩
  obtain ⟨fil, f1, f2, f3⟩ := k5 a [] out k rfl (by simpa using hb) h hk ha
  exact ⟨fil, by simpa using f1, by simpa using f2, f3⟩

/-- Rows that are marked, and looked at afterwards. -/
theorem mark_held {α : Type} {Q : α → Prop} (l : Nat → List α → Int → Int → Option (Int × List α)) (lh : Nat → List α → Int → Int → Option Int) (C : Nat) (K : Int)
    (he : ∀ k p n, l (k + 1) p n p.length = some (n, p)) (heh : ∀ k p n, lh (k + 1) p n p.length = some n)
    (hs : ∀ x, Q x → ∀ n, 0 ≤ n → n ≤ K → ∃ x' n', n ≤ n' ∧ n' ≤ n + C ∧ (∀ k p r, p.length + r.length + 1 ≤ 1000000 → l (k + 1) (p ++ x :: r) n p.length = l k (p ++ x' :: r) n' ((p.length : Int) + 1))
      ∧ (∀ k p r, p.length + r.length + 1 ≤ 1000000 → lh (k + 1) (p ++ x' :: r) n p.length = lh k (p ++ x' :: r) n' ((p.length : Int) + 1)))
    (a : List α) (ha : Lm Q a) (n : Int) (h0 : 0 ≤ n) (h1 : n + (1000000 * C : Nat) ≤ K) (k kh : Nat) (hk : 1000000 < k) (hkh : 1000000 < kh) :
    ∃ n' a', l k a n 0 = some (n', a') ∧ lh kh a' n 0 = some n' ∧ n ≤ n' ∧ n' ≤ n + (1000000 * C : Nat) := by
  have key : ∀ (r p : List α) (k : Nat) (n : Int), p.length + r.length ≤ 1000000 → (∀ x ∈ r, Q x) → 0 ≤ n → n + ((r.length * C : Nat) : Int) ≤ K → r.length < k →
      ∃ n' r', l k (p ++ r) n p.length = some (n', p ++ r') ∧ r'.length = r.length ∧ n ≤ n' ∧ n' ≤ n + ((r.length * C : Nat) : Int) ∧ (∀ (q : List α) kh, q.length = p.length → r.length < kh → lh kh (q ++ r') n q.length = some n') := by
    intro r
    induction r with
    | nil =>
      intro p k n _ _ h0 _ hk
      obtain ⟨k, rfl⟩ : ∃ j, k = j + 1 := ⟨k - 1, by omega⟩
      refine ⟨n, [], by rw [List.append_nil]; exact he k p n, rfl, by omega, by simp, fun q kh _ hkh => ?_⟩
      obtain ⟨kh, rfl⟩ : ∃ j, kh = j + 1 := ⟨kh - 1, by simp at hkh; omega⟩
      rw [List.append_nil]; exact heh kh q n
    | cons x r ih =>
      intro p k n hb hq h0 hK hk
      simp only [List.length_cons] at hk hb hK
      obtain ⟨k, rfl⟩ : ∃ j, k = j + 1 := ⟨k - 1, by omega⟩
      have hm : (r.length + 1) * C = r.length * C + C := by rw [Nat.add_mul, Nat.one_mul]
      rw [hm] at hK
      obtain ⟨x', n1, a1, a2, a3, a4⟩ := hs x (hq x (by simp)) n h0 (by omega)
      rw [a3 k p r (by omega)]
      obtain ⟨n', r', b1, b2, b3, b4, b5⟩ := ih (p ++ [x']) k n1 (by simp; omega) (fun y hy => hq y (by simp [hy])) (by omega) (by omega) (by omega)
      rw [mid_snoc, snoc_len] at b1
      refine ⟨n', x' :: r', by rw [b1]; simp, by simp [b2], by omega, by simp only [List.length_cons]; rw [hm]; omega, fun q kh hq' hkh => ?_⟩
      simp only [List.length_cons] at hkh
      obtain ⟨kh, rfl⟩ : ∃ j, kh = j + 1 := ⟨kh - 1, by omega⟩
      rw [a4 kh q r' (by omega)]
      have := b5 (q ++ [x']) kh (by simp [hq']) (by omega)
      rw [mid_snoc, snoc_len] at this
      exact this
  have hle : ((a.length * C : Nat) : Int) ≤ ((1000000 * C : Nat) : Int) := Int.ofNat_le.2 (Nat.mul_le_mul_right _ ha.1)
  obtain ⟨n', r', b1, b2, b3, b4, b5⟩ := key a [] k n (by simpa using ha.1) ha.2 h0 (by omega) (by have := ha.1; omega)
  have := b5 [] kh rfl (by have := ha.1; omega)
  exact ⟨n', r', by simpa using b1, by simpa using this, b3, by omega⟩
theorem mem_mid {α : Type} {a p r : List α} {x : α} (h : a = p ++ x :: r) : x ∈ a := by rw [h]; simp
end Go.Pl

/- Loops of a few sorts, and what they come to. -/
namespace Go.Pl
open Go.Ev
set_option linter.unusedVariables false

/-- false at the first element that fails -/
theorem all_loop {α : Type} {E : α → Prop} (P : α → Bool) (fin : List α → Option Bool) (l : Nat → List α → Int → Option Bool)
    (hn : ∀ k p, l (k + 1) p p.length = fin p)
    (hc : ∀ k p a r, E a → (0 : Int) ≤ (p.length : Int) → (p.length : Int) < ((p ++ a :: r).length : Int) → IntKind.i64.wrap ((p.length : Int) + 1) = (p.length : Int) + 1 → l (k + 1) (p ++ a :: r) p.length = if P a = true then l k (p ++ a :: r) ((p.length : Int) + 1) else some false)
    (xs : List α) (hE : ∀ x ∈ xs, E x) (hB : xs.length ≤ 140737488355328) (k : Nat) (hk : xs.length < k) : l k xs 0 = if xs.all P = true then fin xs else some false := by
  have key : ∀ (r p : List α) (k : Nat), p.length + r.length ≤ 140737488355328 → (∀ x ∈ r, E x) → r.length < k → l k (p ++ r) p.length = if r.all P = true then fin (p ++ r) else some false := by
    intro r
    induction r with
    | nil =>
      intro p k _ _ hk
      obtain ⟨k, rfl⟩ : ∃ j, k = j + 1 := ⟨k - 1, by omega⟩
      rw [List.append_nil, hn]; simp
    | cons a r ih =>
      intro p k hb he hk
      simp only [List.length_cons] at hk hb
      obtain ⟨k, rfl⟩ : ∃ j, k = j + 1 := ⟨k - 1, by omega⟩
      have hm := mid_len p r a
      rw [hc k p a r (he a (by simp)) (by omega) (by omega) (w64 (by omega) (by omega))]
      have := ih (p ++ [a]) k (by simp; omega) (fun y hy => he y (by simp [hy])) (by omega)
      rw [mid_snoc, snoc_len] at this
      rw [this]
      cases h : P a <;> simp [h]
  have := key xs [] k (by simpa using hB) hE hk
  simpa using this
/-- the same over a string's bytes -/
theorem all_loop_str (P : UInt8 → Bool) (fin : ByteArray → Option Bool) (l : Nat → ByteArray → Int → Option Bool)
    (hn : ∀ k p, l (k + 1) (ob p) p.length = fin (ob p))
    (hc : ∀ k p a r, (0 : Int) ≤ (p.length : Int) → (p.length : Int) < ((ob (p ++ a :: r)).size : Int) → IntKind.i64.wrap ((p.length : Int) + 1) = (p.length : Int) + 1 → l (k + 1) (ob (p ++ a :: r)) p.length = if P a = true then l k (ob (p ++ a :: r)) ((p.length : Int) + 1) else some false)
    (s : ByteArray) (hB : s.size ≤ 140737488355328) (k : Nat) (hk : s.size < k) : l k s 0 = if (bl s).all P = true then fin s else some false := by
  have := all_loop (E := fun _ => True) P (fun x => fin (ob x)) (fun k x i => l k (ob x) i) hn (fun k p a r _ h1 h2 h3 => hc k p a r h1 (by rw [ob_size]; exact h2) h3) (bl s) (fun _ _ => trivial) (by rw [bl_length]; exact hB) k (by rw [bl_length]; exact hk)
  rw [ob_bl] at this
  exact this

def foldi {α σ : Type} (f : Nat → σ → α → σ) : Nat → σ → List α → σ
  | _, st, [] => st
  | i, st, a :: r => foldi f (i + 1) (f i st a) r
theorem foldi_foldl {α σ : Type} (f : σ → α → σ) : ∀ (xs : List α) (i : Nat) (st : σ), foldi (fun _ => f) i st xs = xs.foldl f st := by
  intro xs
  induction xs with
  | nil => intro i st; rfl
  | cons a r ih => intro i st; exact ih _ _
theorem foldi_append {α σ : Type} (f : Nat → σ → α → σ) : ∀ (xs ys : List α) (i : Nat) (st : σ), foldi f i st (xs ++ ys) = foldi f (i + xs.length) (foldi f i st xs) ys := by
  intro xs
  induction xs with
  | nil => intro ys i st; rfl
  | cons a r ih => intro ys i st; simp only [List.cons_append, foldi, List.length_cons]; rw [ih, show i + 1 + r.length = i + (r.length + 1) by omega]
/-- a state that goes from element to element; I: what holds of it behind a part of the row -/
theorem fold_loop {α σ ρ : Type} {E : α → Prop} (I : List α → σ → Prop) (f : Nat → σ → α → σ) (fin : List α → σ → Option ρ) (l : Nat → List α → Int → σ → Option ρ)
    (hn : ∀ k p st, I p st → l (k + 1) p p.length st = fin p st)
    (hc : ∀ k p a r st, E a → I p st → (0 : Int) ≤ (p.length : Int) → (p.length : Int) < ((p ++ a :: r).length : Int) → p.length < 140737488355328 → IntKind.i64.wrap ((p.length : Int) + 1) = (p.length : Int) + 1 →
      I (p ++ [a]) (f p.length st a) ∧ l (k + 1) (p ++ a :: r) p.length st = l k (p ++ a :: r) ((p.length : Int) + 1) (f p.length st a))
    (xs : List α) (st : σ) (hE : ∀ x ∈ xs, E x) (hI : I [] st) (hB : xs.length ≤ 140737488355328) (k : Nat) (hk : xs.length < k) :
    I xs (foldi f 0 st xs) ∧ l k xs 0 st = fin xs (foldi f 0 st xs) := by
  have key : ∀ (r p : List α) (k : Nat) (st : σ), p.length + r.length ≤ 140737488355328 → (∀ x ∈ r, E x) → I p st → r.length < k → I (p ++ r) (foldi f p.length st r) ∧ l k (p ++ r) p.length st = fin (p ++ r) (foldi f p.length st r) := by
    intro r
    induction r with
    | nil =>
      intro p k st _ _ hI hk
      obtain ⟨k, rfl⟩ : ∃ j, k = j + 1 := ⟨k - 1, by omega⟩
      rw [List.append_nil]; exact ⟨hI, hn k p st hI⟩
    | cons a r ih =>
      intro p k st hb he hI hk
      simp only [List.length_cons] at hk hb
      obtain ⟨k, rfl⟩ : ∃ j, k = j + 1 := ⟨k - 1, by omega⟩
      have hm := mid_len p r a
      obtain ⟨h1, h2⟩ := hc k p a r st (he a (by simp)) hI (by omega) (by omega) (by omega) (w64 (by omega) (by omega))
      have := ih (p ++ [a]) k (f p.length st a) (by simp; omega) (fun y hy => he y (by simp [hy])) h1 (by omega)
      rw [mid_snoc, snoc_len] at this
      rw [h2]
      simpa [foldi] using this
  have := key xs [] k st (by simpa using hB) hE hI hk
  simpa using this
/-- the same over a string's bytes -/
theorem fold_loop_str {σ ρ : Type} (I : List UInt8 → σ → Prop) (f : Nat → σ → UInt8 → σ) (fin : ByteArray → σ → Option ρ) (l : Nat → ByteArray → Int → σ → Option ρ)
    (hn : ∀ k p st, I p st → l (k + 1) (ob p) p.length st = fin (ob p) st)
    (hc : ∀ k p a r st, I p st → (0 : Int) ≤ (p.length : Int) → (p.length : Int) < ((ob (p ++ a :: r)).size : Int) → p.length < 140737488355328 → IntKind.i64.wrap ((p.length : Int) + 1) = (p.length : Int) + 1 →
      I (p ++ [a]) (f p.length st a) ∧ l (k + 1) (ob (p ++ a :: r)) p.length st = l k (ob (p ++ a :: r)) ((p.length : Int) + 1) (f p.length st a))
    (s : ByteArray) (st : σ) (hI : I [] st) (hB : s.size ≤ 140737488355328) (k : Nat) (hk : s.size < k) :
    I (bl s) (foldi f 0 st (bl s)) ∧ l k s 0 st = fin s (foldi f 0 st (bl s)) := by
  have := fold_loop (E := fun _ => True) I f (fun x => fin (ob x)) (fun k x i st => l k (ob x) i st) hn (fun k p a r st _ hI h1 h2 h3 h4 => hc k p a r st hI h1 (by rw [ob_size]; exact h2) h3 h4) (bl s) st (fun _ _ => trivial) hI (by rw [bl_length]; exact hB) k (by rw [bl_length]; exact hk)
  rw [ob_bl] at this
  exact this
/-- fold_loop, of one row: the rounds may look at it as a whole -/
theorem fold_fix {α σ ρ : Type} {E : α → Prop} (I : List α → σ → Prop) (f : Nat → σ → α → σ) (fin : σ → Option ρ) (l : Nat → Int → σ → Option ρ) (xs : List α)
    (hn : ∀ k st, I xs st → l (k + 1) xs.length st = fin st)
    (hc : ∀ k p a r st, xs = p ++ a :: r → E a → I p st → (0 : Int) ≤ (p.length : Int) → (p.length : Int) < (xs.length : Int) → p.length < 140737488355328 → IntKind.i64.wrap ((p.length : Int) + 1) = (p.length : Int) + 1 → (∀ z, xs.getD p.length z = a) →
      I (p ++ [a]) (f p.length st a) ∧ l (k + 1) p.length st = l k ((p.length : Int) + 1) (f p.length st a))
    (st : σ) (hE : ∀ x ∈ xs, E x) (hI : I [] st) (hB : xs.length ≤ 140737488355328) (k : Nat) (hk : xs.length < k) :
    I xs (foldi f 0 st xs) ∧ l k 0 st = fin (foldi f 0 st xs) := by
  have key : ∀ (r p : List α) (k : Nat) (st : σ), xs = p ++ r → (∀ x ∈ r, E x) → I p st → r.length < k → I xs (foldi f p.length st r) ∧ l k p.length st = fin (foldi f p.length st r) := by
    intro r
    induction r with
    | nil =>
      intro p k st hx _ hI hk
      obtain ⟨k, rfl⟩ : ∃ j, k = j + 1 := ⟨k - 1, by omega⟩
      rw [List.append_nil] at hx
      subst hx; exact ⟨hI, hn k st hI⟩
    | cons a r ih =>
      intro p k st hx he hI hk
      simp only [List.length_cons] at hk
      obtain ⟨k, rfl⟩ : ∃ j, k = j + 1 := ⟨k - 1, by omega⟩
      have hm := mid_len p r a
      have hxl : (xs.length : Int) = ((p ++ a :: r).length : Int) := by rw [hx]
      obtain ⟨h1, h2⟩ := hc k p a r st hx (he a (by simp)) hI (by omega) (by omega) (by omega) (w64 (by omega) (by omega)) (fun z => by rw [hx, mid_getn])
      have := ih (p ++ [a]) k (f p.length st a) (by rw [hx]; simp) (fun y hy => he y (by simp [hy])) h1 (by omega)
      rw [snoc_len] at this
      rw [h2]
      simpa [foldi] using this
  have := key xs [] k st (by simp) hE hI hk
  simpa using this
/-- the first element that is looked for, and its number -/
def firstOf {α : Type} (P : α → Bool) : Nat → List α → Option (Nat × α)
  | _, [] => none
  | i, a :: r => if P a = true then some (i, a) else firstOf P (i + 1) r
theorem find_loop {α ρ : Type} {E : α → Prop} (P : α → Bool) (hit : Nat → α → Option ρ) (fin : List α → Option ρ) (l : Nat → List α → Int → Option ρ)
    (hn : ∀ k p, l (k + 1) p p.length = fin p)
    (hc : ∀ k p a r, E a → (0 : Int) ≤ (p.length : Int) → (p.length : Int) < ((p ++ a :: r).length : Int) → p.length < 140737488355328 → IntKind.i64.wrap ((p.length : Int) + 1) = (p.length : Int) + 1 → l (k + 1) (p ++ a :: r) p.length = if P a = true then hit p.length a else l k (p ++ a :: r) ((p.length : Int) + 1))
    (xs : List α) (hE : ∀ x ∈ xs, E x) (hB : xs.length ≤ 140737488355328) (k : Nat) (hk : xs.length < k) : l k xs 0 = (firstOf P 0 xs).elim (fin xs) (fun x => hit x.1 x.2) := by
  have key : ∀ (r p : List α) (k : Nat), p.length + r.length ≤ 140737488355328 → (∀ x ∈ r, E x) → r.length < k → l k (p ++ r) p.length = (firstOf P p.length r).elim (fin (p ++ r)) (fun x => hit x.1 x.2) := by
    intro r
    induction r with
    | nil =>
      intro p k _ _ hk
      obtain ⟨k, rfl⟩ : ∃ j, k = j + 1 := ⟨k - 1, by omega⟩
      rw [List.append_nil, hn]; rfl
    | cons a r ih =>
      intro p k hb he hk
      simp only [List.length_cons] at hk hb
      obtain ⟨k, rfl⟩ : ∃ j, k = j + 1 := ⟨k - 1, by omega⟩
      have hm := mid_len p r a
      rw [hc k p a r (he a (by simp)) (by omega) (by omega) (by omega) (w64 (by omega) (by omega))]
      have := ih (p ++ [a]) k (by simp; omega) (fun y hy => he y (by simp [hy])) (by omega)
      rw [mid_snoc, snoc_len] at this
      rw [this]
      cases h : P a <;> simp [h, firstOf]
  have := key xs [] k (by simpa using hB) hE hk
  simpa using this
end Go.Pl

namespace Go.Pl
open Go.Ev
set_option linter.unusedVariables false
set_option linter.unusedSimpArgs false
def inB (n lo hi : Int) : Bool := decide (lo ≤ n) && decide (n ≤ hi)
theorem inB_iff {n lo hi : Int} : inB n lo hi = true ↔ lo ≤ n ∧ n ≤ hi := by unfold inB; simp
theorem impl_within_f (n lo hi : Int) : impl_within.f n lo hi = some (inB n lo hi) := by
  unfold impl_within.f impl_within.fn impl_within.top inB
  by_cases h : lo ≤ n <;> simp [h]
theorem spec_l01In_f (n lo hi : Int) : spec_l01In.f n lo hi = some (inB n lo hi) := by
  unfold spec_l01In.f spec_l01In.fn spec_l01In.top inB
  by_cases h : lo ≤ n <;> simp [h]
/-- a letter -/
def letB (c : UInt8) : Bool := !(decide ((c.toNat : Int) < 97)) && !(decide (122 < (c.toNat : Int)))
def wordB (s : ByteArray) : Bool := decide (1 ≤ s.size) && decide (s.size ≤ 16) && (bl s).all letB
theorem wordB_size {s : ByteArray} (h : wordB s = true) : 1 ≤ s.size ∧ s.size ≤ 16 := by
  unfold wordB at h; simp at h; exact h.1
theorem impl_IsWord_loop (s : ByteArray) (h : s.size ≤ 140737488355328) : impl_IsWord.l4 NN NN s 0 = if (bl s).all letB = true then some true else some false := by
  refine all_loop_str letB (fun s => some true) (fun k s i => impl_IsWord.l4 NN k s i) ?_ ?_ s h NN (NN_lt (by omega))
  · intro k p
    show impl_IsWord.g4 _ (ob p) p.length = _
    simp [impl_IsWord.g4, ob_size, spec_l01In_f]
  · intro k p a r c0 c1 cw
    show impl_IsWord.g4 (impl_IsWord.l4 NN k) (ob (p ++ a :: r)) p.length = _
    simp only [impl_IsWord.g4, c0, c1, cw, and_self, and_true, true_and, decide_true, decide_false, if_true, if_false, mid_get, mid_set, mid_getn, mid_setn, bt_mid, Option.bind_some, Bool.not_true, Bool.not_false, Bool.false_eq_true, Bool.true_eq_false, beq_self_eq_true, bne_self_eq_false, Int.toNat_natCast]
    unfold letB
    by_cases h1 : (a.toNat : Int) < 97 <;> by_cases h2 : (122 : Int) < (a.toNat : Int) <;> simp [h1, h2]
theorem spec_IsWord_loop (s : ByteArray) (h : s.size ≤ 140737488355328) : spec_IsWord.l2 NN NN s 0 = if (bl s).all letB = true then some (inB s.size 1 16) else some false := by
  refine all_loop_str letB (fun s => some (inB s.size 1 16)) (fun k s i => spec_IsWord.l2 NN k s i) ?_ ?_ s h NN (NN_lt (by omega))
  · intro k p
    show spec_IsWord.g2 _ (ob p) p.length = _
    simp [spec_IsWord.g2, ob_size, spec_l01In_f]
  · intro k p a r c0 c1 cw
    show spec_IsWord.g2 (spec_IsWord.l2 NN k) (ob (p ++ a :: r)) p.length = _
    simp only [spec_IsWord.g2, c0, c1, cw, and_self, and_true, true_and, decide_true, decide_false, if_true, if_false, mid_get, mid_set, mid_getn, mid_setn, bt_mid, Option.bind_some, Bool.not_true, Bool.not_false, Bool.false_eq_true, Bool.true_eq_false, beq_self_eq_true, bne_self_eq_false, Int.toNat_natCast]
    unfold letB
    by_cases h1 : (a.toNat : Int) < 97 <;> by_cases h2 : (122 : Int) < (a.toNat : Int) <;> simp [h1, h2]
theorem impl_IsWord_f (s : ByteArray) (h : s.size ≤ 140737488355328) : impl_IsWord.f s = some (wordB s) := by
  unfold impl_IsWord.f impl_IsWord.fn impl_IsWord.top
  rw [impl_IsWord_loop s h]
  unfold wordB
  by_cases h1 : (s.size : Int) < 1
  · have : ¬ 1 ≤ s.size := by omega
    simp [h1, this]
  · have e1 : 1 ≤ s.size := by omega
    by_cases h2 : (16 : Int) < s.size
    · have : ¬ s.size ≤ 16 := by omega
      simp [h1, h2, this]
    · have : s.size ≤ 16 := by omega
      cases h3 : (bl s).all letB <;> simp [h1, h2, this, h3, e1]
theorem spec_IsWord_f (s : ByteArray) (h : s.size ≤ 140737488355328) : spec_IsWord.f s = some (wordB s) := by
  unfold spec_IsWord.f spec_IsWord.fn spec_IsWord.top
  rw [spec_IsWord_loop s h]
  unfold wordB inB
  have e1 : decide ((1 : Int) ≤ s.size) = decide (1 ≤ s.size) := by congr 1; simp; omega
  have e2 : decide ((s.size : Int) ≤ 16) = decide (s.size ≤ 16) := by congr 1; simp; omega
  rw [e1, e2]
  cases h3 : (bl s).all letB <;> simp
end Go.Pl

namespace Go.Pl
open Go.Ev
set_option linter.unusedVariables false
set_option linter.unusedSimpArgs false
def PlRatio (x : Int × Int) : Prop := Rg .i64 x.1 ∧ Rg .i64 x.2
def OkRatio (x : Int × Int) : Prop := Rg .i64 x.1 ∧ Rg .i64 x.2
def PlArticle (x : ByteArray × Int × Int × Int × Int × Int × Int × Int × Int) : Prop := Sz x.1 ∧ Rg .i64 x.2.1 ∧ Rg .i64 x.2.2.1 ∧ Rg .i64 x.2.2.2.1 ∧ Rg .i64 x.2.2.2.2.1 ∧ Rg .i64 x.2.2.2.2.2.1 ∧ Rg .i64 x.2.2.2.2.2.2.1 ∧ Rg .i64 x.2.2.2.2.2.2.2.1 ∧ Rg .i64 x.2.2.2.2.2.2.2.2
def OkArticle (x : ByteArray × Int × Int × Int × Int × Int × Int × Int × Int) : Prop := Sm x.1 ∧ Rg .i64 x.2.1 ∧ Rg .i64 x.2.2.1 ∧ Rg .i64 x.2.2.2.1 ∧ Rg .i64 x.2.2.2.2.1 ∧ Rg .i64 x.2.2.2.2.2.1 ∧ Rg .i64 x.2.2.2.2.2.2.1 ∧ Rg .i64 x.2.2.2.2.2.2.2.1 ∧ Rg .i64 x.2.2.2.2.2.2.2.2
def PlLayer (x : Int × Int × Int) : Prop := Rg .i64 x.1 ∧ Rg .i64 x.2.1 ∧ Rg .i64 x.2.2
def OkLayer (x : Int × Int × Int) : Prop := Rg .i64 x.1 ∧ Rg .i64 x.2.1 ∧ Rg .i64 x.2.2
def PlShot (x : Int × Int × Int × Int) : Prop := Rg .i64 x.1 ∧ Rg .i64 x.2.1 ∧ Rg .i64 x.2.2.1 ∧ Rg .i64 x.2.2.2
def OkShot (x : Int × Int × Int × Int) : Prop := Rg .i64 x.1 ∧ Rg .i64 x.2.1 ∧ Rg .i64 x.2.2.1 ∧ Rg .i64 x.2.2.2
def PlBar (x : Int × Int) : Prop := Rg .i64 x.1 ∧ Rg .i64 x.2
def OkBar (x : Int × Int) : Prop := Rg .i64 x.1 ∧ Rg .i64 x.2
def PlCue (x : Int × Int × ByteArray × Int) : Prop := Rg .i64 x.1 ∧ Rg .i64 x.2.1 ∧ Sz x.2.2.1 ∧ Rg .i64 x.2.2.2
def OkCue (x : Int × Int × ByteArray × Int) : Prop := Rg .i64 x.1 ∧ Rg .i64 x.2.1 ∧ Sm x.2.2.1 ∧ Rg .i64 x.2.2.2
def PlShow (x : (List (Int × Int)) × (List (ByteArray × Int × Int × Int × Int × Int × Int × Int × Int)) × (List (Int × Int × ByteArray × Int))) : Prop := Ls PlBar x.1 ∧ Ls PlArticle x.2.1 ∧ Ls PlCue x.2.2
def OkShow (x : (List (Int × Int)) × (List (ByteArray × Int × Int × Int × Int × Int × Int × Int × Int)) × (List (Int × Int × ByteArray × Int))) : Prop := Lm OkBar x.1 ∧ Lm OkArticle x.2.1 ∧ Lm OkCue x.2.2
def PlFuse (x : Int × Int × Int × Int) : Prop := Rg .i64 x.1 ∧ Rg .i64 x.2.1 ∧ Rg .i64 x.2.2.1 ∧ Rg .i64 x.2.2.2
def OkFuse (x : Int × Int × Int × Int) : Prop := Rg .i64 x.1 ∧ Rg .i64 x.2.1 ∧ Rg .i64 x.2.2.1 ∧ Rg .i64 x.2.2.2
def PlLink (x : Int × Int) : Prop := Rg .i64 x.1 ∧ Rg .i64 x.2
def OkLink (x : Int × Int) : Prop := Rg .i64 x.1 ∧ Rg .i64 x.2
def PlModule (x : Int × Int) : Prop := Rg .i64 x.1 ∧ Rg .i64 x.2
def OkModule (x : Int × Int) : Prop := Rg .i64 x.1 ∧ Rg .i64 x.2
def PlWire (x : Int × Int × Int) : Prop := Rg .i64 x.1 ∧ Rg .i64 x.2.1 ∧ Rg .i64 x.2.2
def OkWire (x : Int × Int × Int) : Prop := Rg .i64 x.1 ∧ Rg .i64 x.2.1 ∧ Rg .i64 x.2.2
def PlCircuit (x : Int × List Int) : Prop := Rg .i64 x.1 ∧ Ls (Rg .i64) x.2
def OkCircuit (x : Int × List Int) : Prop := Rg .i64 x.1 ∧ Lm (Rg .i64) x.2
def PlArea (x : Int × Int × Int × Int × Int) : Prop := Rg .i64 x.1 ∧ Rg .i64 x.2.1 ∧ Rg .i64 x.2.2.1 ∧ Rg .i64 x.2.2.2.1 ∧ Rg .i64 x.2.2.2.2
def OkArea (x : Int × Int × Int × Int × Int) : Prop := Rg .i64 x.1 ∧ Rg .i64 x.2.1 ∧ Rg .i64 x.2.2.1 ∧ Rg .i64 x.2.2.2.1 ∧ Rg .i64 x.2.2.2.2
def PlDemand (x : Int × Int × Int) : Prop := Rg .i64 x.1 ∧ Rg .i64 x.2.1 ∧ Rg .i64 x.2.2
def OkDemand (x : Int × Int × Int) : Prop := Rg .i64 x.1 ∧ Rg .i64 x.2.1 ∧ Rg .i64 x.2.2
def PlRack (x : Int × Int × List Int × List ByteArray) : Prop := Rg .i64 x.1 ∧ Rg .i64 x.2.1 ∧ Ls (Rg .i64) x.2.2.1 ∧ Ls Sz x.2.2.2
def OkRack (x : Int × Int × List Int × List ByteArray) : Prop := Rg .i64 x.1 ∧ Rg .i64 x.2.1 ∧ Lm (Rg .i64) x.2.2.1 ∧ Lm Sm x.2.2.2
def PlField (x : (List (Int × Int × Int)) × (List (Int × Int × Int × Int × Int)) × List Int × List Int × List Int × Int) : Prop := Ls PlDemand x.1 ∧ Ls PlArea x.2.1 ∧ Ls (Rg .i64) x.2.2.1 ∧ Ls (Rg .i64) x.2.2.2.1 ∧ Ls (Rg .i64) x.2.2.2.2.1 ∧ Rg .i64 x.2.2.2.2.2
def OkField (x : (List (Int × Int × Int)) × (List (Int × Int × Int × Int × Int)) × List Int × List Int × List Int × Int) : Prop := Lm OkDemand x.1 ∧ Lm OkArea x.2.1 ∧ Lm (Rg .i64) x.2.2.1 ∧ Lm (Rg .i64) x.2.2.2.1 ∧ Lm (Rg .i64) x.2.2.2.2.1 ∧ Rg .i64 x.2.2.2.2.2
def PlMove (x : Int × ByteArray × Int) : Prop := Rg .i64 x.1 ∧ Sz x.2.1 ∧ Rg .i64 x.2.2
def OkMove (x : Int × ByteArray × Int) : Prop := Rg .i64 x.1 ∧ Sm x.2.1 ∧ Rg .i64 x.2.2
def PlController (x : Bool × Bool × Bool × Bool × Bool × Int) : Prop := True ∧ True ∧ True ∧ True ∧ True ∧ Rg .i64 x.2.2.2.2.2
def OkController (x : Bool × Bool × Bool × Bool × Bool × Int) : Prop := True ∧ True ∧ True ∧ True ∧ True ∧ Rg .i64 x.2.2.2.2.2
def PlSignal (x : Int × Int) : Prop := Rg .i64 x.1 ∧ Rg .i64 x.2
def OkSignal (x : Int × Int) : Prop := Rg .i64 x.1 ∧ Rg .i64 x.2
def PlTry (x : Int × Int × Bool) : Prop := Rg .i64 x.1 ∧ Rg .i64 x.2.1 ∧ True
def OkTry (x : Int × Int × Bool) : Prop := Rg .i64 x.1 ∧ Rg .i64 x.2.1 ∧ True
def PlMagazine (x : Int × List Int) : Prop := Rg .i64 x.1 ∧ Ls (Rg .i64) x.2
def OkMagazine (x : Int × List Int) : Prop := Rg .i64 x.1 ∧ Lm (Rg .i64) x.2
def PlDepot (x : Int × Int × Int) : Prop := Rg .i64 x.1 ∧ Rg .i64 x.2.1 ∧ Rg .i64 x.2.2
def OkDepot (x : Int × Int × Int) : Prop := Rg .i64 x.1 ∧ Rg .i64 x.2.1 ∧ Rg .i64 x.2.2
def PlBox (x : Int × Int) : Prop := Rg .i64 x.1 ∧ Rg .i64 x.2
def OkBox (x : Int × Int) : Prop := Rg .i64 x.1 ∧ Rg .i64 x.2
def PlLine (x : ByteArray × Int) : Prop := Sz x.1 ∧ Rg .i64 x.2
def OkLine (x : ByteArray × Int) : Prop := Sm x.1 ∧ Rg .i64 x.2
def PlPaper (x : ByteArray × Int × (List (ByteArray × Int))) : Prop := Sz x.1 ∧ Rg .i64 x.2.1 ∧ Ls PlLine x.2.2
def OkPaper (x : ByteArray × Int × (List (ByteArray × Int))) : Prop := Sm x.1 ∧ Rg .i64 x.2.1 ∧ Lm OkLine x.2.2
def PlPermit (x : Int × Int × Int × Int × List Int × Int) : Prop := Rg .i64 x.1 ∧ Rg .i64 x.2.1 ∧ Rg .i64 x.2.2.1 ∧ Rg .i64 x.2.2.2.1 ∧ Ls (Rg .i64) x.2.2.2.2.1 ∧ Rg .i64 x.2.2.2.2.2
def OkPermit (x : Int × Int × Int × Int × List Int × Int) : Prop := Rg .i64 x.1 ∧ Rg .i64 x.2.1 ∧ Rg .i64 x.2.2.1 ∧ Rg .i64 x.2.2.2.1 ∧ Lm (Rg .i64) x.2.2.2.2.1 ∧ Rg .i64 x.2.2.2.2.2
def PlGrid (x : Int × Int × List Bool) : Prop := Rg .i64 x.1 ∧ Rg .i64 x.2.1 ∧ Ls (fun _ => True) x.2.2
def OkGrid (x : Int × Int × List Bool) : Prop := Rg .i64 x.1 ∧ Rg .i64 x.2.1 ∧ Lm (fun _ => True) x.2.2
def PlBooking (x : Int × ByteArray × Int) : Prop := Rg .i64 x.1 ∧ Sz x.2.1 ∧ Rg .i64 x.2.2
def OkBooking (x : Int × ByteArray × Int) : Prop := Rg .i64 x.1 ∧ Sm x.2.1 ∧ Rg .i64 x.2.2
def PlEntry (x : Int × ByteArray) : Prop := Rg .u8 x.1 ∧ Sz x.2
def OkEntry (x : Int × ByteArray) : Prop := Rg .u8 x.1 ∧ Sm x.2
def PlDesk (x : (List (Int × ByteArray × Int)) × (List (Int × Int)) × (List (Int × ByteArray × Int))) : Prop := Ls PlMove x.1 ∧ Ls PlSignal x.2.1 ∧ Ls PlBooking x.2.2
def OkDesk (x : (List (Int × ByteArray × Int)) × (List (Int × Int)) × (List (Int × ByteArray × Int))) : Prop := Lm OkMove x.1 ∧ Lm OkSignal x.2.1 ∧ Lm OkBooking x.2.2
end Go.Pl

namespace Go.Pl
open Go.Ev
set_option linter.unusedVariables false
noncomputable section
def impl_isDay.top (day0 : Int) : Option Bool :=
  (impl_within.f day0 0 100000).bind fun r1 =>
  some r1
def impl_isDay.fn (n : Nat) (day0 : Int) : Option Bool := impl_isDay.top day0
def impl_isDay.f (day0 : Int) : Option Bool := impl_isDay.fn NN day0
end
end Go.Pl

namespace Go.Pl
open Go.Ev
set_option linter.unusedVariables false
noncomputable section
def impl_isCalibre.top (n0 : Int) : Option Bool :=
  (impl_within.f n0 20 300).bind fun r1 =>
  some r1
def impl_isCalibre.fn (n : Nat) (n0 : Int) : Option Bool := impl_isCalibre.top n0
def impl_isCalibre.f (n0 : Int) : Option Bool := impl_isCalibre.fn NN n0
end
end Go.Pl

namespace Go.Pl
open Go.Ev
set_option linter.unusedVariables false
noncomputable section
def impl_allWithin.g2 (L2 : Int → Int → List Int → Int → Int → Option Bool) (low1 : Int) (high2 : Int) (v9 : List Int) (v10 : Int) (v11 : Int) : Option Bool :=
  if (decide ((v11 : Int) < v10)) = true then
    if (0 : Int) ≤ v11 ∧ (v11 : Int) < v9.length then
      (impl_within.f (v9.getD (v11 : Int).toNat 0) low1 high2).bind fun r1 =>
      if (!r1) = true then
        some false
      else
        L2 low1 high2 v9 v10 (IntKind.i64.wrap (v11 + 1))
    else
      none
  else
    some true
def impl_allWithin.l2 (n : Nat) : Nat → Int → Int → List Int → Int → Int → Option Bool
  | 0 => fun _ _ _ _ _ => none
  | k + 1 => impl_allWithin.g2 (impl_allWithin.l2 n k)
def impl_allWithin.top (I2 : Int → Int → List Int → Int → Int → Option Bool) (list0 : List Int) (low1 : Int) (high2 : Int) : Option Bool :=
  I2 low1 high2 list0 (list0.length : Int) 0
def impl_allWithin.fn (n : Nat) (list0 : List Int) (low1 : Int) (high2 : Int) : Option Bool := impl_allWithin.top (impl_allWithin.l2 n n) list0 low1 high2
def impl_allWithin.f (list0 : List Int) (low1 : Int) (high2 : Int) : Option Bool := impl_allWithin.fn NN list0 low1 high2
end
end Go.Pl

namespace Go.Pl
open Go.Ev
set_option linter.unusedVariables false
noncomputable section
def impl_IsPermit.g4 (L4 : Int → (Int × Int × Int × Int × List Int × Int) → Option Bool) (i3 : Int) (p1 : Int × Int × Int × Int × List Int × Int) : Option Bool :=
  if (decide ((i3 : Int) < (p1.2.2.2.2.1.length : Int))) = true then
    if (0 : Int) ≤ (IntKind.i64.wrap (i3 - 1)) ∧ ((IntKind.i64.wrap (i3 - 1)) : Int) < p1.2.2.2.2.1.length then
      if (0 : Int) ≤ i3 ∧ (i3 : Int) < p1.2.2.2.2.1.length then
        if (decide (((p1.2.2.2.2.1.getD (i3 : Int).toNat 0) : Int) ≤ (p1.2.2.2.2.1.getD ((IntKind.i64.wrap (i3 - 1)) : Int).toNat 0))) = true then
          some false
        else
          L4 (IntKind.i64.wrap (i3 + 1)) p1
      else
        none
    else
      none
  else
    some true
def impl_IsPermit.l4 (n : Nat) : Nat → Int → (Int × Int × Int × Int × List Int × Int) → Option Bool
  | 0 => fun _ _ => none
  | k + 1 => impl_IsPermit.g4 (impl_IsPermit.l4 n k)
def impl_IsPermit.top (I4 : Int → (Int × Int × Int × Int × List Int × Int) → Option Bool) (p0 : Int × Int × Int × Int × List Int × Int) : Option Bool :=
  (impl_isDay.f p0.1).bind fun r1 =>
  if (!r1) = false then
    (impl_isDay.f p0.2.1).bind fun r2 =>
    if (!r2) = false then
      if (decide ((p0.2.1 : Int) < p0.1)) = false then
        (impl_within.f p0.2.2.1 0 1000000000).bind fun r3 =>
        if (!r3) = false then
          (impl_isCalibre.f p0.2.2.2.1).bind fun r4 =>
          if (!r4) = false then
            (impl_within.f p0.2.2.2.2.2 0 3).bind fun r5 =>
            if (!r5) = false then
              (impl_allWithin.f p0.2.2.2.2.1 0 3).bind fun r6 =>
              if (!r6) = true then
                some false
              else
                I4 1 p0
            else
              some false
          else
            some false
        else
          some false
      else
        some false
    else
      some false
  else
    some false
def impl_IsPermit.fn (n : Nat) (p0 : Int × Int × Int × Int × List Int × Int) : Option Bool := impl_IsPermit.top (impl_IsPermit.l4 n n) p0
def impl_IsPermit.f (p0 : Int × Int × Int × Int × List Int × Int) : Option Bool := impl_IsPermit.fn NN p0
end
end Go.Pl

namespace Go.Pl
open Go.Ev
set_option linter.unusedVariables false
noncomputable section
def spec_IsPermit.top (p0 : Int × Int × Int × Int × List Int × Int) : Option Bool :=
  (spec_l01In.f p0.1 0 100000).bind fun r1 =>
  if r1 = true then
    (spec_l01In.f p0.2.1 p0.1 100000).bind fun r2 =>
    if r2 = true then
      (spec_l01In.f p0.2.2.1 0 1000000000).bind fun r3 =>
      if r3 = true then
        (spec_l01In.f p0.2.2.2.1 20 300).bind fun r4 =>
        if r4 = true then
          (spec_l01Rises.f p0.2.2.2.2.1 4).bind fun r5 =>
          if r5 = true then
            (spec_l01In.f p0.2.2.2.2.2 0 3).bind fun r6 =>
            some r6
          else
            some false
        else
          some false
      else
        some false
    else
      some false
  else
    some false
def spec_IsPermit.fn (n : Nat) (p0 : Int × Int × Int × Int × List Int × Int) : Option Bool := spec_IsPermit.top p0
def spec_IsPermit.f (p0 : Int × Int × Int × Int × List Int × Int) : Option Bool := spec_IsPermit.fn NN p0
end
end Go.Pl

namespace Go.Pl
open Go.Ev
set_option linter.unusedVariables false
set_option linter.unusedSimpArgs false
theorem impl_isDay_f (n : Int) : impl_isDay.f n = some (inB n 0 100000) := by
  unfold impl_isDay.f impl_isDay.fn impl_isDay.top
  rw [impl_within_f]; rfl
theorem impl_isCalibre_f (n : Int) : impl_isCalibre.f n = some (inB n 20 300) := by
  unfold impl_isCalibre.f impl_isCalibre.fn impl_isCalibre.top
  rw [impl_within_f]; rfl
theorem impl_allWithin_f (xs : List Int) (lo hi : Int) (h : xs.length ≤ 140737488355328) : impl_allWithin.f xs lo hi = some (xs.all (inB · lo hi)) := by
  have := all_loop (E := fun _ => True) (inB · lo hi) (fun _ => some true) (fun k xs i => impl_allWithin.l2 NN k lo hi xs xs.length i) ?_ ?_ xs (fun _ _ => trivial) h NN (NN_lt (by omega))
  · unfold impl_allWithin.f impl_allWithin.fn impl_allWithin.top
    refine this.trans ?_
    cases xs.all (inB · lo hi) <;> simp
  · intro k p
    simp [impl_allWithin.l2, impl_allWithin.g2]
  · intro k p a r _ c0 c1 cw
    simp only [impl_allWithin.l2, impl_allWithin.g2, c0, c1, cw, and_self, and_true, true_and, decide_true, decide_false, if_true, if_false, mid_get, mid_set, mid_getn, mid_setn, bt_mid, Option.bind_some, Bool.not_true, Bool.not_false, Bool.false_eq_true, Bool.true_eq_false, beq_self_eq_true, bne_self_eq_false, Int.toNat_natCast, impl_within_f]
    cases inB a lo hi <;> simp
/-- strictly rising -/
def risB : List Int → Bool
  | [] => true
  | [_] => true
  | a :: b :: r => decide (a < b) && risB (b :: r)
theorem risB_snoc : ∀ (p : List Int) (a b : Int), risB (p ++ [a, b]) = (risB (p ++ [a]) && decide (a < b)) := by
  intro p
  induction p with
  | nil => intro a b; simp [risB]
  | cons x p ih =>
    intro a b
    cases p with
    | nil => simp [risB]
    | cons y p =>
      have := ih a b
      simp only [List.cons_append] at this ⊢
      simp only [risB, this, Bool.and_assoc]
/-- rises, looked at from its second element on -/
def risF : Int → List Int → Bool
  | _, [] => true
  | a, b :: r => decide (a < b) && risF b r
theorem risB_cons (a : Int) (r : List Int) : risB (a :: r) = risF a r := by
  induction r generalizing a with
  | nil => rfl
  | cons b r ih => simp only [risB, risF, ih]
theorem snoc_getl (p r : List Int) (x a z : Int) : (p ++ [x] ++ a :: r).getD p.length z = x := by simp
theorem impl_IsPermit_loop (f t n c g : Int) : ∀ (r p : List Int) (x : Int) (k : Nat), p.length + r.length + 1 ≤ 140737488355328 → r.length < k →
    impl_IsPermit.l4 NN k ((p.length : Int) + 1) (f, t, n, c, p ++ [x] ++ r, g) = some (risF x r) := by
  intro r
  induction r with
  | nil =>
    intro p x k _ hk
    obtain ⟨k, rfl⟩ : ∃ j, k = j + 1 := ⟨k - 1, by omega⟩
    simp [impl_IsPermit.l4, impl_IsPermit.g4, risF]
  | cons a r ih =>
    intro p x k hb hk
    simp only [List.length_cons] at hb hk
    obtain ⟨k, rfl⟩ : ∃ j, k = j + 1 := ⟨k - 1, by omega⟩
    have hl : ((p ++ [x] ++ a :: r).length : Int) = p.length + r.length + 2 := by simp; omega
    have w1 := w64 (n := (p.length : Int) + 1 - 1) (by omega) (by omega)
    have w2 := w64 (n := (p.length : Int) + 1 + 1) (by omega) (by omega)
    have c1 : (p.length : Int) + 1 < ((p ++ [x] ++ a :: r).length : Int) := by omega
    have c2 : (0 : Int) ≤ (p.length : Int) + 1 - 1 := by omega
    have c3 : (p.length : Int) + 1 - 1 < ((p ++ [x] ++ a :: r).length : Int) := by omega
    have c4 : (0 : Int) ≤ (p.length : Int) + 1 := by omega
    have g1 : (p ++ [x] ++ a :: r).getD ((p.length : Int) + 1).toNat 0 = a := by
      rw [show ((p.length : Int) + 1).toNat = (p ++ [x]).length by simp, mid_getn]
    have g2 : (p ++ [x] ++ a :: r).getD ((p.length : Int) + 1 - 1).toNat 0 = x := by
      rw [show ((p.length : Int) + 1 - 1).toNat = p.length by omega, snoc_getl]
    simp only [impl_IsPermit.l4, impl_IsPermit.g4, w1, w2, c1, c2, c3, c4, g1, g2, and_self, decide_true, if_true, decide_eq_true_eq, risF]
    have := ih (p ++ [x]) a k (by simp; omega) (by omega)
    by_cases h : a ≤ x
    · have h' : ¬ x < a := by omega
      simp [h, h']
    · have h' : x < a := by omega
      simp only [h, h', if_false, decide_true, Bool.true_and]
      rw [← this]
      simp
theorem spec_l01Rises_loop (n : Int) (hn : Rg .i64 (n - 1)) : ∀ (r p : List Int) (x : Int) (k : Nat), p.length + r.length + 1 ≤ 140737488355328 → r.length < k →
    spec_l01Rises.l2 NN k (p ++ [x] ++ r) n ((p.length : Int) + 1) = some (r.all (inB · 0 (n - 1)) && risF x r) := by
  intro r
  induction r with
  | nil =>
    intro p x k _ hk
    obtain ⟨k, rfl⟩ : ∃ j, k = j + 1 := ⟨k - 1, by omega⟩
    simp [spec_l01Rises.l2, spec_l01Rises.g2, risF]
  | cons a r ih =>
    intro p x k hb hk
    simp only [List.length_cons] at hb hk
    obtain ⟨k, rfl⟩ : ∃ j, k = j + 1 := ⟨k - 1, by omega⟩
    have hl : ((p ++ [x] ++ a :: r).length : Int) = p.length + r.length + 2 := by simp; omega
    have w1 := w64 (n := (p.length : Int) + 1 - 1) (by omega) (by omega)
    have w2 := w64 (n := (p.length : Int) + 1 + 1) (by omega) (by omega)
    have hn' := wf64.1 hn
    have w3 := w64 (n := n - 1) (by omega) (by omega)
    have c1 : (p.length : Int) + 1 < ((p ++ [x] ++ a :: r).length : Int) := by omega
    have c2 : (0 : Int) ≤ (p.length : Int) + 1 - 1 := by omega
    have c3 : (p.length : Int) + 1 - 1 < ((p ++ [x] ++ a :: r).length : Int) := by omega
    have c4 : (0 : Int) ≤ (p.length : Int) + 1 := by omega
    have c5 : (0 : Int) < (p.length : Int) + 1 := by omega
    have g1 : (p ++ [x] ++ a :: r).getD ((p.length : Int) + 1).toNat 0 = a := by
      rw [show ((p.length : Int) + 1).toNat = (p ++ [x]).length by simp, mid_getn]
    have g2 : (p ++ [x] ++ a :: r).getD ((p.length : Int) + 1 - 1).toNat 0 = x := by
      rw [show ((p.length : Int) + 1 - 1).toNat = p.length by omega, snoc_getl]
    simp only [spec_l01Rises.l2, spec_l01Rises.g2, w1, w2, w3, c1, c2, c3, c4, c5, g1, g2, and_self, decide_true, if_true, decide_eq_true_eq, risF, spec_l01In_f, Option.bind_some, List.all_cons]
    have := ih (p ++ [x]) a k (by simp; omega) (by omega)
    cases h0 : inB a 0 (n - 1)
    · simp
    by_cases h : a ≤ x
    · have h' : ¬ x < a := by omega
      simp [h, h']
    · have h' : x < a := by omega
      simp only [h, h', if_false, decide_true, Bool.true_and, Bool.not_true, if_true]
      rw [← this]
      simp
theorem spec_l01Rises_f (xs : List Int) (n : Int) (hn : Rg .i64 (n - 1)) (h : xs.length ≤ 140737488355328) : spec_l01Rises.f xs n = some (xs.all (inB · 0 (n - 1)) && risB xs) := by
  unfold spec_l01Rises.f spec_l01Rises.fn spec_l01Rises.top
  obtain ⟨k, hk⟩ : ∃ j, NN = j + 1 := ⟨NN - 1, by have := NNb; omega⟩
  have hkb : 1000000000000000 < k := by rw [NN_eq] at hk; omega
  cases xs with
  | nil => rw [show spec_l01Rises.l2 NN NN = spec_l01Rises.l2 NN (k + 1) by rw [← hk]]; simp [spec_l01Rises.l2, spec_l01Rises.g2, risB]
  | cons a r =>
    simp only [List.length_cons] at h
    have hl := spec_l01Rises_loop n hn r [] a k (by simp; omega) (by omega)
    have hn' := wf64.1 hn
    have w3 := w64 (n := n - 1) (by omega) (by omega)
    have w1 := w64 (n := 0 + 1) (by omega) (by omega)
    have c1 : (0 : Int) < ((a :: r).length : Int) := by simp only [List.length_cons]; omega
    rw [show spec_l01Rises.l2 NN NN = spec_l01Rises.l2 NN (k + 1) by rw [← hk]]
    simp only [spec_l01Rises.l2, spec_l01Rises.g2, c1, w1, w3, spec_l01In_f]
    simp at hl
    simp [risB_cons, hl]
    cases inB a 0 (n - 1) <;> simp
def permB (p : Int × Int × Int × Int × List Int × Int) : Bool :=
  inB p.1 0 100000 && inB p.2.1 p.1 100000 && inB p.2.2.1 0 1000000000 && inB p.2.2.2.1 20 300 && (p.2.2.2.2.1.all (inB · 0 3) && risB p.2.2.2.2.1) && inB p.2.2.2.2.2 0 3
theorem spec_IsPermit_f (p : Int × Int × Int × Int × List Int × Int) (h : p.2.2.2.2.1.length ≤ 140737488355328) : spec_IsPermit.f p = some (permB p) := by
  unfold spec_IsPermit.f spec_IsPermit.fn spec_IsPermit.top permB
  simp only [spec_l01In_f, spec_l01Rises_f _ 4 (wf64.2 (by omega)) h, Option.bind_some, show (4 : Int) - 1 = 3 from rfl]
  cases inB p.1 0 100000 <;> cases inB p.2.1 p.1 100000 <;> cases inB p.2.2.1 0 1000000000 <;> cases inB p.2.2.2.1 20 300 <;> cases (p.2.2.2.2.1.all (inB · 0 3)) <;> cases risB p.2.2.2.2.1 <;> cases inB p.2.2.2.2.2 0 3 <;> rfl
theorem impl_IsPermit_f (p : Int × Int × Int × Int × List Int × Int) (h : p.2.2.2.2.1.length ≤ 140737488355328) : impl_IsPermit.f p = some (permB p) := by
  unfold impl_IsPermit.f impl_IsPermit.fn impl_IsPermit.top permB
  obtain ⟨f, t, n, c, ks, g⟩ := p
  simp only at h
  have hl : impl_IsPermit.l4 NN NN 1 (f, t, n, c, ks, g) = some (risB ks) := by
    cases ks with
    | nil =>
      obtain ⟨k, hk⟩ : ∃ j, NN = j + 1 := ⟨NN - 1, by have := NNb; omega⟩
      rw [show impl_IsPermit.l4 NN NN = impl_IsPermit.l4 NN (k + 1) by rw [← hk]]
      simp [impl_IsPermit.l4, impl_IsPermit.g4, risB]
    | cons a r =>
      simp only [List.length_cons] at h
      have := impl_IsPermit_loop f t n c g r [] a NN (by simp; omega) (NN_lt (by omega))
      simp at this
      rw [risB_cons, ← this]
  simp only [impl_isDay_f, impl_isCalibre_f, impl_within_f, impl_allWithin_f _ _ _ h, Option.bind_some, hl]
  have e : (inB f 0 100000 && inB t f 100000) = (inB f 0 100000 && inB t 0 100000 && !decide (t < f)) := by
    unfold inB
    by_cases h1 : 0 ≤ f <;> by_cases h2 : f ≤ 100000 <;> by_cases h3 : t ≤ 100000 <;> by_cases h4 : f ≤ t <;> by_cases h5 : 0 ≤ t <;> simp [h1, h2, h3, h4, h5] <;> omega
  rw [e]
  cases inB f 0 100000 <;> cases inB t 0 100000 <;> cases decide (t < f) <;> cases inB n 0 1000000000 <;> cases inB c 20 300 <;> cases (ks.all (inB · 0 3)) <;> cases inB g 0 3 <;> simp
theorem IsPermit_core (p : Int × Int × Int × Int × List Int × Int) (h : OkPermit p) : ∃ w, spec_IsPermit.f p = some w ∧ impl_IsPermit.f p = some w ∧ True :=
  have h1 : p.2.2.2.2.1.length ≤ 140737488355328 := Nat.le_trans h.2.2.2.2.1.1 (by omega)
  ⟨_, spec_IsPermit_f p h1, impl_IsPermit_f p h1, trivial⟩
end Go.Pl

namespace Go.Pl
open Go.Ev
set_option linter.unusedVariables false
noncomputable section
def impl_areLines.g4 (L4 : (List (ByteArray × Int)) → (List (ByteArray × Int)) → Int → Int → Option Bool) (lines0 : List (ByteArray × Int)) (v8 : List (ByteArray × Int)) (v9 : Int) (v10 : Int) : Option Bool :=
  if (decide ((v10 : Int) < v9)) = true then
    if (0 : Int) ≤ v10 ∧ (v10 : Int) < v8.length then
      (impl_IsWord.f ((v8.getD (v10 : Int).toNat (ByteArray.empty, 0)).1)).bind fun r1 =>
      if (!r1) = false then
        (impl_within.f ((v8.getD (v10 : Int).toNat (ByteArray.empty, 0)).2) 1 1000).bind fun r2 =>
        if (!r2) = false then
          if (decide ((0 : Int) < v10)) = true then
            if (0 : Int) ≤ (IntKind.i64.wrap (v10 - 1)) ∧ ((IntKind.i64.wrap (v10 - 1)) : Int) < lines0.length then
              if (!(Op.bytesLess ((lines0.getD ((IntKind.i64.wrap (v10 - 1)) : Int).toNat (ByteArray.empty, 0)).1).toList ((v8.getD (v10 : Int).toNat (ByteArray.empty, 0)).1).toList)) = true then
                some false
              else
                L4 lines0 v8 v9 (IntKind.i64.wrap (v10 + 1))
            else
              none
          else
            L4 lines0 v8 v9 (IntKind.i64.wrap (v10 + 1))
        else
          some false
      else
        some false
    else
      none
  else
    some true
def impl_areLines.l4 (n : Nat) : Nat → (List (ByteArray × Int)) → (List (ByteArray × Int)) → Int → Int → Option Bool
  | 0 => fun _ _ _ _ => none
  | k + 1 => impl_areLines.g4 (impl_areLines.l4 n k)
def impl_areLines.top (I4 : (List (ByteArray × Int)) → (List (ByteArray × Int)) → Int → Int → Option Bool) (lines0 : List (ByteArray × Int)) : Option Bool :=
  if (decide ((12 : Int) < (lines0.length : Int))) = true then
    some false
  else
    I4 lines0 lines0 (lines0.length : Int) 0
def impl_areLines.fn (n : Nat) (lines0 : List (ByteArray × Int)) : Option Bool := impl_areLines.top (impl_areLines.l4 n n) lines0
def impl_areLines.f (lines0 : List (ByteArray × Int)) : Option Bool := impl_areLines.fn NN lines0
end
end Go.Pl

namespace Go.Pl
open Go.Ev
set_option linter.unusedVariables false
noncomputable section
def impl_IsPaper.top (p0 : ByteArray × Int × List (ByteArray × Int)) : Option Bool :=
  (impl_IsWord.f p0.1).bind fun r1 =>
  if r1 = true then
    (impl_isDay.f p0.2.1).bind fun r2 =>
    if r2 = true then
      (impl_areLines.f p0.2.2).bind fun r3 =>
      some r3
    else
      some false
  else
    some false
def impl_IsPaper.fn (n : Nat) (p0 : ByteArray × Int × List (ByteArray × Int)) : Option Bool := impl_IsPaper.top p0
def impl_IsPaper.f (p0 : ByteArray × Int × List (ByteArray × Int)) : Option Bool := impl_IsPaper.fn NN p0
end
end Go.Pl

namespace Go.Pl
open Go.Ev
set_option linter.unusedVariables false
noncomputable section
def spec_IsPaper.g2 (L2 : Int → (ByteArray × Int × List (ByteArray × Int)) → Option Bool) (i3 : Int) (p1 : ByteArray × Int × List (ByteArray × Int)) : Option Bool :=
  if (decide ((i3 : Int) < (p1.2.2.length : Int))) = true then
    if (0 : Int) ≤ i3 ∧ (i3 : Int) < p1.2.2.length then
      (spec_IsWord.f ((p1.2.2.getD (i3 : Int).toNat (ByteArray.empty, 0)).1)).bind fun r1 =>
      if (!r1) = false then
        if (0 : Int) ≤ i3 ∧ (i3 : Int) < p1.2.2.length then
          (spec_l01In.f ((p1.2.2.getD (i3 : Int).toNat (ByteArray.empty, 0)).2) 1 1000).bind fun r2 =>
          if (!r2) = false then
            if (decide ((0 : Int) < i3)) = true then
              if (0 : Int) ≤ (IntKind.i64.wrap (i3 - 1)) ∧ ((IntKind.i64.wrap (i3 - 1)) : Int) < p1.2.2.length then
                if (0 : Int) ≤ i3 ∧ (i3 : Int) < p1.2.2.length then
                  if (!(Op.bytesLess ((p1.2.2.getD ((IntKind.i64.wrap (i3 - 1)) : Int).toNat (ByteArray.empty, 0)).1).toList ((p1.2.2.getD (i3 : Int).toNat (ByteArray.empty, 0)).1).toList)) = true then
                    some false
                  else
                    L2 (IntKind.i64.wrap (i3 + 1)) p1
                else
                  none
              else
                none
            else
              L2 (IntKind.i64.wrap (i3 + 1)) p1
          else
            some false
        else
          none
      else
        some false
    else
      none
  else
    (spec_IsWord.f p1.1).bind fun r3 =>
    if r3 = true then
      (spec_l01In.f p1.2.1 0 100000).bind fun r4 =>
      if r4 = true then
        some (decide (((p1.2.2.length : Int) : Int) ≤ 12))
      else
        some false
    else
      some false
def spec_IsPaper.l2 (n : Nat) : Nat → Int → (ByteArray × Int × List (ByteArray × Int)) → Option Bool
  | 0 => fun _ _ => none
  | k + 1 => spec_IsPaper.g2 (spec_IsPaper.l2 n k)
def spec_IsPaper.top (I2 : Int → (ByteArray × Int × List (ByteArray × Int)) → Option Bool) (p0 : ByteArray × Int × List (ByteArray × Int)) : Option Bool :=
  I2 0 p0
def spec_IsPaper.fn (n : Nat) (p0 : ByteArray × Int × List (ByteArray × Int)) : Option Bool := spec_IsPaper.top (spec_IsPaper.l2 n n) p0
def spec_IsPaper.f (p0 : ByteArray × Int × List (ByteArray × Int)) : Option Bool := spec_IsPaper.fn NN p0
end
end Go.Pl

namespace Go.Pl
open Go.Ev
set_option linter.unusedVariables false
noncomputable section
def impl_countIn.g2 (L2 : ByteArray → (List (ByteArray × Int)) → Int → Int → Option Int) (article1 : ByteArray) (v7 : List (ByteArray × Int)) (v8 : Int) (v9 : Int) : Option Int :=
  if (decide ((v9 : Int) < v8)) = true then
    if (0 : Int) ≤ v9 ∧ (v9 : Int) < v7.length then
      if (((v7.getD (v9 : Int).toNat (ByteArray.empty, 0)).1).toList == article1.toList) = true then
        some ((v7.getD (v9 : Int).toNat (ByteArray.empty, 0)).2)
      else
        L2 article1 v7 v8 (IntKind.i64.wrap (v9 + 1))
    else
      none
  else
    some 0
def impl_countIn.l2 (n : Nat) : Nat → ByteArray → (List (ByteArray × Int)) → Int → Int → Option Int
  | 0 => fun _ _ _ _ => none
  | k + 1 => impl_countIn.g2 (impl_countIn.l2 n k)
def impl_countIn.top (I2 : ByteArray → (List (ByteArray × Int)) → Int → Int → Option Int) (lines0 : List (ByteArray × Int)) (article1 : ByteArray) : Option Int :=
  I2 article1 lines0 (lines0.length : Int) 0
def impl_countIn.fn (n : Nat) (lines0 : List (ByteArray × Int)) (article1 : ByteArray) : Option Int := impl_countIn.top (impl_countIn.l2 n n) lines0 article1
def impl_countIn.f (lines0 : List (ByteArray × Int)) (article1 : ByteArray) : Option Int := impl_countIn.fn NN lines0 article1
end
end Go.Pl

namespace Go.Pl
open Go.Ev
set_option linter.unusedVariables false
noncomputable section
def spec_l29Find.g2 (L2 : ByteArray → Int → (ByteArray × Int × List (ByteArray × Int)) → Option Int) (article1 : ByteArray) (i5 : Int) (p2 : ByteArray × Int × List (ByteArray × Int)) : Option Int :=
  if (decide ((i5 : Int) < (p2.2.2.length : Int))) = true then
    if (0 : Int) ≤ i5 ∧ (i5 : Int) < p2.2.2.length then
      if (((p2.2.2.getD (i5 : Int).toNat (ByteArray.empty, 0)).1).toList == article1.toList) = true then
        some i5
      else
        L2 article1 (IntKind.i64.wrap (i5 + 1)) p2
    else
      none
  else
    some (-1)
def spec_l29Find.l2 (n : Nat) : Nat → ByteArray → Int → (ByteArray × Int × List (ByteArray × Int)) → Option Int
  | 0 => fun _ _ _ => none
  | k + 1 => spec_l29Find.g2 (spec_l29Find.l2 n k)
def spec_l29Find.top (I2 : ByteArray → Int → (ByteArray × Int × List (ByteArray × Int)) → Option Int) (p0 : ByteArray × Int × List (ByteArray × Int)) (article1 : ByteArray) : Option Int :=
  I2 article1 0 p0
def spec_l29Find.fn (n : Nat) (p0 : ByteArray × Int × List (ByteArray × Int)) (article1 : ByteArray) : Option Int := spec_l29Find.top (spec_l29Find.l2 n n) p0 article1
def spec_l29Find.f (p0 : ByteArray × Int × List (ByteArray × Int)) (article1 : ByteArray) : Option Int := spec_l29Find.fn NN p0 article1
end
end Go.Pl

namespace Go.Pl
open Go.Ev
set_option linter.unusedVariables false
set_option linter.unusedSimpArgs false
def ltS (a b : ByteArray) : Bool := Op.bytesLess a.toList b.toList
def lineOk (l : ByteArray × Int) : Bool := wordB l.1 && inB l.2 1 1000
/-- lines behind another one -/
def linesF : ByteArray × Int → List (ByteArray × Int) → Bool
  | _, [] => true
  | x, a :: r => lineOk a && ltS x.1 a.1 && linesF a r
def linesL : List (ByteArray × Int) → Bool
  | [] => true
  | a :: r => lineOk a && linesF a r
def linesB (l : List (ByteArray × Int)) : Bool := decide (l.length ≤ 12) && linesL l
def paperB (p : ByteArray × Int × List (ByteArray × Int)) : Bool := wordB p.1 && inB p.2.1 0 100000 && linesB p.2.2
theorem snoc_getl' {α : Type} (p r : List α) (x a z : α) : (p ++ [x] ++ a :: r).getD p.length z = x := by simp
theorem impl_areLines_l : ∀ (r p : List (ByteArray × Int)) (x : ByteArray × Int) (k : Nat), p.length + r.length + 1 ≤ 1000000 → r.length < k → (∀ l ∈ r, Sz l.1) →
    impl_areLines.l4 NN k (p ++ [x] ++ r) (p ++ [x] ++ r) (p ++ [x] ++ r).length ((p.length : Int) + 1) = some (linesF x r) := by
  intro r
  induction r with
  | nil =>
    intro p x k _ hk _
    obtain ⟨k, rfl⟩ : ∃ j, k = j + 1 := ⟨k - 1, by omega⟩
    simp [impl_areLines.l4, impl_areLines.g4, linesF]
  | cons a r ih =>
    intro p x k hb hk hs
    simp only [List.length_cons] at hb hk
    obtain ⟨k, rfl⟩ : ∃ j, k = j + 1 := ⟨k - 1, by omega⟩
    have hl : ((p ++ [x] ++ a :: r).length : Int) = p.length + r.length + 2 := by simp; omega
    have w1 := w64 (n := (p.length : Int) + 1 - 1) (by omega) (by omega)
    have w2 := w64 (n := (p.length : Int) + 1 + 1) (by omega) (by omega)
    have c1 : (p.length : Int) + 1 < ((p ++ [x] ++ a :: r).length : Int) := by omega
    have c2 : (0 : Int) ≤ (p.length : Int) + 1 - 1 := by omega
    have c3 : (p.length : Int) + 1 - 1 < ((p ++ [x] ++ a :: r).length : Int) := by omega
    have c4 : (0 : Int) ≤ (p.length : Int) + 1 := by omega
    have c5 : (0 : Int) < (p.length : Int) + 1 := by omega
    have g1 : ∀ z, (p ++ [x] ++ a :: r).getD ((p.length : Int) + 1).toNat z = a := fun z => by
      rw [show ((p.length : Int) + 1).toNat = (p ++ [x]).length by simp, mid_getn]
    have g2 : ∀ z, (p ++ [x] ++ a :: r).getD ((p.length : Int) + 1 - 1).toNat z = x := fun z => by
      rw [show ((p.length : Int) + 1 - 1).toNat = p.length by omega, snoc_getl']
    have := ih (p ++ [x]) a k (by simp; omega) (by omega) (fun l h => hs l (by simp [h]))
    simp only [impl_areLines.l4, impl_areLines.g4, w1, w2, c1, c2, c3, c4, c5, g1, g2, and_self, and_true, true_and, decide_true, decide_false, if_true, if_false, mid_get, mid_set, mid_getn, mid_setn, bt_mid, Option.bind_some, Bool.not_true, Bool.not_false, Bool.false_eq_true, Bool.true_eq_false, beq_self_eq_true, bne_self_eq_false, Int.toNat_natCast, impl_IsWord_f _ (hs a (by simp)), impl_within_f, linesF, lineOk]
    cases wordB a.1
    · simp
    cases inB a.2 1 1000
    · simp
    show (if (!ltS x.1 a.1) = true then _ else _) = _
    cases ltS x.1 a.1
    · simp
    · simp only [and_self, and_true, true_and, decide_true, decide_false, if_true, if_false, mid_get, mid_set, mid_getn, mid_setn, bt_mid, Option.bind_some, Bool.not_true, Bool.not_false, Bool.false_eq_true, Bool.true_eq_false, beq_self_eq_true, bne_self_eq_false, Int.toNat_natCast, Bool.true_and]
      rw [← this]
      simp
theorem impl_areLines_f (xs : List (ByteArray × Int)) (h : Lm OkLine xs) : impl_areLines.f xs = some (linesB xs) := by
  unfold impl_areLines.f impl_areLines.fn impl_areLines.top linesB
  have hl := h.1
  by_cases h12 : (12 : Int) < (xs.length : Int)
  · have : ¬ xs.length ≤ 12 := by omega
    simp [h12, this]
  have e12 : xs.length ≤ 12 := by omega
  simp only [h12, e12, and_self, and_true, true_and, decide_true, decide_false, if_true, if_false, mid_get, mid_set, mid_getn, mid_setn, bt_mid, Option.bind_some, Bool.not_true, Bool.not_false, Bool.false_eq_true, Bool.true_eq_false, beq_self_eq_true, bne_self_eq_false, Int.toNat_natCast]
  obtain ⟨k, hk⟩ : ∃ j, NN = j + 1 := ⟨NN - 1, by have := NNb; omega⟩
  have hkb : 1000000000000000 < k := by rw [NN_eq] at hk; omega
  rw [show impl_areLines.l4 NN NN = impl_areLines.l4 NN (k + 1) by rw [← hk]]
  cases xs with
  | nil => simp [impl_areLines.l4, impl_areLines.g4, linesL]
  | cons a r =>
    simp only [List.length_cons] at hl
    have := impl_areLines_l r [] a k (by simp; omega) (by omega) (fun l hl => Nat.le_trans (h.2 l (by simp [hl])).1 (by omega))
    have w2 := w64 (n := 0 + 1) (by omega) (by omega)
    have c1 : (0 : Int) < ((a :: r).length : Int) := by simp only [List.length_cons]; omega
    simp only [impl_areLines.l4, impl_areLines.g4, c1, w2, and_self, and_true, true_and, decide_true, decide_false, if_true, if_false, mid_get, mid_set, mid_getn, mid_setn, bt_mid, Option.bind_some, Bool.not_true, Bool.not_false, Bool.false_eq_true, Bool.true_eq_false, beq_self_eq_true, bne_self_eq_false, Int.toNat_natCast, Int.le_refl, impl_IsWord_f _ (Nat.le_trans (h.2 a (by simp)).1 (show 1000000 ≤ 140737488355328 by omega)), impl_within_f, linesL, lineOk, List.getD_cons_zero, Int.toNat_zero]
    simp at this
    cases wordB a.1
    · simp
    cases inB a.2 1 1000
    · simp
    simp [this]
theorem impl_IsPaper_f (p : ByteArray × Int × List (ByteArray × Int)) (h : OkPaper p) : impl_IsPaper.f p = some (paperB p) := by
  unfold impl_IsPaper.f impl_IsPaper.fn impl_IsPaper.top paperB
  rw [impl_IsWord_f _ (Nat.le_trans h.1 (by omega)), impl_isDay_f, impl_areLines_f _ h.2.2]
  cases wordB p.1 <;> cases inB p.2.1 0 100000 <;> rfl
theorem spec_IsPaper_l (v : ByteArray) (d : Int) (hv : Sz v) : ∀ (r p : List (ByteArray × Int)) (x : ByteArray × Int) (k : Nat), p.length + r.length + 1 ≤ 1000000 → r.length < k → (∀ l ∈ r, Sz l.1) →
    spec_IsPaper.l2 NN k ((p.length : Int) + 1) (v, d, p ++ [x] ++ r) = some (linesF x r && (wordB v && inB d 0 100000 && decide ((p ++ [x] ++ r).length ≤ 12))) := by
  intro r
  induction r with
  | nil =>
    intro p x k hb hk _
    obtain ⟨k, rfl⟩ : ∃ j, k = j + 1 := ⟨k - 1, by omega⟩
    have e : decide (((p ++ [x]).length : Int) ≤ 12) = decide ((p ++ [x]).length ≤ 12) := by congr 1; exact propext (by omega)
    have c1 : ¬ (p.length : Int) + 1 < ((p ++ [x]).length : Int) := by simp
    simp only [spec_IsPaper.l2, spec_IsPaper.g2, List.append_nil, c1, and_self, and_true, true_and, decide_true, decide_false, if_true, if_false, mid_get, mid_set, mid_getn, mid_setn, bt_mid, Option.bind_some, Bool.not_true, Bool.not_false, Bool.false_eq_true, Bool.true_eq_false, beq_self_eq_true, bne_self_eq_false, Int.toNat_natCast, spec_IsWord_f v hv, spec_l01In_f, linesF, e]
    cases wordB v <;> cases inB d 0 100000 <;> rfl
  | cons a r ih =>
    intro p x k hb hk hs
    simp only [List.length_cons] at hb hk
    obtain ⟨k, rfl⟩ : ∃ j, k = j + 1 := ⟨k - 1, by omega⟩
    have hl : ((p ++ [x] ++ a :: r).length : Int) = p.length + r.length + 2 := by simp; omega
    have w1 := w64 (n := (p.length : Int) + 1 - 1) (by omega) (by omega)
    have w2 := w64 (n := (p.length : Int) + 1 + 1) (by omega) (by omega)
    have c1 : (p.length : Int) + 1 < ((p ++ [x] ++ a :: r).length : Int) := by omega
    have c2 : (0 : Int) ≤ (p.length : Int) + 1 - 1 := by omega
    have c3 : (p.length : Int) + 1 - 1 < ((p ++ [x] ++ a :: r).length : Int) := by omega
    have c4 : (0 : Int) ≤ (p.length : Int) + 1 := by omega
    have c5 : (0 : Int) < (p.length : Int) + 1 := by omega
    have g1 : ∀ z, (p ++ [x] ++ a :: r).getD ((p.length : Int) + 1).toNat z = a := fun z => by
      rw [show ((p.length : Int) + 1).toNat = (p ++ [x]).length by simp, mid_getn]
    have g2 : ∀ z, (p ++ [x] ++ a :: r).getD ((p.length : Int) + 1 - 1).toNat z = x := fun z => by
      rw [show ((p.length : Int) + 1 - 1).toNat = p.length by omega, snoc_getl']
    have := ih (p ++ [x]) a k (by simp; omega) (by omega) (fun l h => hs l (by simp [h]))
    rw [show p ++ [x] ++ [a] ++ r = p ++ [x] ++ a :: r by simp, snoc_len] at this
    simp only [spec_IsPaper.l2, spec_IsPaper.g2, w1, w2, c1, c2, c3, c4, c5, g1, g2, and_self, and_true, true_and, decide_true, decide_false, if_true, if_false, mid_get, mid_set, mid_getn, mid_setn, bt_mid, Option.bind_some, Bool.not_true, Bool.not_false, Bool.false_eq_true, Bool.true_eq_false, beq_self_eq_true, bne_self_eq_false, Int.toNat_natCast, spec_IsWord_f _ (hs a (by simp)), spec_l01In_f, linesF, lineOk, this]
    cases wordB a.1
    · simp
    cases inB a.2 1 1000
    · simp
    show (if (!ltS x.1 a.1) = true then _ else _) = _
    cases ltS x.1 a.1
    · simp
    · simp
theorem spec_IsPaper_f (p : ByteArray × Int × List (ByteArray × Int)) (h : OkPaper p) : spec_IsPaper.f p = some (paperB p) := by
  obtain ⟨v, d, xs⟩ := p
  unfold spec_IsPaper.f spec_IsPaper.fn spec_IsPaper.top paperB linesB
  have hl : xs.length ≤ 1000000 := h.2.2.1
  have hv : Sz v := Nat.le_trans h.1 (by omega)
  obtain ⟨k, hk⟩ : ∃ j, NN = j + 1 := ⟨NN - 1, by have := NNb; omega⟩
  have hkb : 1000000000000000 < k := by rw [NN_eq] at hk; omega
  rw [show spec_IsPaper.l2 NN NN = spec_IsPaper.l2 NN (k + 1) by rw [← hk]]
  cases xs with
  | nil =>
    simp only [spec_IsPaper.l2, spec_IsPaper.g2, spec_IsWord_f v hv, spec_l01In_f, linesL, and_self, and_true, true_and, decide_true, decide_false, if_true, if_false, mid_get, mid_set, mid_getn, mid_setn, bt_mid, Option.bind_some, Bool.not_true, Bool.not_false, Bool.false_eq_true, Bool.true_eq_false, beq_self_eq_true, bne_self_eq_false, Int.toNat_natCast]
    cases wordB v <;> cases inB d 0 100000 <;> rfl
  | cons a r =>
    simp only [List.length_cons] at hl
    have hxs : Lm OkLine (a :: r) := h.2.2
    have := spec_IsPaper_l v d hv r [] a k (by simp; omega) (by omega) (fun l hl => Nat.le_trans (hxs.2 l (by simp [hl])).1 (by omega))
    have w2 := w64 (n := 0 + 1) (by omega) (by omega)
    have c1 : (0 : Int) < ((a :: r).length : Int) := by simp only [List.length_cons]; omega
    simp only [List.nil_append, List.length_nil, List.cons_append] at this
    rw [show (((0 : Nat) : Int) + 1) = 0 + 1 from rfl] at this
    simp only [spec_IsPaper.l2, spec_IsPaper.g2, c1, w2, and_self, and_true, true_and, decide_true, decide_false, if_true, if_false, mid_get, mid_set, mid_getn, mid_setn, bt_mid, Option.bind_some, Bool.not_true, Bool.not_false, Bool.false_eq_true, Bool.true_eq_false, beq_self_eq_true, bne_self_eq_false, Int.toNat_natCast, Int.le_refl, spec_IsWord_f _ (Nat.le_trans (hxs.2 a (by simp)).1 (show 1000000 ≤ 140737488355328 by omega)), spec_l01In_f, linesL, lineOk, List.getD_cons_zero, Int.toNat_zero]
    cases wordB a.1
    · simp
    cases inB a.2 1 1000
    · simp
    simp only [Int.lt_irrefl, decide_false, and_self, and_true, true_and, decide_true, decide_false, if_true, if_false, mid_get, mid_set, mid_getn, mid_setn, bt_mid, Option.bind_some, Bool.not_true, Bool.not_false, Bool.false_eq_true, Bool.true_eq_false, beq_self_eq_true, bne_self_eq_false, Int.toNat_natCast]
    rw [this]
    cases linesF a r <;> cases wordB v <;> cases inB d 0 100000 <;> simp
/-- how many of an article -/
def cntL (a : ByteArray) : List (ByteArray × Int) → Int
  | [] => 0
  | l :: r => if l.1 = a then l.2 else cntL a r
theorem impl_countIn_f (xs : List (ByteArray × Int)) (a : ByteArray) (h : xs.length ≤ 1000000) : impl_countIn.f xs a = some (cntL a xs) := by
  have := find_loop (E := fun _ => True) (fun l : ByteArray × Int => decide (l.1 = a)) (fun _ l => some l.2) (fun _ => some 0) (fun k xs i => impl_countIn.l2 NN k a xs xs.length i) ?_ ?_ xs (fun _ _ => trivial) (by omega) NN (NN_lt (by omega))
  · refine this.trans ?_
    have key : ∀ (xs : List (ByteArray × Int)) (i : Nat), (firstOf (fun l : ByteArray × Int => decide (l.1 = a)) i xs).elim (some 0) (fun x => some x.2.2) = some (cntL a xs) := by
      intro xs
      induction xs with
      | nil => intro i; rfl
      | cons l r ih =>
        intro i
        by_cases h : l.1 = a
        · simp [firstOf, cntL, h]
        · simp only [firstOf, cntL, h, decide_false, Bool.false_eq_true, if_false]
          exact ih _
    exact key xs 0
  · intro k p
    simp [impl_countIn.l2, impl_countIn.g2]
  · intro k p l r _ c0 c1 c2 cw
    simp only [impl_countIn.l2, impl_countIn.g2, c0, c1, cw, and_self, and_true, true_and, decide_true, decide_false, if_true, if_false, mid_get, mid_set, mid_getn, mid_setn, bt_mid, Option.bind_some, Bool.not_true, Bool.not_false, Bool.false_eq_true, Bool.true_eq_false, beq_self_eq_true, bne_self_eq_false, Int.toNat_natCast, ba_beq]
theorem spec_l29Find_f (p : ByteArray × Int × List (ByteArray × Int)) (a : ByteArray) (h : p.2.2.length ≤ 1000000) : spec_l29Find.f p a = some ((firstOf (fun l : ByteArray × Int => decide (l.1 = a)) 0 p.2.2).elim (-1) (fun x => (x.1 : Int))) := by
  obtain ⟨v, d, xs⟩ := p
  have h : xs.length ≤ 1000000 := h
  have := find_loop (E := fun _ => True) (fun l : ByteArray × Int => decide (l.1 = a)) (fun i _ => some (i : Int)) (fun _ => some (-1)) (fun k xs i => spec_l29Find.l2 NN k a i (v, d, xs)) ?_ ?_ xs (fun _ _ => trivial) (by omega) NN (NN_lt (by omega))
  · refine this.trans ?_
    cases firstOf (fun l : ByteArray × Int => decide (l.1 = a)) 0 xs <;> rfl
  · intro k p
    simp [spec_l29Find.l2, spec_l29Find.g2]
  · intro k p l r _ c0 c1 c2 cw
    simp only [spec_l29Find.l2, spec_l29Find.g2, c0, c1, cw, and_self, and_true, true_and, decide_true, decide_false, if_true, if_false, mid_get, mid_set, mid_getn, mid_setn, bt_mid, Option.bind_some, Bool.not_true, Bool.not_false, Bool.false_eq_true, Bool.true_eq_false, beq_self_eq_true, bne_self_eq_false, Int.toNat_natCast, ba_beq]
/-- what is found: its number and its line -/
theorem firstOf_spec {α : Type} (P : α → Bool) : ∀ (xs : List α) (i j : Nat) (x : α), firstOf P i xs = some (j, x) → i ≤ j ∧ j < i + xs.length ∧ xs[j - i]? = some x ∧ P x = true := by
  intro xs
  induction xs with
  | nil => intro i j x h; cases h
  | cons a r ih =>
    intro i j x h
    simp only [firstOf] at h
    split at h
    · rename_i hp
      cases h
      refine ⟨by omega, by simp, by simp, hp⟩
    · obtain ⟨h1, h2, h3, h4⟩ := ih _ _ _ h
      refine ⟨by omega, by simp; omega, ?_, h4⟩
      rw [show j - i = (j - (i + 1)) + 1 by omega, List.getElem?_cons_succ]; exact h3
theorem cntL_first (a : ByteArray) : ∀ (xs : List (ByteArray × Int)) (i : Nat), cntL a xs = (firstOf (fun l : ByteArray × Int => decide (l.1 = a)) i xs).elim 0 (fun x => x.2.2) := by
  intro xs
  induction xs with
  | nil => intro i; rfl
  | cons l r ih =>
    intro i
    by_cases h : l.1 = a
    · simp [firstOf, cntL, h]
    · simp only [firstOf, cntL, h, decide_false, Bool.false_eq_true, if_false]
      exact ih _
theorem linesF_ok : ∀ (r : List (ByteArray × Int)) (x : ByteArray × Int), linesF x r = true → ∀ l ∈ r, lineOk l = true := by
  intro r
  induction r with
  | nil => intro x _ l hl; cases hl
  | cons a r ih =>
    intro x h l hl
    simp only [linesF, Bool.and_eq_true] at h
    rcases List.mem_cons.1 hl with rfl | hl
    · exact h.1.1
    · exact ih a h.2 l hl
theorem linesB_ok {xs : List (ByteArray × Int)} (h : linesB xs = true) : xs.length ≤ 12 ∧ ∀ l ∈ xs, lineOk l = true := by
  unfold linesB at h
  simp only [Bool.and_eq_true, decide_eq_true_eq] at h
  refine ⟨h.1, ?_⟩
  cases xs with
  | nil => intro l hl; cases hl
  | cons a r =>
    have h2 := h.2
    simp only [linesL, Bool.and_eq_true] at h2
    intro l hl
    rcases List.mem_cons.1 hl with rfl | hl
    · exact h2.1
    · exact linesF_ok r a h2.2 l hl
theorem lineOk_iff {l : ByteArray × Int} : lineOk l = true ↔ wordB l.1 = true ∧ 1 ≤ l.2 ∧ l.2 ≤ 1000 := by
  unfold lineOk; rw [Bool.and_eq_true, inB_iff]
theorem cntL_bd (a : ByteArray) : ∀ (xs : List (ByteArray × Int)), (∀ l ∈ xs, lineOk l = true) → 0 ≤ cntL a xs ∧ cntL a xs ≤ 1000 := by
  intro xs
  induction xs with
  | nil => intro _; simp [cntL]
  | cons l r ih =>
    intro h
    have h1 := lineOk_iff.1 (h l (by simp))
    have h2 := ih fun x hx => h x (by simp [hx])
    simp only [cntL]
    split <;> omega
end Go.Pl

namespace Go.Pl
open Go.Ev
set_option linter.unusedVariables false
noncomputable section
def impl_MissingLines.g5 (L5 : (List (ByteArray × Int)) → Int → Int → (ByteArray × Int × List (ByteArray × Int)) → (List (ByteArray × Int)) → Option ((List (ByteArray × Int)) × Int)) (v19 : List (ByteArray × Int)) (v20 : Int) (v21 : Int) (b3 : ByteArray × Int × List (ByteArray × Int)) (out6 : List (ByteArray × Int)) : Option ((List (ByteArray × Int)) × Int) :=
  if (decide ((v21 : Int) < v20)) = true then
    if (0 : Int) ≤ v21 ∧ (v21 : Int) < v19.length then
      (impl_countIn.f b3.2.2 ((v19.getD (v21 : Int).toNat (ByteArray.empty, 0)).1)).bind fun r3 =>
      if (decide ((0 : Int) < (IntKind.i64.wrap (((v19.getD (v21 : Int).toNat (ByteArray.empty, 0)).2) - r3)))) = true then
        if out6.length + ([((v19.getD (v21 : Int).toNat (ByteArray.empty, 0)).1, IntKind.i64.wrap (((v19.getD (v21 : Int).toNat (ByteArray.empty, 0)).2) - r3))]).length < room 24 then
          L5 v19 v20 (IntKind.i64.wrap (v21 + 1)) b3 (out6 ++ ([((v19.getD (v21 : Int).toNat (ByteArray.empty, 0)).1, IntKind.i64.wrap (((v19.getD (v21 : Int).toNat (ByteArray.empty, 0)).2) - r3))]))
        else
          none
      else
        L5 v19 v20 (IntKind.i64.wrap (v21 + 1)) b3 out6
    else
      none
  else
    some (out6, 0)
def impl_MissingLines.l5 (n : Nat) : Nat → (List (ByteArray × Int)) → Int → Int → (ByteArray × Int × List (ByteArray × Int)) → (List (ByteArray × Int)) → Option ((List (ByteArray × Int)) × Int)
  | 0 => fun _ _ _ _ _ => none
  | k + 1 => impl_MissingLines.g5 (impl_MissingLines.l5 n k)
def impl_MissingLines.top (I5 : (List (ByteArray × Int)) → Int → Int → (ByteArray × Int × List (ByteArray × Int)) → (List (ByteArray × Int)) → Option ((List (ByteArray × Int)) × Int)) (a0 : ByteArray × Int × List (ByteArray × Int)) (b1 : ByteArray × Int × List (ByteArray × Int)) : Option ((List (ByteArray × Int)) × Int) :=
  (impl_IsPaper.f a0).bind fun r1 =>
  if (!r1) = false then
    (impl_IsPaper.f b1).bind fun r2 =>
    if (!r2) = true then
      some ([], 1)
    else
      I5 a0.2.2 (a0.2.2.length : Int) 0 b1 []
  else
    some ([], 1)
def impl_MissingLines.fn (n : Nat) (a0 : ByteArray × Int × List (ByteArray × Int)) (b1 : ByteArray × Int × List (ByteArray × Int)) : Option ((List (ByteArray × Int)) × Int) := impl_MissingLines.top (impl_MissingLines.l5 n n) a0 b1
def impl_MissingLines.f (a0 : ByteArray × Int × List (ByteArray × Int)) (b1 : ByteArray × Int × List (ByteArray × Int)) : Option ((List (ByteArray × Int)) × Int) := impl_MissingLines.fn NN a0 b1
end
end Go.Pl

namespace Go.Pl
open Go.Ev
set_option linter.unusedVariables false
noncomputable section
def spec_MissingLines.g5 (L5 : Int → (ByteArray × Int × List (ByteArray × Int)) → (ByteArray × Int × List (ByteArray × Int)) → (List (ByteArray × Int)) → Option ((List (ByteArray × Int)) × Int)) (i7 : Int) (a2 : ByteArray × Int × List (ByteArray × Int)) (b3 : ByteArray × Int × List (ByteArray × Int)) (out6 : List (ByteArray × Int)) : Option ((List (ByteArray × Int)) × Int) :=
  if (decide ((i7 : Int) < (a2.2.2.length : Int))) = true then
    if (0 : Int) ≤ i7 ∧ (i7 : Int) < a2.2.2.length then
      if (0 : Int) ≤ i7 ∧ (i7 : Int) < a2.2.2.length then
        (spec_l29Find.f b3 ((a2.2.2.getD (i7 : Int).toNat (ByteArray.empty, 0)).1)).bind fun r3 =>
        if (decide ((0 : Int) ≤ r3)) = true then
          if (0 : Int) ≤ r3 ∧ (r3 : Int) < b3.2.2.length then
            if (decide ((0 : Int) < (IntKind.i64.wrap (((a2.2.2.getD (i7 : Int).toNat (ByteArray.empty, 0)).2) - ((b3.2.2.getD (r3 : Int).toNat (ByteArray.empty, 0)).2))))) = true then
              if (0 : Int) ≤ i7 ∧ (i7 : Int) < a2.2.2.length then
                if out6.length + ([((a2.2.2.getD (i7 : Int).toNat (ByteArray.empty, 0)).1, IntKind.i64.wrap (((a2.2.2.getD (i7 : Int).toNat (ByteArray.empty, 0)).2) - ((b3.2.2.getD (r3 : Int).toNat (ByteArray.empty, 0)).2)))]).length < room 24 then
                  L5 (IntKind.i64.wrap (i7 + 1)) a2 b3 (out6 ++ ([((a2.2.2.getD (i7 : Int).toNat (ByteArray.empty, 0)).1, IntKind.i64.wrap (((a2.2.2.getD (i7 : Int).toNat (ByteArray.empty, 0)).2) - ((b3.2.2.getD (r3 : Int).toNat (ByteArray.empty, 0)).2)))]))
                else
                  none
              else
                none
            else
              L5 (IntKind.i64.wrap (i7 + 1)) a2 b3 out6
          else
            none
        else if (decide ((0 : Int) < ((a2.2.2.getD (i7 : Int).toNat (ByteArray.empty, 0)).2))) = true then
          if (0 : Int) ≤ i7 ∧ (i7 : Int) < a2.2.2.length then
            if out6.length + ([((a2.2.2.getD (i7 : Int).toNat (ByteArray.empty, 0)).1, (a2.2.2.getD (i7 : Int).toNat (ByteArray.empty, 0)).2)]).length < room 24 then
              L5 (IntKind.i64.wrap (i7 + 1)) a2 b3 (out6 ++ ([((a2.2.2.getD (i7 : Int).toNat (ByteArray.empty, 0)).1, (a2.2.2.getD (i7 : Int).toNat (ByteArray.empty, 0)).2)]))
            else
              none
          else
            none
        else
          L5 (IntKind.i64.wrap (i7 + 1)) a2 b3 out6
      else
        none
    else
      none
  else
    some (out6, 0)
def spec_MissingLines.l5 (n : Nat) : Nat → Int → (ByteArray × Int × List (ByteArray × Int)) → (ByteArray × Int × List (ByteArray × Int)) → (List (ByteArray × Int)) → Option ((List (ByteArray × Int)) × Int)
  | 0 => fun _ _ _ _ => none
  | k + 1 => spec_MissingLines.g5 (spec_MissingLines.l5 n k)
def spec_MissingLines.top (I5 : Int → (ByteArray × Int × List (ByteArray × Int)) → (ByteArray × Int × List (ByteArray × Int)) → (List (ByteArray × Int)) → Option ((List (ByteArray × Int)) × Int)) (a0 : ByteArray × Int × List (ByteArray × Int)) (b1 : ByteArray × Int × List (ByteArray × Int)) : Option ((List (ByteArray × Int)) × Int) :=
  (spec_IsPaper.f a0).bind fun r1 =>
  if (!r1) = false then
    (spec_IsPaper.f b1).bind fun r2 =>
    if (!r2) = true then
      some ([], 1)
    else
      I5 0 a0 b1 []
  else
    some ([], 1)
def spec_MissingLines.fn (n : Nat) (a0 : ByteArray × Int × List (ByteArray × Int)) (b1 : ByteArray × Int × List (ByteArray × Int)) : Option ((List (ByteArray × Int)) × Int) := spec_MissingLines.top (spec_MissingLines.l5 n n) a0 b1
def spec_MissingLines.f (a0 : ByteArray × Int × List (ByteArray × Int)) (b1 : ByteArray × Int × List (ByteArray × Int)) : Option ((List (ByteArray × Int)) × Int) := spec_MissingLines.fn NN a0 b1
end
end Go.Pl

namespace Go.Pl
open Go.Ev
set_option linter.unusedVariables false
set_option linter.unusedSimpArgs false
def missF (bs : List (ByteArray × Int)) (out : List (ByteArray × Int)) (l : ByteArray × Int) : List (ByteArray × Int) := if 0 < l.2 - cntL l.1 bs then out ++ [(l.1, l.2 - cntL l.1 bs)] else out
def missL (ax bs : List (ByteArray × Int)) : List (ByteArray × Int) := ax.foldl (missF bs) []
theorem missF_ok (bs : List (ByteArray × Int)) (hb : ∀ l ∈ bs, lineOk l = true) (out : List (ByteArray × Int)) (l : ByteArray × Int) (hl : lineOk l = true) (n : Nat) (h : out.length ≤ n ∧ ∀ x ∈ out, lineOk x = true) : (missF bs out l).length ≤ n + 1 ∧ ∀ x ∈ missF bs out l, lineOk x = true := by
  have h1 := lineOk_iff.1 hl
  have h2 := cntL_bd l.1 bs hb
  unfold missF
  split
  · refine ⟨by simp; omega, fun x hx => ?_⟩
    rcases List.mem_append.1 hx with h3 | h3
    · exact h.2 x h3
    · rw [List.mem_singleton.1 h3]; exact lineOk_iff.2 ⟨h1.1, by simp only; omega, by simp only; omega⟩
  · exact ⟨by omega, h.2⟩
theorem room24' {α : Type} (out : List α) (x : α) (h : out.length ≤ 2000000) : out.length + [x].length < room 24 := by rw [room24]; simp; omega
theorem impl_Missing_l (v : ByteArray) (d : Int) (ax bs : List (ByteArray × Int)) (ha : ∀ l ∈ ax, lineOk l = true) (hb : ∀ l ∈ bs, lineOk l = true) (hla : ax.length ≤ 12) (hlb : bs.length ≤ 12) :
    ((missL ax bs).length ≤ ax.length ∧ ∀ x ∈ missL ax bs, lineOk x = true) ∧ impl_MissingLines.l5 NN NN ax ax.length 0 (v, d, bs) [] = some (missL ax bs, 0) := by
  have := fold_fix (E := fun l => lineOk l = true) (fun p st => st.length ≤ p.length ∧ ∀ x ∈ st, lineOk x = true) (fun _ => missF bs) (fun st => some (st, (0 : Int))) (fun k i st => impl_MissingLines.l5 NN k ax ax.length i (v, d, bs) st) ax ?_ ?_ [] ha ⟨by simp, by simp⟩ (by omega) NN (NN_lt (by omega))
  · rw [foldi_foldl] at this
    exact this
  · intro k st _
    simp [impl_MissingLines.l5, impl_MissingLines.g5]
  · intro k p l r st hx hl hI c0 c1 c2 cw g
    have h1 := lineOk_iff.1 hl
    have h2 := cntL_bd l.1 bs hb
    have e1 := w64 (n := l.2 - cntL l.1 bs) (by omega) (by omega)
    refine ⟨by rw [List.length_append, List.length_singleton]; exact missF_ok bs hb st l hl p.length hI, ?_⟩
    simp only [impl_MissingLines.l5, impl_MissingLines.g5, c0, c1, cw, and_self, and_true, true_and, decide_true, decide_false, if_true, if_false, mid_get, mid_set, mid_getn, mid_setn, bt_mid, Option.bind_some, Bool.not_true, Bool.not_false, Bool.false_eq_true, Bool.true_eq_false, beq_self_eq_true, bne_self_eq_false, Int.toNat_natCast, g, impl_countIn_f bs l.1 (by omega), e1, decide_eq_true_eq]
    unfold missF
    rw [if_pos (room24' st _ (by omega))]
    split <;> rfl
theorem spec_Missing_l (v w : ByteArray) (d e : Int) (ax bs : List (ByteArray × Int)) (ha : ∀ l ∈ ax, lineOk l = true) (hb : ∀ l ∈ bs, lineOk l = true) (hla : ax.length ≤ 12) (hlb : bs.length ≤ 12) :
    spec_MissingLines.l5 NN NN 0 (w, e, ax) (v, d, bs) [] = some (missL ax bs, 0) := by
  have := (fold_fix (E := fun l => lineOk l = true) (fun p st => st.length ≤ p.length ∧ ∀ x ∈ st, lineOk x = true) (fun _ => missF bs) (fun st => some (st, (0 : Int))) (fun k i st => spec_MissingLines.l5 NN k i (w, e, ax) (v, d, bs) st) ax ?_ ?_ [] ha ⟨by simp, by simp⟩ (by omega) NN (NN_lt (by omega))).2
  · rw [foldi_foldl] at this
    exact this
  · intro k st _
    simp [spec_MissingLines.l5, spec_MissingLines.g5]
  · intro k p l r st hx hl hI c0 c1 c2 cw g
    have h1 := lineOk_iff.1 hl
    have h2 := cntL_bd l.1 bs hb
    have e1 := w64 (n := l.2 - cntL l.1 bs) (by omega) (by omega)
    refine ⟨by rw [List.length_append, List.length_singleton]; exact missF_ok bs hb st l hl p.length hI, ?_⟩
    simp only [spec_MissingLines.l5, spec_MissingLines.g5, c0, c1, cw, and_self, and_true, true_and, decide_true, decide_false, if_true, if_false, mid_get, mid_set, mid_getn, mid_setn, bt_mid, Option.bind_some, Bool.not_true, Bool.not_false, Bool.false_eq_true, Bool.true_eq_false, beq_self_eq_true, bne_self_eq_false, Int.toNat_natCast, g]
    rw [spec_l29Find_f _ _ (by simp only; omega)]
    simp only [Option.bind_some]
    unfold missF
    have hc := cntL_first l.1 bs 0
    cases hf : firstOf (fun x : ByteArray × Int => decide (x.1 = l.1)) 0 bs with
    | none =>
      rw [hf] at hc
      simp only [Option.elim] at hc
      rw [hc]
      simp only [Option.elim, hf]
      have n1 : ¬ (0 : Int) ≤ -1 := by omega
      simp only [n1, and_self, and_true, true_and, decide_true, decide_false, if_true, if_false, mid_get, mid_set, mid_getn, mid_setn, bt_mid, Option.bind_some, Bool.not_true, Bool.not_false, Bool.false_eq_true, Bool.true_eq_false, beq_self_eq_true, bne_self_eq_false, Int.toNat_natCast, Int.sub_zero]
      rw [if_pos (room24' st _ (by omega))]
      simp only [decide_eq_true_eq]
      split <;> rfl
    | some x =>
      obtain ⟨j, y⟩ := x
      obtain ⟨f1, f2, f3, f4⟩ := firstOf_spec _ _ _ _ _ hf
      rw [hf] at hc
      simp only [Option.elim] at hc
      simp only [Option.elim, hf]
      have n1 : (0 : Int) ≤ (j : Int) := by omega
      have n2 : (j : Int) < (bs.length : Int) := by omega
      have g2 : ∀ z, bs.getD j z = y := fun z => by
        rw [List.getD_eq_getElem?_getD, show j = j - 0 by omega, f3]; rfl
      rw [hc] at e1 ⊢
      simp only [n1, n2, and_self, and_true, true_and, decide_true, decide_false, if_true, if_false, mid_get, mid_set, mid_getn, mid_setn, bt_mid, Option.bind_some, Bool.not_true, Bool.not_false, Bool.false_eq_true, Bool.true_eq_false, beq_self_eq_true, bne_self_eq_false, Int.toNat_natCast, g2, e1]
      rw [if_pos (room24' st _ (by omega))]
      simp only [decide_eq_true_eq]
      split <;> rfl
theorem paperB_iff {p : ByteArray × Int × List (ByteArray × Int)} (h : paperB p = true) : wordB p.1 = true ∧ (0 ≤ p.2.1 ∧ p.2.1 ≤ 100000) ∧ linesB p.2.2 = true := by
  unfold paperB at h
  simp only [Bool.and_eq_true, inB_iff] at h
  exact ⟨h.1.1, h.1.2, h.2⟩
theorem lines_ok {xs : List (ByteArray × Int)} (h1 : xs.length ≤ 1000000) (h2 : ∀ l ∈ xs, lineOk l = true) : Lm OkLine xs := ⟨h1, fun l hl => by
  have h3 := lineOk_iff.1 (h2 l hl)
  have := wordB_size h3.1
  exact ⟨by unfold Sm; omega, wf64.2 (by omega)⟩⟩
theorem MissingLines_core (a b : ByteArray × Int × List (ByteArray × Int)) (ha : OkPaper a) (hb : OkPaper b) : ∃ w, spec_MissingLines.f a b = some w ∧ impl_MissingLines.f a b = some w ∧ Lm OkLine w.1 := by
  unfold spec_MissingLines.f spec_MissingLines.fn spec_MissingLines.top impl_MissingLines.f impl_MissingLines.fn impl_MissingLines.top
  rw [spec_IsPaper_f a ha, spec_IsPaper_f b hb, impl_IsPaper_f a ha, impl_IsPaper_f b hb]
  cases h1 : paperB a
  · exact ⟨([], 1), rfl, rfl, by simp, by simp⟩
  cases h2 : paperB b
  · exact ⟨([], 1), rfl, rfl, by simp, by simp⟩
  have p1 := linesB_ok (paperB_iff h1).2.2
  have p2 := linesB_ok (paperB_iff h2).2.2
  obtain ⟨w, e, ax⟩ := a
  obtain ⟨v, d, bs⟩ := b
  have q1 := impl_Missing_l v d ax bs p1.2 p2.2 p1.1 p2.1
  have q2 := spec_Missing_l v w d e ax bs p1.2 p2.2 p1.1 p2.1
  have p11 : ax.length ≤ 12 := p1.1
  exact ⟨(missL ax bs, 0), q2, q1.2, lines_ok (by simp only; omega) q1.1.2⟩
end Go.Pl

namespace Go.Pl
open Go.Ev
set_option linter.unusedVariables false
set_option linter.unusedSimpArgs false
abbrev Art : Type := ByteArray × Int × Int × Int × Int × Int × Int × Int × Int
def artB (a : Art) : Bool := wordB a.1 && inB a.2.1 0 3 && inB a.2.2.1 20 300 && inB a.2.2.2.1 0 10000 && inB a.2.2.2.2.1 0 a.2.2.2.1 && inB a.2.2.2.2.2.1 1 50 && inB a.2.2.2.2.2.2.1 0 10000 && inB a.2.2.2.2.2.2.2.1 1 100000 && inB a.2.2.2.2.2.2.2.2 0 3
theorem impl_IsArticle_f (a : Art) (h : Sz a.1) : impl_IsArticle.f a = some (artB a) := by
  unfold impl_IsArticle.f impl_IsArticle.fn impl_IsArticle.top artB
  simp only [impl_IsWord_f _ h, impl_within_f, Option.bind_some]
  cases wordB a.1
  · rfl
  cases inB a.2.1 0 3
  · rfl
  cases inB a.2.2.1 20 300
  · rfl
  cases inB a.2.2.2.1 0 10000
  · rfl
  cases inB a.2.2.2.2.1 0 a.2.2.2.1
  · rfl
  cases inB a.2.2.2.2.2.1 1 50
  · rfl
  cases inB a.2.2.2.2.2.2.1 0 10000
  · rfl
  cases inB a.2.2.2.2.2.2.2.1 1 100000
  · rfl
  · rfl
theorem spec_IsArticle_f (a : Art) (h : Sz a.1) : spec_IsArticle.f a = some (artB a) := by
  unfold spec_IsArticle.f spec_IsArticle.fn spec_IsArticle.top artB
  simp only [spec_IsWord_f _ h, spec_l01In_f, Option.bind_some]
  cases wordB a.1
  · rfl
  cases inB a.2.1 0 3
  · rfl
  cases inB a.2.2.1 20 300
  · rfl
  cases inB a.2.2.2.1 0 10000
  · rfl
  cases inB a.2.2.2.2.1 0 a.2.2.2.1
  · rfl
  cases inB a.2.2.2.2.2.1 1 50
  · rfl
  cases inB a.2.2.2.2.2.2.1 0 10000
  · rfl
  cases inB a.2.2.2.2.2.2.2.1 1 100000
  · rfl
  · rfl
/-- articles, looked at from the second on -/
def artsF : Art → List Art → Bool
  | _, [] => true
  | x, a :: r => artB a && ltS x.1 a.1 && artsF a r
def artsL : List Art → Bool
  | [] => true
  | a :: r => artB a && artsF a r
def artsB (xs : List Art) : Bool := decide (xs.length ≤ 12) && artsL xs
noncomputable def impl_arts_call (k : Nat) (xs : List Art) (i : Int) := impl_AreArticles.l4 NN k xs xs xs.length i
noncomputable def spec_arts_call (k : Nat) (xs : List Art) (i : Int) := spec_AreArticles.l2 NN k xs i
theorem impl_arts_loop : ∀ (r p : List Art) (x : Art) (k : Nat), p.length + r.length + 1 ≤ 140737488355328 → r.length < k → (∀ a ∈ r, Sz a.1) →
    impl_arts_call k (p ++ [x] ++ r) ((p.length : Int) + 1) = if artsF x r = true then some ((fun _ => true) (p ++ [x] ++ r)) else some false := by
  intro r
  induction r with
  | nil =>
    intro p x k _ hk _
    obtain ⟨k, rfl⟩ : ∃ j, k = j + 1 := ⟨k - 1, by omega⟩
    have n1 : ¬ (p.length : Int) + 1 < ((p ++ [x] ++ []).length : Int) := by simp
    simp only [impl_arts_call, impl_AreArticles.l4, impl_AreArticles.g4, n1, decide_false, Bool.false_eq_true, if_false, artsF, if_true]
  | cons a r ih =>
    intro p x k hb hk hz
    simp only [List.length_cons] at hb hk
    obtain ⟨k, rfl⟩ : ∃ j, k = j + 1 := ⟨k - 1, by omega⟩
    have hl : ((p ++ [x] ++ a :: r).length : Int) = p.length + r.length + 2 := by simp; omega
    have w1 := w64 (n := (p.length : Int) + 1 - 1) (by omega) (by omega)
    have w2 := w64 (n := (p.length : Int) + 1 + 1) (by omega) (by omega)
    have c1 : (p.length : Int) + 1 < ((p ++ [x] ++ a :: r).length : Int) := by omega
    have c2 : (0 : Int) ≤ (p.length : Int) + 1 - 1 := by omega
    have c3 : (p.length : Int) + 1 - 1 < ((p ++ [x] ++ a :: r).length : Int) := by omega
    have c4 : (0 : Int) ≤ (p.length : Int) + 1 := by omega
    have c5 : (0 : Int) < (p.length : Int) + 1 := by omega
    have g1 : ∀ z, (p ++ [x] ++ a :: r).getD ((p.length : Int) + 1).toNat z = a := fun z => by
      rw [show ((p.length : Int) + 1).toNat = (p ++ [x]).length by simp, mid_getn]
    have g2 : ∀ z, (p ++ [x] ++ a :: r).getD ((p.length : Int) + 1 - 1).toNat z = x := fun z => by
      rw [show ((p.length : Int) + 1 - 1).toNat = p.length by omega, snoc_getl']
    have i1 := ih (p ++ [x]) a k (by simp; omega) (by omega) (fun b hb => hz b (by simp [hb]))
    have e1 : (((p ++ [x]).length : Nat) : Int) + 1 = (p.length : Int) + 1 + 1 := by simp
    have e2 : p ++ [x] ++ [a] ++ r = p ++ [x] ++ a :: r := by simp
    rw [e1, e2] at i1
    simp only [impl_arts_call] at i1
    simp only [impl_arts_call, impl_AreArticles.l4, impl_AreArticles.g4, w1, w2, c1, c2, c3, c4, c5, g1, g2, and_self, decide_true, if_true, Option.bind_some, impl_IsArticle_f a (hz a (by simp)), artsF]
    rcases Bool.eq_false_or_eq_true (artB a) with h1 | h1
    · rcases Bool.eq_false_or_eq_true (ltS x.1 a.1) with h2 | h2
      · have h2' : Op.bytesLess x.1.toList a.1.toList = true := h2
        simp only [h1, h2, h2', Bool.not_true, Bool.false_eq_true, if_false, if_true, Bool.true_and, Bool.and_true]
        exact i1
      · have h2' : Op.bytesLess x.1.toList a.1.toList = false := h2
        simp [h1, h2, h2']
    · simp [h1]
theorem impl_arts_all (xs : List Art) (hb : xs.length ≤ 140737488355328) (hz : ∀ a ∈ xs, Sz a.1) : impl_arts_call NN xs 0 = if artsL xs = true then some ((fun _ => true) xs) else some false := by
  obtain ⟨k, hk⟩ : ∃ j, NN = j + 1 := ⟨NN - 1, by have := NNb; omega⟩
  have hkb : 1000000000000000 < k := by rw [NN_eq] at hk; omega
  unfold impl_arts_call
  rw [show impl_AreArticles.l4 NN NN = impl_AreArticles.l4 NN (k + 1) by rw [← hk]]
  cases xs with
  | nil =>
    have n1 : ¬ (0 : Int) < (([] : List Art).length : Int) := by simp
    simp only [impl_AreArticles.l4, impl_AreArticles.g4, n1, decide_false, Bool.false_eq_true, if_false, artsL, if_true]
  | cons a r =>
    simp only [List.length_cons] at hb
    have i1 := impl_arts_loop r [] a k (by simp; omega) (by omega) (fun b hb => hz b (by simp [hb]))
    simp only [impl_arts_call, List.nil_append, List.length_nil] at i1
    have n1 : (0 : Int) < ((a :: r).length : Int) := by simp only [List.length_cons]; omega
    have w2 := w64 (n := (0 : Int) + 1) (by omega) (by omega)
    have g1 : ∀ z, (a :: r).getD (0 : Int).toNat z = a := fun z => rfl
    simp only [impl_AreArticles.l4, impl_AreArticles.g4, n1, w2, g1, Int.le_refl, Int.lt_irrefl, and_self, decide_true, decide_false, if_true, Option.bind_some, impl_IsArticle_f a (hz a (by simp)), artsL]
    rcases Bool.eq_false_or_eq_true (artB a) with h1 | h1
    · simp only [h1, Bool.not_true, Bool.false_eq_true, if_false, if_true, Bool.true_and]
      exact i1
    · simp [h1]
theorem spec_arts_loop : ∀ (r p : List Art) (x : Art) (k : Nat), p.length + r.length + 1 ≤ 140737488355328 → r.length < k → (∀ a ∈ r, Sz a.1) →
    spec_arts_call k (p ++ [x] ++ r) ((p.length : Int) + 1) = if artsF x r = true then some ((fun xs : List Art => decide (((xs.length : Int) : Int) ≤ 12)) (p ++ [x] ++ r)) else some false := by
  intro r
  induction r with
  | nil =>
    intro p x k _ hk _
    obtain ⟨k, rfl⟩ : ∃ j, k = j + 1 := ⟨k - 1, by omega⟩
    have n1 : ¬ (p.length : Int) + 1 < ((p ++ [x] ++ []).length : Int) := by simp
    simp only [spec_arts_call, spec_AreArticles.l2, spec_AreArticles.g2, n1, decide_false, Bool.false_eq_true, if_false, artsF, if_true]
  | cons a r ih =>
    intro p x k hb hk hz
    simp only [List.length_cons] at hb hk
    obtain ⟨k, rfl⟩ : ∃ j, k = j + 1 := ⟨k - 1, by omega⟩
    have hl : ((p ++ [x] ++ a :: r).length : Int) = p.length + r.length + 2 := by simp; omega
    have w1 := w64 (n := (p.length : Int) + 1 - 1) (by omega) (by omega)
    have w2 := w64 (n := (p.length : Int) + 1 + 1) (by omega) (by omega)
    have c1 : (p.length : Int) + 1 < ((p ++ [x] ++ a :: r).length : Int) := by omega
    have c2 : (0 : Int) ≤ (p.length : Int) + 1 - 1 := by omega
    have c3 : (p.length : Int) + 1 - 1 < ((p ++ [x] ++ a :: r).length : Int) := by omega
    have c4 : (0 : Int) ≤ (p.length : Int) + 1 := by omega
    have c5 : (0 : Int) < (p.length : Int) + 1 := by omega
    have g1 : ∀ z, (p ++ [x] ++ a :: r).getD ((p.length : Int) + 1).toNat z = a := fun z => by
      rw [show ((p.length : Int) + 1).toNat = (p ++ [x]).length by simp, mid_getn]
    have g2 : ∀ z, (p ++ [x] ++ a :: r).getD ((p.length : Int) + 1 - 1).toNat z = x := fun z => by
      rw [show ((p.length : Int) + 1 - 1).toNat = p.length by omega, snoc_getl']
    have i1 := ih (p ++ [x]) a k (by simp; omega) (by omega) (fun b hb => hz b (by simp [hb]))
    have e1 : (((p ++ [x]).length : Nat) : Int) + 1 = (p.length : Int) + 1 + 1 := by simp
    have e2 : p ++ [x] ++ [a] ++ r = p ++ [x] ++ a :: r := by simp
    rw [e1, e2] at i1
    simp only [spec_arts_call] at i1
    simp only [spec_arts_call, spec_AreArticles.l2, spec_AreArticles.g2, w1, w2, c1, c2, c3, c4, c5, g1, g2, and_self, decide_true, if_true, Option.bind_some, spec_IsArticle_f a (hz a (by simp)), artsF]
    rcases Bool.eq_false_or_eq_true (artB a) with h1 | h1
    · rcases Bool.eq_false_or_eq_true (ltS x.1 a.1) with h2 | h2
      · have h2' : Op.bytesLess x.1.toList a.1.toList = true := h2
        simp only [h1, h2, h2', Bool.not_true, Bool.false_eq_true, if_false, if_true, Bool.true_and, Bool.and_true]
        exact i1
      · have h2' : Op.bytesLess x.1.toList a.1.toList = false := h2
        simp [h1, h2, h2']
    · simp [h1]
theorem spec_arts_all (xs : List Art) (hb : xs.length ≤ 140737488355328) (hz : ∀ a ∈ xs, Sz a.1) : spec_arts_call NN xs 0 = if artsL xs = true then some ((fun xs : List Art => decide (((xs.length : Int) : Int) ≤ 12)) xs) else some false := by
  obtain ⟨k, hk⟩ : ∃ j, NN = j + 1 := ⟨NN - 1, by have := NNb; omega⟩
  have hkb : 1000000000000000 < k := by rw [NN_eq] at hk; omega
  unfold spec_arts_call
  rw [show spec_AreArticles.l2 NN NN = spec_AreArticles.l2 NN (k + 1) by rw [← hk]]
  cases xs with
  | nil =>
    have n1 : ¬ (0 : Int) < (([] : List Art).length : Int) := by simp
    simp only [spec_AreArticles.l2, spec_AreArticles.g2, n1, decide_false, Bool.false_eq_true, if_false, artsL, if_true]
  | cons a r =>
    simp only [List.length_cons] at hb
    have i1 := spec_arts_loop r [] a k (by simp; omega) (by omega) (fun b hb => hz b (by simp [hb]))
    simp only [spec_arts_call, List.nil_append, List.length_nil] at i1
    have n1 : (0 : Int) < ((a :: r).length : Int) := by simp only [List.length_cons]; omega
    have w2 := w64 (n := (0 : Int) + 1) (by omega) (by omega)
    have g1 : ∀ z, (a :: r).getD (0 : Int).toNat z = a := fun z => rfl
    simp only [spec_AreArticles.l2, spec_AreArticles.g2, n1, w2, g1, Int.le_refl, Int.lt_irrefl, and_self, decide_true, decide_false, if_true, Option.bind_some, spec_IsArticle_f a (hz a (by simp)), artsL]
    rcases Bool.eq_false_or_eq_true (artB a) with h1 | h1
    · simp only [h1, Bool.not_true, Bool.false_eq_true, if_false, if_true, Bool.true_and]
      exact i1
    · simp [h1]
theorem impl_AreArticles_f (xs : List Art) (hb : xs.length ≤ 140737488355328) (hz : ∀ a ∈ xs, Sz a.1) : impl_AreArticles.f xs = some (artsB xs) := by
  unfold impl_AreArticles.f impl_AreArticles.fn impl_AreArticles.top artsB
  have := impl_arts_all xs hb hz
  unfold impl_arts_call at this
  by_cases h : (12 : Int) < (xs.length : Int)
  · have h2 : ¬ xs.length ≤ 12 := by omega
    simp only [h, h2, decide_true, decide_false, if_true, Bool.false_and]
  · have h2 : xs.length ≤ 12 := by omega
    simp only [h, h2, decide_true, decide_false, Bool.false_eq_true, if_false, Bool.true_and]
    rw [this]
    cases artsL xs <;> rfl
theorem spec_AreArticles_f (xs : List Art) (hb : xs.length ≤ 140737488355328) (hz : ∀ a ∈ xs, Sz a.1) : spec_AreArticles.f xs = some (artsB xs) := by
  unfold spec_AreArticles.f spec_AreArticles.fn spec_AreArticles.top artsB
  have := spec_arts_all xs hb hz
  unfold spec_arts_call at this
  rw [this]
  have e : decide (((xs.length : Int) : Int) ≤ 12) = decide (xs.length ≤ 12) := by
    by_cases h : xs.length ≤ 12
    · have : (xs.length : Int) ≤ 12 := by omega
      simp [h, this]
    · have : ¬ (xs.length : Int) ≤ 12 := by omega
      simp [h, this]
  simp only [e]
  cases artsL xs <;> simp
theorem artsF_ok : ∀ (r : List Art) (x : Art), artsF x r = true → ∀ a ∈ r, artB a = true := by
  intro r
  induction r with
  | nil => intro x _ a ha; cases ha
  | cons b r ih =>
    intro x h a ha
    simp only [artsF, Bool.and_eq_true] at h
    rcases List.mem_cons.1 ha with rfl | ha
    · exact h.1.1
    · exact ih b h.2 a ha
theorem artsB_ok {xs : List Art} (h : artsB xs = true) : xs.length ≤ 12 ∧ ∀ a ∈ xs, artB a = true := by
  unfold artsB at h
  simp only [Bool.and_eq_true, decide_eq_true_eq] at h
  refine ⟨h.1, ?_⟩
  cases xs with
  | nil => intro a ha; cases ha
  | cons b r =>
    intro a ha
    have h2 := h.2
    simp only [artsL, Bool.and_eq_true] at h2
    rcases List.mem_cons.1 ha with rfl | ha
    · exact h2.1
    · exact artsF_ok r b h2.2 a ha
theorem artB_iff {a : Art} (h : artB a = true) : wordB a.1 = true ∧ (0 ≤ a.2.1 ∧ a.2.1 ≤ 3) ∧ (20 ≤ a.2.2.1 ∧ a.2.2.1 ≤ 300) ∧ (1 ≤ a.2.2.2.2.2.2.2.1 ∧ a.2.2.2.2.2.2.2.1 ≤ 100000) ∧ (0 ≤ a.2.2.2.2.2.2.2.2 ∧ a.2.2.2.2.2.2.2.2 ≤ 3) := by
  unfold artB at h
  simp only [Bool.and_eq_true, inB_iff] at h
  exact ⟨h.1.1.1.1.1.1.1.1, h.1.1.1.1.1.1.1.2, h.1.1.1.1.1.1.2, h.1.2, h.2⟩
/-- the number of an article, or -1 -/
def artI (xs : List Art) (c : ByteArray) : Int := (firstOf (fun l : Art => decide (l.1 = c)) 0 xs).elim (-1) (fun x => (x.1 : Int))
theorem impl_articleOf_f (xs : List Art) (c : ByteArray) (h : xs.length ≤ 140737488355328) : impl_articleOf.f xs c = some (artI xs c) := by
  have := find_loop (E := fun _ => True) (fun l : Art => decide (l.1 = c)) (fun i _ => some (i : Int)) (fun _ => some (-1)) (fun k xs i => impl_articleOf.l2 NN k c xs xs.length i) ?_ ?_ xs (fun _ _ => trivial) (by omega) NN (NN_lt (by omega))
  · refine this.trans ?_
    unfold artI
    cases firstOf (fun l : Art => decide (l.1 = c)) 0 xs <;> rfl
  · intro k p
    simp [impl_articleOf.l2, impl_articleOf.g2]
  · intro k p l r _ c0 c1 c2 cw
    simp only [impl_articleOf.l2, impl_articleOf.g2, c0, c1, cw, and_self, and_true, true_and, decide_true, decide_false, if_true, if_false, mid_get, mid_set, mid_getn, mid_setn, bt_mid, Option.bind_some, Bool.not_true, Bool.not_false, Bool.false_eq_true, Bool.true_eq_false, beq_self_eq_true, bne_self_eq_false, Int.toNat_natCast, ba_beq]
theorem spec_l03Find_f (xs : List Art) (c : ByteArray) (h : xs.length ≤ 140737488355328) : spec_l03Find.f xs c = some (artI xs c) := by
  have := find_loop (E := fun _ => True) (fun l : Art => decide (l.1 = c)) (fun i _ => some (i : Int)) (fun _ => some (-1)) (fun k xs i => spec_l03Find.l2 NN k xs c i) ?_ ?_ xs (fun _ _ => trivial) (by omega) NN (NN_lt (by omega))
  · refine this.trans ?_
    unfold artI
    cases firstOf (fun l : Art => decide (l.1 = c)) 0 xs <;> rfl
  · intro k p
    simp [spec_l03Find.l2, spec_l03Find.g2]
  · intro k p l r _ c0 c1 c2 cw
    simp only [spec_l03Find.l2, spec_l03Find.g2, c0, c1, cw, and_self, and_true, true_and, decide_true, decide_false, if_true, if_false, mid_get, mid_set, mid_getn, mid_setn, bt_mid, Option.bind_some, Bool.not_true, Bool.not_false, Bool.false_eq_true, Bool.true_eq_false, beq_self_eq_true, bne_self_eq_false, Int.toNat_natCast, ba_beq]
theorem artI_bd (xs : List Art) (c : ByteArray) : artI xs c < (xs.length : Int) := by
  unfold artI
  cases h : firstOf (fun l : Art => decide (l.1 = c)) 0 xs with
  | none => simp only [Option.elim_none]; omega
  | some x =>
    have := firstOf_spec _ xs 0 x.1 x.2 h
    simp only [Option.elim_some]; omega
theorem firstOf_none {α : Type} (P : α → Bool) : ∀ (xs : List α) (i : Nat), firstOf P i xs = none → ∀ x ∈ xs, P x = false := by
  intro xs
  induction xs with
  | nil => intro i _ x hx; cases hx
  | cons a r ih =>
    intro i h x hx
    simp only [firstOf] at h
    split at h
    · cases h
    · rename_i hp
      rcases List.mem_cons.1 hx with rfl | hx
      · simpa using hp
      · exact ih _ h x hx
end Go.Pl

namespace Go.Pl
open Go.Ev
set_option linter.unusedVariables false
set_option linter.unusedSimpArgs false
abbrev Cue : Type := Int × Int × ByteArray × Int
abbrev Show : Type := List (Int × Int) × List Art × List Cue
def barB (b : Int × Int) : Bool := inB b.1 1 16 && inB b.2 100 5000
def scoreB (s : List (Int × Int)) : Bool := inB (s.length : Int) 1 20 && s.all barB
theorem impl_IsScore_f (s : List (Int × Int)) (h : s.length ≤ 140737488355328) : impl_IsScore.f s = some (scoreB s) := by
  have := all_loop (E := fun _ => True) barB (fun _ => some true) (fun k xs i => impl_IsScore.l4 NN k xs xs.length i) ?_ ?_ s (fun _ _ => trivial) (by omega) NN (NN_lt (by omega))
  · unfold impl_IsScore.f impl_IsScore.fn impl_IsScore.top scoreB
    rw [this]
    by_cases h1 : (s.length : Int) < 1
    · have : inB (s.length : Int) 1 20 = false := by
        rw [Bool.eq_false_iff]; intro e; have := inB_iff.1 e; omega
      simp [h1, this]
    · by_cases h2 : (20 : Int) < (s.length : Int)
      · have : inB (s.length : Int) 1 20 = false := by
          rw [Bool.eq_false_iff]; intro e; have := inB_iff.1 e; omega
        simp [h1, h2, this]
      · have : inB (s.length : Int) 1 20 = true := inB_iff.2 (by omega)
        simp only [h1, h2, this, decide_false, Bool.false_eq_true, if_false, if_true, Bool.true_and]
        cases s.all barB <;> rfl
  · intro k p
    simp [impl_IsScore.l4, impl_IsScore.g4]
  · intro k p a r _ c0 c1 cw
    simp only [impl_IsScore.l4, impl_IsScore.g4, c0, c1, cw, and_self, and_true, true_and, decide_true, decide_false, if_true, if_false, mid_get, mid_set, mid_getn, mid_setn, bt_mid, Option.bind_some, Bool.not_true, Bool.not_false, Bool.false_eq_true, Bool.true_eq_false, beq_self_eq_true, bne_self_eq_false, Int.toNat_natCast, impl_within_f, barB]
    rcases Bool.eq_false_or_eq_true (inB a.1 1 16) with h1 | h1 <;> rcases Bool.eq_false_or_eq_true (inB a.2 100 5000) with h2 | h2 <;> simp [h1, h2]
theorem spec_IsScore_f (s : List (Int × Int)) (h : s.length ≤ 140737488355328) : spec_IsScore.f s = some (scoreB s) := by
  have := all_loop (E := fun _ => True) barB (fun xs => some (inB (xs.length : Int) 1 20)) (fun k xs i => spec_IsScore.l2 NN k xs i) ?_ ?_ s (fun _ _ => trivial) (by omega) NN (NN_lt (by omega))
  · unfold spec_IsScore.f spec_IsScore.fn spec_IsScore.top scoreB
    rw [this]
    cases s.all barB <;> simp
  · intro k p
    simp [spec_IsScore.l2, spec_IsScore.g2, spec_l01In_f]
  · intro k p a r _ c0 c1 cw
    simp only [spec_IsScore.l2, spec_IsScore.g2, c0, c1, cw, and_self, and_true, true_and, decide_true, decide_false, if_true, if_false, mid_get, mid_set, mid_getn, mid_setn, bt_mid, Option.bind_some, Bool.not_true, Bool.not_false, Bool.false_eq_true, Bool.true_eq_false, beq_self_eq_true, bne_self_eq_false, Int.toNat_natCast, spec_l01In_f, barB]
    rcases Bool.eq_false_or_eq_true (inB a.1 1 16) with h1 | h1 <;> rcases Bool.eq_false_or_eq_true (inB a.2 100 5000) with h2 | h2 <;> simp [h1, h2]
theorem scoreB_iff {s : List (Int × Int)} (h : scoreB s = true) : 1 ≤ s.length ∧ s.length ≤ 20 ∧ ∀ b ∈ s, (1 ≤ b.1 ∧ b.1 ≤ 16) ∧ (100 ≤ b.2 ∧ b.2 ≤ 5000) := by
  unfold scoreB at h
  rw [Bool.and_eq_true, inB_iff] at h
  refine ⟨by omega, by omega, fun b hb => ?_⟩
  have := List.all_eq_true.1 h.2 b hb
  unfold barB at this
  rw [Bool.and_eq_true, inB_iff, inB_iff] at this
  exact this
theorem impl_isIndex_f (i : Int) {n : Int} (h0 : -1000000 ≤ n) (h1 : n ≤ 140737488355328) : impl_isIndex.f i n = some (inB i 0 (n - 1)) := by
  unfold impl_isIndex.f impl_isIndex.fn impl_isIndex.top
  rw [w64 (n := n - 1) (by omega) (by omega), impl_within_f]; rfl
def beatB (s : List (Int × Int)) (bar beat : Int) : Bool := inB bar 0 ((s.length : Int) - 1) && inB beat 0 ((s.getD bar.toNat (0, 0)).1 - 1)
theorem bar_mem {s : List (Int × Int)} {i : Nat} (h : i < s.length) : s.getD i (0, 0) ∈ s := by
  rw [List.getD_eq_getElem?_getD, List.getElem?_eq_getElem h]; exact List.getElem_mem h
theorem beat_both {s : List (Int × Int)} (h : scoreB s = true) (bar beat : Int) : impl_isBeat.f s bar beat = some (beatB s bar beat) ∧ spec_l07Has.f s bar beat = some (beatB s bar beat) := by
  obtain ⟨h1, h2, h3⟩ := scoreB_iff h
  unfold impl_isBeat.f impl_isBeat.fn impl_isBeat.top spec_l07Has.f spec_l07Has.fn spec_l07Has.top beatB
  rw [impl_isIndex_f bar (n := (s.length : Int)) (by omega) (by omega), w64 (n := (s.length : Int) - 1) (by omega) (by omega), spec_l01In_f]
  cases hb : inB bar 0 ((s.length : Int) - 1)
  · exact ⟨rfl, rfl⟩
  · have hbb := inB_iff.1 hb
    have hm := h3 _ (bar_mem (s := s) (i := bar.toNat) (by omega))
    have w := w64 (n := (s.getD bar.toNat (0, 0)).1 - 1) (by omega) (by omega)
    simp only [Option.bind_some, if_true, hbb.1, show bar < (s.length : Int) from by omega, and_self, w, impl_within_f, spec_l01In_f, Bool.true_and]
def barF (t : Int) (b : Int × Int) : Int := t + b.1 * b.2
def barsL (s : List (Int × Int)) (n : Nat) : Int := (s.take n).foldl barF 0
def timeL (s : List (Int × Int)) (bar beat : Int) : Int := barsL s bar.toNat + beat * (s.getD bar.toNat (0, 0)).2
theorem bar_bd {b : Int × Int} (h : (1 ≤ b.1 ∧ b.1 ≤ 16) ∧ (100 ≤ b.2 ∧ b.2 ≤ 5000)) : 0 ≤ b.1 * b.2 ∧ b.1 * b.2 ≤ 80000 := by
  refine ⟨Int.mul_nonneg (by omega) (by omega), ?_⟩
  have := Int.mul_le_mul h.1.2 h.2.2 (by omega) (by omega)
  omega
theorem beat_bd {s : List (Int × Int)} (h : scoreB s = true) {bar beat : Int} (hb : beatB s bar beat = true) : 0 ≤ bar ∧ bar < (s.length : Int) ∧ 0 ≤ beat ∧ beat ≤ 15 ∧ 0 ≤ beat * (s.getD bar.toNat (0, 0)).2 ∧ beat * (s.getD bar.toNat (0, 0)).2 ≤ 75000 := by
  obtain ⟨h1, h2, h3⟩ := scoreB_iff h
  unfold beatB at hb
  rw [Bool.and_eq_true, inB_iff, inB_iff] at hb
  have hm := h3 _ (bar_mem (s := s) (i := bar.toNat) (by omega))
  have := Int.mul_le_mul (show beat ≤ 15 by omega) hm.2.2 (by omega) (by omega)
  exact ⟨by omega, by omega, by omega, by omega, Int.mul_nonneg (by omega) (by omega), by omega⟩
theorem barsL_bd {s : List (Int × Int)} (h : scoreB s = true) (n : Nat) : 0 ≤ barsL s n ∧ barsL s n ≤ 1600000 := by
  obtain ⟨h1, h2, h3⟩ := scoreB_iff h
  have key : ∀ (l : List (Int × Int)) (t : Int), (∀ b ∈ l, (1 ≤ b.1 ∧ b.1 ≤ 16) ∧ (100 ≤ b.2 ∧ b.2 ≤ 5000)) → t ≤ l.foldl barF t ∧ l.foldl barF t ≤ t + 80000 * (l.length : Int) := by
    intro l
    induction l with
    | nil => intro t _; simp
    | cons b l ih =>
      intro t hl
      have i := ih (barF t b) (fun x hx => hl x (by simp [hx]))
      have := bar_bd (hl b (by simp))
      unfold barF at i ⊢
      simp only [List.foldl_cons, List.length_cons]
      omega
  have := key (s.take n) 0 (fun b hb => h3 b (List.mem_of_mem_take hb))
  have hl : (s.take n).length ≤ 20 := by rw [List.length_take]; omega
  unfold barsL
  omega
theorem impl_beatTime_f {s : List (Int × Int)} (h : scoreB s = true) {bar beat : Int} (hb : beatB s bar beat = true) : impl_beatTime.f s bar beat = some (timeL s bar beat) := by
  obtain ⟨h1, h2, h3⟩ := scoreB_iff h
  obtain ⟨b1, b2, b3, b4, b5, b6⟩ := beat_bd h hb
  have hB := barsL_bd h bar.toNat
  have htl : (s.take bar.toNat).length ≤ 20 := by rw [List.length_take]; omega
  have := (fold_fix (E := fun b : Int × Int => (1 ≤ b.1 ∧ b.1 ≤ 16) ∧ (100 ≤ b.2 ∧ b.2 ≤ 5000)) (fun p st => 0 ≤ st ∧ st ≤ 80000 * (p.length : Int)) (fun _ => barF) (fun st => some (if 0 < beat then IntKind.i64.wrap (st + IntKind.i64.wrap (beat * (s.getD bar.toNat (0, 0)).2)) else st)) (fun k i st => impl_beatTime.l3 NN k s bar beat st (s.take bar.toNat) (s.take bar.toNat).length i) (s.take bar.toNat) ?_ ?_ 0 (fun b hb => h3 b (List.mem_of_mem_take hb)) ⟨by omega, by simp⟩ (by omega) NN (NN_lt (by omega))).2
  · rw [foldi_foldl] at this
    unfold impl_beatTime.f impl_beatTime.fn impl_beatTime.top
    rw [if_pos ⟨b1, by omega⟩]
    refine this.trans ?_
    show some (if 0 < beat then IntKind.i64.wrap (barsL s bar.toNat + IntKind.i64.wrap (beat * (s.getD bar.toNat (0, 0)).2)) else barsL s bar.toNat) = _
    unfold timeL
    by_cases hz : 0 < beat
    · rw [if_pos hz, w64 (n := beat * (s.getD bar.toNat (0, 0)).2) (by omega) (by omega), w64 (by omega) (by omega)]
    · rw [if_neg hz, show beat = 0 by omega]; simp
  · intro k st _
    simp only [impl_beatTime.l3, impl_beatTime.g3, Int.lt_irrefl, decide_false, Bool.false_eq_true, if_false]
    by_cases hz : 0 < beat
    · simp only [hz, decide_true, if_true, b1, b2, and_self]
    · simp only [hz, decide_false, Bool.false_eq_true, if_false]
  · intro k p b r st hx hbb hI c0 c1 c2 cw g
    have hp : p.length ≤ 20 := by omega
    have hbd := bar_bd hbb
    have w1 := w64 (n := b.1 * b.2) (by omega) (by omega)
    have w2 := w64 (n := st + b.1 * b.2) (by omega) (by omega)
    refine ⟨⟨by unfold barF; omega, by unfold barF; simp only [List.length_append, List.length_singleton]; omega⟩, ?_⟩
    simp only [impl_beatTime.l3, impl_beatTime.g3, c0, c1, cw, g, and_self, and_true, true_and, decide_true, decide_false, if_true, if_false, mid_get, mid_set, mid_getn, mid_setn, bt_mid, Option.bind_some, Bool.not_true, Bool.not_false, Bool.false_eq_true, Bool.true_eq_false, beq_self_eq_true, bne_self_eq_false, Int.toNat_natCast, w1, w2]
    rfl
theorem spec_l07Time_f {s : List (Int × Int)} (h : scoreB s = true) {bar beat : Int} (hb : beatB s bar beat = true) : spec_l07Time.f s bar beat = some (timeL s bar beat) := by
  obtain ⟨h1, h2, h3⟩ := scoreB_iff h
  obtain ⟨b1, b2, b3, b4, b5, b6⟩ := beat_bd h hb
  have hB := barsL_bd h bar.toNat
  have htl : (s.take bar.toNat).length = bar.toNat := by rw [List.length_take]; omega
  have := (fold_fix (E := fun b : Int × Int => (1 ≤ b.1 ∧ b.1 ≤ 16) ∧ (100 ≤ b.2 ∧ b.2 ≤ 5000)) (fun p st => 0 ≤ st ∧ st ≤ 80000 * (p.length : Int)) (fun _ => barF) (fun st => some (IntKind.i64.wrap (st + IntKind.i64.wrap (beat * (s.getD bar.toNat (0, 0)).2)))) (fun k i st => spec_l07Time.l3 NN k s bar beat st i) (s.take bar.toNat) ?_ ?_ 0 (fun b hb => h3 b (List.mem_of_mem_take hb)) ⟨by omega, by simp⟩ (by omega) NN (NN_lt (by omega))).2
  · rw [foldi_foldl] at this
    unfold spec_l07Time.f spec_l07Time.fn spec_l07Time.top
    refine this.trans ?_
    show some (IntKind.i64.wrap (barsL s bar.toNat + IntKind.i64.wrap (beat * (s.getD bar.toNat (0, 0)).2))) = _
    unfold timeL
    rw [w64 (n := beat * (s.getD bar.toNat (0, 0)).2) (by omega) (by omega), w64 (by omega) (by omega)]
  · intro k st _
    have n1 : ¬ ((s.take bar.toNat).length : Int) < bar := by omega
    simp only [spec_l07Time.l3, spec_l07Time.g3, n1, decide_false, Bool.false_eq_true, if_false, b1, b2, and_self, if_true]
  · intro k p b r st hx hbb hI c0 c1 c2 cw g
    have hp : p.length ≤ 20 := by omega
    have hbd := bar_bd hbb
    have w1 := w64 (n := b.1 * b.2) (by omega) (by omega)
    have w2 := w64 (n := st + b.1 * b.2) (by omega) (by omega)
    have n1 : (p.length : Int) < bar := by omega
    have n2 : (p.length : Int) < (s.length : Int) := by omega
    have g2 : ∀ z, s.getD p.length z = b := fun z => by
      have := g z
      rw [List.getD_eq_getElem?_getD, List.getElem?_take, if_pos (by omega), ← List.getD_eq_getElem?_getD] at this
      exact this
    refine ⟨⟨by unfold barF; omega, by unfold barF; simp only [List.length_append, List.length_singleton]; omega⟩, ?_⟩
    simp only [spec_l07Time.l3, spec_l07Time.g3, c0, n1, n2, cw, g2, and_self, and_true, true_and, decide_true, decide_false, if_true, if_false, mid_get, mid_set, mid_getn, mid_setn, bt_mid, Option.bind_some, Bool.not_true, Bool.not_false, Bool.false_eq_true, Bool.true_eq_false, beq_self_eq_true, bne_self_eq_false, Int.toNat_natCast, w1, w2]
    rfl
def liftA (xs : List Art) (c : ByteArray) : Int := (xs.getD (artI xs c).toNat (ByteArray.empty, (0, (0, (0, (0, (0, (0, (0, 0))))))))).2.2.2.1
theorem liftA_bd {xs : List Art} (h : artsB xs = true) {c : ByteArray} (h0 : 0 ≤ artI xs c) : 0 ≤ liftA xs c ∧ liftA xs c ≤ 10000 := by
  have hb := artI_bd xs c
  have hm : xs.getD (artI xs c).toNat (ByteArray.empty, (0, (0, (0, (0, (0, (0, (0, 0)))))))) ∈ xs := by
    rw [List.getD_eq_getElem?_getD, List.getElem?_eq_getElem (by omega)]; exact List.getElem_mem _
  have := (artsB_ok h).2 _ hm
  unfold artB at this
  simp only [Bool.and_eq_true, inB_iff] at this
  exact this.1.1.1.1.1.2
def fireT (x : Show) (c : Cue) : Int := timeL x.1 c.1 c.2.1 - liftA x.2.1 c.2.2.1
def cueB (x : Show) (c : Cue) : Bool := inB c.2.2.2 0 11 && decide (0 ≤ artI x.2.1 c.2.2.1) && beatB x.1 c.1 c.2.1 && decide (0 ≤ fireT x c)
theorem impl_firedAt_f (x : Show) (c : Cue) (h1 : scoreB x.1 = true) (h2 : artsB x.2.1 = true) : impl_firedAt.f x c = some (if 0 ≤ artI x.2.1 c.2.2.1 ∧ beatB x.1 c.1 c.2.1 = true then (if fireT x c > -1 then fireT x c else -1) else -1) := by
  have hl := (artsB_ok h2).1
  have hbd := artI_bd x.2.1 c.2.2.1
  unfold impl_firedAt.f impl_firedAt.fn impl_firedAt.top
  rw [impl_articleOf_f x.2.1 _ (by omega)]
  simp only [Option.bind_some]
  by_cases ha : artI x.2.1 c.2.2.1 < 0
  · rw [if_neg (by rw [decide_eq_true ha]; simp), if_neg (by omega)]
  · rw [if_pos (decide_eq_false ha), (beat_both h1 _ _).1]
    simp only [Option.bind_some]
    rcases Bool.eq_false_or_eq_true (beatB x.1 c.1 c.2.1) with hb | hb
    rotate_left
    · simp [hb]
    · have hbb := beat_bd h1 hb
      have hB := barsL_bd h1 c.1.toNat
      have hL := liftA_bd h2 (show 0 ≤ artI x.2.1 c.2.2.1 by omega)
      have hT : fireT x c = timeL x.1 c.1 c.2.1 - liftA x.2.1 c.2.2.1 := rfl
      have hTT : timeL x.1 c.1 c.2.1 = barsL x.1 c.1.toNat + c.2.1 * (x.1.getD c.1.toNat (0, 0)).2 := rfl
      rw [if_neg (by simp [hb]), if_pos ⟨by omega, hbd⟩, impl_beatTime_f h1 hb, if_pos ⟨by omega, hb⟩]
      show some (if IntKind.i64.wrap (timeL x.1 c.1 c.2.1 - liftA x.2.1 c.2.2.1) > -1 then IntKind.i64.wrap (timeL x.1 c.1 c.2.1 - liftA x.2.1 c.2.2.1) else -1) = _
      rw [w64 (by omega) (by omega)]; rfl
theorem spec_l08Time_f (x : Show) (c : Cue) (h1 : scoreB x.1 = true) (h2 : artsB x.2.1 = true) (ha : 0 ≤ artI x.2.1 c.2.2.1) (hb : beatB x.1 c.1 c.2.1 = true) : spec_l08Time.f x c = some (fireT x c) := by
  have hl := (artsB_ok h2).1
  have hbd := artI_bd x.2.1 c.2.2.1
  have hbb := beat_bd h1 hb
  have hB := barsL_bd h1 c.1.toNat
  have hL := liftA_bd h2 ha
  have hTT : timeL x.1 c.1 c.2.1 = barsL x.1 c.1.toNat + c.2.1 * (x.1.getD c.1.toNat (0, 0)).2 := rfl
  unfold spec_l08Time.f spec_l08Time.fn spec_l08Time.top
  rw [spec_l07Time_f h1 hb, spec_l03Find_f x.2.1 _ (by omega)]
  simp only [Option.bind_some]
  rw [if_pos ⟨ha, hbd⟩]
  show some (IntKind.i64.wrap (timeL x.1 c.1 c.2.1 - liftA x.2.1 c.2.2.1)) = _
  rw [w64 (by omega) (by omega)]; rfl
def showB (x : Show) : Bool := scoreB x.1 && artsB x.2.1 && decide (x.2.2.length ≤ 20) && x.2.2.all (cueB x)
/-- a show's sizes -/
def ShowZ (x : Show) : Prop := x.1.length ≤ 140737488355328 ∧ (x.2.1.length ≤ 140737488355328 ∧ ∀ a ∈ x.2.1, Sz a.1) ∧ x.2.2.length ≤ 140737488355328
theorem impl_IsShow_f (x : Show) (h : ShowZ x) : impl_IsShow.f x = some (showB x) := by
  unfold impl_IsShow.f impl_IsShow.fn impl_IsShow.top showB
  rw [impl_IsScore_f x.1 h.1, impl_AreArticles_f x.2.1 h.2.1.1 h.2.1.2]
  rcases Bool.eq_false_or_eq_true (scoreB x.1) with h1 | h1
  · rcases Bool.eq_false_or_eq_true (artsB x.2.1) with h2 | h2
    · simp only [h1, h2, Option.bind_some, Bool.not_true, Bool.false_eq_true, if_true, Bool.true_and]
      by_cases h20 : (20 : Int) < (x.2.2.length : Int)
      · have : ¬ x.2.2.length ≤ 20 := by omega
        simp [h20, this]
      · have h21 : x.2.2.length ≤ 20 := by omega
        have := all_loop (E := fun _ => True) (cueB x) (fun _ => some true) (fun k xs i => impl_IsShow.l4 NN k xs xs.length i x) ?_ ?_ x.2.2 (fun _ _ => trivial) (by omega) NN (NN_lt (by omega))
        · simp only [h20, h21, decide_false, decide_true, Bool.false_eq_true, if_false, Bool.true_and]
          rw [this]
          cases x.2.2.all (cueB x) <;> rfl
        · intro k p
          simp [impl_IsShow.l4, impl_IsShow.g4]
        · intro k p c r _ c0 c1 cw
          simp only [impl_IsShow.l4, impl_IsShow.g4, c0, c1, cw, and_self, and_true, true_and, decide_true, decide_false, if_true, if_false, mid_get, mid_set, mid_getn, mid_setn, bt_mid, Option.bind_some, Bool.not_true, Bool.not_false, Bool.false_eq_true, Bool.true_eq_false, beq_self_eq_true, bne_self_eq_false, Int.toNat_natCast, impl_within_f, impl_firedAt_f x c h1 h2, cueB]
          rcases Bool.eq_false_or_eq_true (inB c.2.2.2 0 11) with hi | hi
          rotate_left
          · simp [hi]
          by_cases ha : 0 ≤ artI x.2.1 c.2.2.1
          · rcases Bool.eq_false_or_eq_true (beatB x.1 c.1 c.2.1) with hb | hb
            rotate_left
            · simp [hi, hb]
            · by_cases ht : fireT x c > -1
              · have t1 : 0 ≤ fireT x c := by omega
                have t2 : ¬ fireT x c < 0 := by omega
                simp [hi, hb, ha, ht, t1, t2]
              · have t1 : ¬ 0 ≤ fireT x c := by omega
                simp [hi, hb, ha, ht, t1]
          · simp [hi, ha]
    · simp [h1, h2]
  · simp [h1]
theorem spec_IsShow_f (x : Show) (h : ShowZ x) : spec_IsShow.f x = some (showB x) := by
  unfold spec_IsShow.f spec_IsShow.fn spec_IsShow.top showB
  rw [spec_IsScore_f x.1 h.1, spec_AreArticles_f x.2.1 h.2.1.1 h.2.1.2]
  rcases Bool.eq_false_or_eq_true (scoreB x.1) with h1 | h1
  · rcases Bool.eq_false_or_eq_true (artsB x.2.1) with h2 | h2
    · simp only [h1, h2, Option.bind_some, Bool.not_true, Bool.false_eq_true, if_true, Bool.true_and]
      by_cases h20 : (20 : Int) < (x.2.2.length : Int)
      · have : ¬ x.2.2.length ≤ 20 := by omega
        simp [h20, this]
      · have h21 : x.2.2.length ≤ 20 := by omega
        have hxl := h.2.1.1
        have := (fold_fix (E := fun _ => True) (fun p st => st = p.all (cueB x)) (fun _ st c => st && cueB x c) (fun st => some st) (fun k i st => if st = true then spec_IsShow.l4 NN k i x else some false) x.2.2 ?_ ?_ true (fun _ _ => trivial) rfl (by omega) NN (NN_lt (by omega)))
        · simp only [h20, h21, decide_false, decide_true, Bool.false_eq_true, if_false, Bool.true_and]
          have t := this.2
          rw [if_pos rfl, this.1] at t
          exact t
        · intro k st _
          cases st
          · rfl
          · simp [spec_IsShow.l4, spec_IsShow.g4]
        · intro k p c r st hx _ hI c0 c1 c2 cw g
          refine ⟨by rw [hI, List.all_append]; simp, ?_⟩
          cases st
          · rfl
          · simp only [if_true, Bool.true_and, spec_IsShow.l4, spec_IsShow.g4, c0, c1, cw, g, and_self, and_true, true_and, decide_true, decide_false, if_true, if_false, mid_get, mid_set, mid_getn, mid_setn, bt_mid, Option.bind_some, Bool.not_true, Bool.not_false, Bool.false_eq_true, Bool.true_eq_false, beq_self_eq_true, bne_self_eq_false, Int.toNat_natCast, (beat_both h1 _ _).2, spec_l03Find_f x.2.1 _ hxl, spec_l01In_f, cueB]
            rcases Bool.eq_false_or_eq_true (beatB x.1 c.1 c.2.1) with hb | hb
            rotate_left
            · simp [hb]
            · by_cases ha : 0 ≤ artI x.2.1 c.2.2.1
              · have ha' : ¬ artI x.2.1 c.2.2.1 < 0 := by omega
                rcases Bool.eq_false_or_eq_true (inB c.2.2.2 0 11) with hi | hi
                rotate_left
                · simp [hb, hi, ha']
                · simp only [hb, hi, ha, ha', decide_true, decide_false, if_true, Bool.not_true, Bool.and_true, Bool.true_and, Option.bind_some, spec_l08Time_f x c h1 h2 ha hb]
                  by_cases ht : fireT x c < 0
                  · have : ¬ 0 ≤ fireT x c := by omega
                    simp [ht, this]
                  · have : 0 ≤ fireT x c := by omega
                    simp [ht, this]
              · have ha' : artI x.2.1 c.2.2.1 < 0 := by omega
                simp [hb, ha, ha']
    · simp [h1, h2]
  · simp [h1]
end Go.Pl

namespace Go.Pl
open Go.Ev
set_option linter.unusedVariables false
set_option linter.unusedSimpArgs false
/-- a booking that stands -/
def valB (b : Int × ByteArray × Int) : Bool := inB b.1 0 3 && wordB b.2.1 && inB b.2.2 1 1000
def addL (a : ByteArray) (s : Int) (b : Int × ByteArray × Int) : Int := if b.2.1 = a then (if b.1 = 0 then s + b.2.2 else s - b.2.2) else s
def leftOf (xs : List (Int × ByteArray × Int)) (a : ByteArray) : Int := xs.foldl (addL a) 0
theorem leftOf_snoc (p : List (Int × ByteArray × Int)) (b : Int × ByteArray × Int) (a : ByteArray) : leftOf (p ++ [b]) a = addL a (leftOf p a) b := by
  unfold leftOf; rw [List.foldl_append]; rfl
theorem valB_count {b : Int × ByteArray × Int} (h : valB b = true) : 1 ≤ b.2.2 ∧ b.2.2 ≤ 1000 ∧ 0 ≤ b.1 ∧ b.1 ≤ 3 := by
  unfold valB at h
  simp only [Bool.and_eq_true, inB_iff] at h
  omega
theorem leftOf_le (a : ByteArray) (xs : List (Int × ByteArray × Int)) (h : ∀ b ∈ xs, valB b = true) : -(1000 * (xs.length : Int)) ≤ leftOf xs a ∧ leftOf xs a ≤ 1000 * (xs.length : Int) := by
  have key : ∀ (ys : List (Int × ByteArray × Int)) (s : Int), (∀ b ∈ ys, valB b = true) → s - 1000 * (ys.length : Int) ≤ ys.foldl (addL a) s ∧ ys.foldl (addL a) s ≤ s + 1000 * (ys.length : Int) := by
    intro ys
    induction ys with
    | nil => intro s _; simp
    | cons b r ih =>
      intro s hb
      have h1 := ih (addL a s b) (fun x hx => hb x (by simp [hx]))
      have h2 := valB_count (hb b (by simp))
      simp only [List.foldl_cons, List.length_cons]
      have : s - 1000 ≤ addL a s b ∧ addL a s b ≤ s + 1000 := by
        unfold addL; split <;> (try split) <;> omega
      omega
  have := key xs 0 h
  unfold leftOf; omega
theorem spec_l32Left_f (xs rest : List (Int × ByteArray × Int)) (a : ByteArray) (h : ∀ b ∈ xs, valB b = true) (hl : xs.length ≤ 1000000) : spec_l32Left.f (xs ++ rest) a xs.length = some (leftOf xs a) := by
  have := (fold_fix (E := fun b => valB b = true) (fun p s => (∀ b ∈ p, valB b = true) ∧ s = leftOf p a) (fun _ => addL a) some (fun k i s => spec_l32Left.l3 NN k (xs ++ rest) a xs.length s i) xs ?_ ?_ 0 h ⟨by simp, rfl⟩ (by omega) NN (NN_lt (by omega))).2
  · rw [foldi_foldl] at this
    exact this
  · intro k st _
    simp [spec_l32Left.l3, spec_l32Left.g3]
  · intro k p b r st hx hb hI c0 c1 c2 cw g
    obtain ⟨h1, rfl⟩ := hI
    have h2 : ∀ x ∈ p ++ [b], valB x = true := fun x hx => by
      rcases List.mem_append.1 hx with h | h
      · exact h1 x h
      · rw [List.mem_singleton.1 h]; exact hb
    refine ⟨⟨h2, (leftOf_snoc p b a).symm⟩, ?_⟩
    have c3 : (p.length : Int) < ((xs ++ rest).length : Int) := by rw [List.length_append]; omega
    have g' : ∀ z, (xs ++ rest).getD p.length z = b := fun z => by rw [hx]; simp
    have bd := leftOf_le a (p ++ [b]) h2
    rw [leftOf_snoc] at bd
    have hpl : p.length ≤ 1000000 := by omega
    simp only [List.length_append, List.length_cons, List.length_nil] at bd
    simp only [spec_l32Left.l3, spec_l32Left.g3, c0, c1, c3, cw, and_self, and_true, true_and, decide_true, decide_false, if_true, if_false, mid_get, mid_set, mid_getn, mid_setn, bt_mid, Option.bind_some, Bool.not_true, Bool.not_false, Bool.false_eq_true, Bool.true_eq_false, beq_self_eq_true, bne_self_eq_false, Int.toNat_natCast, g', ba_beq]
    unfold addL at bd ⊢
    by_cases ha : b.2.1 = a
    · by_cases hz : b.1 = 0
      · have e := w64 (n := leftOf p a + b.2.2) (by simp only [ha, hz, if_true] at bd; omega) (by simp only [ha, hz, if_true] at bd; omega)
        simp [ha, hz, e]
      · have e := w64 (n := leftOf p a - b.2.2) (by simp only [ha, hz, if_true, if_false] at bd; omega) (by simp only [ha, hz, if_true, if_false] at bd; omega)
        simp [ha, hz, e]
    · simp [ha]
/-- how many of each kind -/
def addT (a : ByteArray) (s : List Int) (b : Int × ByteArray × Int) : List Int := if b.2.1 = a then s.set b.1.toNat (s.getD b.1.toNat 0 + b.2.2) else s
def totL (xs : List (Int × ByteArray × Int)) (a : ByteArray) : List Int := xs.foldl (addT a) [0, 0, 0, 0]
theorem totL_snoc (p : List (Int × ByteArray × Int)) (b : Int × ByteArray × Int) (a : ByteArray) : totL (p ++ [b]) a = addT a (totL p a) b := by
  unfold totL; rw [List.foldl_append]; rfl
theorem totL_shape (a : ByteArray) (xs : List (Int × ByteArray × Int)) (h : ∀ b ∈ xs, valB b = true) : ∃ t0 t1 t2 t3, totL xs a = [t0, t1, t2, t3] ∧ t0 - t1 - t2 - t3 = leftOf xs a ∧ 0 ≤ t0 ∧ 0 ≤ t1 ∧ 0 ≤ t2 ∧ 0 ≤ t3 ∧ t0 + t1 + t2 + t3 ≤ 1000 * (xs.length : Int) := by
  have key : ∀ (n : Nat) (xs : List (Int × ByteArray × Int)), xs.length = n → (∀ b ∈ xs, valB b = true) → ∃ t0 t1 t2 t3, totL xs a = [t0, t1, t2, t3] ∧ t0 - t1 - t2 - t3 = leftOf xs a ∧ 0 ≤ t0 ∧ 0 ≤ t1 ∧ 0 ≤ t2 ∧ 0 ≤ t3 ∧ t0 + t1 + t2 + t3 ≤ 1000 * (xs.length : Int) := by
    intro n
    induction n with
    | zero => intro xs hn _; obtain rfl := List.length_eq_zero_iff.1 hn; exact ⟨0, 0, 0, 0, rfl, rfl, by omega, by omega, by omega, by omega, by simp⟩
    | succ n ih =>
      intro xs hn hb
      rcases List.eq_nil_or_concat xs with rfl | ⟨p, b, rfl⟩
      · simp at hn
      simp only [List.concat_eq_append] at hn hb ⊢
      obtain ⟨t0, t1, t2, t3, e1, e2, e3, e4, e5, e6, e7⟩ := ih p (by simpa using hn) (fun x hx => hb x (by simp [hx]))
      have hv := valB_count (hb b (by simp))
      rw [totL_snoc, leftOf_snoc, e1]
      simp only [List.length_append, List.length_cons, List.length_nil]
      unfold addT addL
      by_cases ha : b.2.1 = a
      · simp only [ha, if_true]
        obtain h | h | h | h : b.1 = 0 ∨ b.1 = 1 ∨ b.1 = 2 ∨ b.1 = 3 := by omega
        · exact ⟨t0 + b.2.2, t1, t2, t3, by simp [h], by simp [h]; omega, by omega, by omega, by omega, by omega, by omega⟩
        · exact ⟨t0, t1 + b.2.2, t2, t3, by simp [h], by simp [h]; omega, by omega, by omega, by omega, by omega, by omega⟩
        · exact ⟨t0, t1, t2 + b.2.2, t3, by simp [h], by simp [h]; omega, by omega, by omega, by omega, by omega, by omega⟩
        · exact ⟨t0, t1, t2, t3 + b.2.2, by simp [h], by simp [h]; omega, by omega, by omega, by omega, by omega, by omega⟩
      · simp only [ha, if_false]
        exact ⟨t0, t1, t2, t3, rfl, by omega, by omega, by omega, by omega, by omega, by omega⟩
  exact key _ xs rfl h
theorem impl_totalsOf_f (xs : List (Int × ByteArray × Int)) (a : ByteArray) (h : ∀ b ∈ xs, valB b = true) (hl : xs.length ≤ 1000000) : impl_totalsOf.f xs a = some (totL xs a) := by
  have := (fold_fix (E := fun b => valB b = true) (fun p s => (∀ b ∈ p, valB b = true) ∧ s = totL p a) (fun _ => addT a) some (fun k i s => impl_totalsOf.l3 NN k a xs xs.length i s) xs ?_ ?_ [0, 0, 0, 0] h ⟨by simp, rfl⟩ (by omega) NN (NN_lt (by omega))).2
  · rw [foldi_foldl] at this
    unfold impl_totalsOf.f impl_totalsOf.fn impl_totalsOf.top
    rw [if_pos (by rw [room8]; omega)]
    exact this
  · intro k st _
    simp [impl_totalsOf.l3, impl_totalsOf.g3]
  · intro k p b r st hx hb hI c0 c1 c2 cw g
    obtain ⟨h1, rfl⟩ := hI
    have h2 : ∀ x ∈ p ++ [b], valB x = true := fun x hx => by
      rcases List.mem_append.1 hx with h | h
      · exact h1 x h
      · rw [List.mem_singleton.1 h]; exact hb
    refine ⟨⟨h2, (totL_snoc p b a).symm⟩, ?_⟩
    obtain ⟨t0, t1, t2, t3, e1, e2, e3, e4, e5, e6, e7⟩ := totL_shape a p h1
    have hpl : p.length ≤ 1000000 := by omega
    have hv := valB_count hb
    simp only [impl_totalsOf.l3, impl_totalsOf.g3, c0, c1, cw, and_self, and_true, true_and, decide_true, decide_false, if_true, if_false, mid_get, mid_set, mid_getn, mid_setn, bt_mid, Option.bind_some, Bool.not_true, Bool.not_false, Bool.false_eq_true, Bool.true_eq_false, beq_self_eq_true, bne_self_eq_false, Int.toNat_natCast, g, ba_beq]
    unfold addT
    by_cases ha : b.2.1 = a
    · have k1 : b.1 < ((totL p a).length : Int) := by rw [e1]; simp; omega
      have k2 : 0 ≤ (totL p a).getD b.1.toNat 0 ∧ (totL p a).getD b.1.toNat 0 ≤ 1000000000 := by
        rw [e1]
        obtain h | h | h | h : b.1 = 0 ∨ b.1 = 1 ∨ b.1 = 2 ∨ b.1 = 3 := by omega
        all_goals (rw [h]; simp; omega)
      have e := w64 (n := (totL p a).getD b.1.toNat 0 + b.2.2) (by omega) (by omega)
      simp only [ha, decide_true, if_true, hv.2.2.1, k1, and_self, e]
    · simp [ha]
theorem impl_piecesLeft_f (xs : List (Int × ByteArray × Int)) (a : ByteArray) (h : ∀ b ∈ xs, valB b = true) (hl : xs.length ≤ 1000000) : impl_piecesLeft.f xs a = some (leftOf xs a) := by
  unfold impl_piecesLeft.f impl_piecesLeft.fn impl_piecesLeft.top
  rw [impl_totalsOf_f xs a h hl]
  obtain ⟨t0, t1, t2, t3, e1, e2, e3, e4, e5, e6, e7⟩ := totL_shape a xs h
  have w1 := w64 (n := t0 - t1) (by omega) (by omega)
  have w2 := w64 (n := t0 - t1 - t2) (by omega) (by omega)
  have w3 := w64 (n := t0 - t1 - t2 - t3) (by omega) (by omega)
  have w4 : IntKind.i64.wrap (leftOf xs a) = leftOf xs a := by rw [← e2]; exact w3
  rw [e1]
  simp [w1, w2, w3, e2, w4]
/-- no article short at any time -/
def okFrom (p : List (Int × ByteArray × Int)) : List (Int × ByteArray × Int) → Bool
  | [] => true
  | b :: r => valB b && decide (0 ≤ leftOf (p ++ [b]) b.2.1) && okFrom (p ++ [b]) r
def booksB (xs : List (Int × ByteArray × Int)) : Bool := decide (xs.length ≤ 60) && okFrom [] xs
theorem okFrom_val : ∀ (r p : List (Int × ByteArray × Int)), okFrom p r = true → ∀ b ∈ r, valB b = true := by
  intro r
  induction r with
  | nil => intro p _ b hb; cases hb
  | cons x r ih =>
    intro p h b hb
    simp only [okFrom, Bool.and_eq_true] at h
    rcases List.mem_cons.1 hb with rfl | hb
    · exact h.1.1
    · exact ih _ h.2 b hb
theorem booksB_val {xs : List (Int × ByteArray × Int)} (h : booksB xs = true) : (∀ b ∈ xs, valB b = true) ∧ xs.length ≤ 60 := by
  unfold booksB at h
  simp only [Bool.and_eq_true, decide_eq_true_eq] at h
  exact ⟨okFrom_val _ _ h.2, h.1⟩
theorem val_snoc {p : List (Int × ByteArray × Int)} {b : Int × ByteArray × Int} (h1 : ∀ x ∈ p, valB x = true) (hb : valB b = true) : ∀ x ∈ p ++ [b], valB x = true := fun x hx => by
  rcases List.mem_append.1 hx with h | h
  · exact h1 x h
  · rw [List.mem_singleton.1 h]; exact hb
theorem spec_AreBookings_loop : ∀ (r p : List (Int × ByteArray × Int)) (k : Nat), (∀ b ∈ p, valB b = true) → (∀ b ∈ r, Sz b.2.1) → p.length + r.length ≤ 1000000 → r.length < k →
    spec_AreBookings.l2 NN k (p ++ r) p.length = some (okFrom p r && decide ((p ++ r).length ≤ 60)) := by
  intro r
  induction r with
  | nil =>
    intro p k _ _ _ hk
    obtain ⟨k, rfl⟩ : ∃ j, k = j + 1 := ⟨k - 1, by omega⟩
    simp [spec_AreBookings.l2, spec_AreBookings.g2, okFrom]
    omega
  | cons b r ih =>
    intro p k hp hr hb hk
    simp only [List.length_cons] at hk hb
    obtain ⟨k, rfl⟩ : ∃ j, k = j + 1 := ⟨k - 1, by omega⟩
    have hm := mid_len p r b
    have c0 : (0 : Int) ≤ (p.length : Int) := by omega
    have c1 : (p.length : Int) < ((p ++ b :: r).length : Int) := by omega
    have cw := w64 (n := (p.length : Int) + 1) (by omega) (by omega)
    simp only [spec_AreBookings.l2, spec_AreBookings.g2, c0, c1, cw, and_self, and_true, true_and, decide_true, decide_false, if_true, if_false, mid_get, mid_set, mid_getn, mid_setn, bt_mid, Option.bind_some, Bool.not_true, Bool.not_false, Bool.false_eq_true, Bool.true_eq_false, beq_self_eq_true, bne_self_eq_false, Int.toNat_natCast, spec_l01In_f, spec_IsWord_f _ (hr b (by simp))]
    have hv : valB b = (inB b.1 0 3 && wordB b.2.1 && inB b.2.2 1 1000) := rfl
    simp only [okFrom]
    cases h1 : inB b.1 0 3
    · simp [hv, h1]
    cases h2 : wordB b.2.1
    · simp [hv, h2]
    cases h3 : inB b.2.2 1 1000
    · simp [hv, h3]
    have hvt : valB b = true := by rw [hv, h1, h2, h3]; rfl
    have hl := spec_l32Left_f (p ++ [b]) r b.2.1 (val_snoc hp hvt) (by simp; omega)
    rw [mid_snoc, snoc_len] at hl
    have := ih (p ++ [b]) k (val_snoc hp hvt) (fun x hx => hr x (by simp [hx])) (by simp; omega) (by omega)
    rw [mid_snoc, snoc_len] at this
    simp only [hl, this, hvt, and_self, and_true, true_and, decide_true, decide_false, if_true, if_false, mid_get, mid_set, mid_getn, mid_setn, bt_mid, Option.bind_some, Bool.not_true, Bool.not_false, Bool.false_eq_true, Bool.true_eq_false, beq_self_eq_true, bne_self_eq_false, Int.toNat_natCast, decide_eq_true_eq]
    by_cases hn : leftOf (p ++ [b]) b.2.1 < 0
    · have : ¬ 0 ≤ leftOf (p ++ [b]) b.2.1 := by omega
      simp [hn, this]
    · have h4 : 0 ≤ leftOf (p ++ [b]) b.2.1 := by omega
      simp [hn, h4]
theorem spec_AreBookings_f (xs : List (Int × ByteArray × Int)) (h : Lm OkBooking xs) : spec_AreBookings.f xs = some (booksB xs) := by
  have := spec_AreBookings_loop xs [] NN (by simp) (fun b hb => Nat.le_trans (h.2 b hb).2.1 (by omega)) (by simpa using h.1) (NN_lt (by have := h.1; omega))
  unfold spec_AreBookings.f spec_AreBookings.fn spec_AreBookings.top booksB
  rw [Bool.and_comm]
  simpa using this
theorem impl_AreBookings_loop : ∀ (r p : List (Int × ByteArray × Int)) (k : Nat), (∀ b ∈ p, valB b = true) → (∀ b ∈ r, Sz b.2.1) → p.length + r.length ≤ 1000000 → r.length < k →
    impl_AreBookings.l4 NN k (p ++ r) (p ++ r) (p ++ r).length p.length = some (okFrom p r) := by
  intro r
  induction r with
  | nil =>
    intro p k _ _ _ hk
    obtain ⟨k, rfl⟩ : ∃ j, k = j + 1 := ⟨k - 1, by omega⟩
    simp [impl_AreBookings.l4, impl_AreBookings.g4, okFrom]
  | cons b r ih =>
    intro p k hp hr hb hk
    simp only [List.length_cons] at hk hb
    obtain ⟨k, rfl⟩ : ∃ j, k = j + 1 := ⟨k - 1, by omega⟩
    have hm := mid_len p r b
    have c0 : (0 : Int) ≤ (p.length : Int) := by omega
    have c1 : (p.length : Int) < ((p ++ b :: r).length : Int) := by omega
    have cw := w64 (n := (p.length : Int) + 1) (by omega) (by omega)
    have c2 : (0 : Int) ≤ (p.length : Int) + 1 := by omega
    have c3 : (p.length : Int) + 1 ≤ ((p ++ b :: r).length : Int) := by omega
    have ct : (p ++ b :: r).take ((p.length : Int) + 1).toNat = p ++ [b] := by
      rw [show ((p.length : Int) + 1).toNat = (p ++ [b]).length by simp, show p ++ b :: r = (p ++ [b]) ++ r by simp, List.take_left' rfl]
    simp only [impl_AreBookings.l4, impl_AreBookings.g4, c0, c1, c2, c3, cw, ct, and_self, and_true, true_and, decide_true, decide_false, if_true, if_false, mid_get, mid_set, mid_getn, mid_setn, bt_mid, Option.bind_some, Bool.not_true, Bool.not_false, Bool.false_eq_true, Bool.true_eq_false, beq_self_eq_true, bne_self_eq_false, Int.toNat_natCast, impl_within_f, impl_IsWord_f _ (hr b (by simp))]
    have hv : valB b = (inB b.1 0 3 && wordB b.2.1 && inB b.2.2 1 1000) := rfl
    simp only [okFrom]
    cases h1 : inB b.1 0 3
    · simp [hv, h1]
    cases h2 : wordB b.2.1
    · simp [hv, h2]
    cases h3 : inB b.2.2 1 1000
    · simp [hv, h3]
    have hvt : valB b = true := by rw [hv, h1, h2, h3]; rfl
    have hl := impl_piecesLeft_f (p ++ [b]) b.2.1 (val_snoc hp hvt) (by simp; omega)
    have := ih (p ++ [b]) k (val_snoc hp hvt) (fun x hx => hr x (by simp [hx])) (by simp; omega) (by omega)
    rw [mid_snoc, snoc_len] at this
    simp only [hl, this, hvt, and_self, and_true, true_and, decide_true, decide_false, if_true, if_false, mid_get, mid_set, mid_getn, mid_setn, bt_mid, Option.bind_some, Bool.not_true, Bool.not_false, Bool.false_eq_true, Bool.true_eq_false, beq_self_eq_true, bne_self_eq_false, Int.toNat_natCast, decide_eq_true_eq]
    by_cases hn : leftOf (p ++ [b]) b.2.1 < 0
    · have : ¬ 0 ≤ leftOf (p ++ [b]) b.2.1 := by omega
      simp [hn, this]
    · have h4 : 0 ≤ leftOf (p ++ [b]) b.2.1 := by omega
      simp [hn, h4]
theorem impl_AreBookings_f (xs : List (Int × ByteArray × Int)) (h : Lm OkBooking xs) : impl_AreBookings.f xs = some (booksB xs) := by
  have := impl_AreBookings_loop xs [] NN (by simp) (fun b hb => Nat.le_trans (h.2 b hb).2.1 (by omega)) (by simpa using h.1) (NN_lt (by have := h.1; omega))
  unfold impl_AreBookings.f impl_AreBookings.fn impl_AreBookings.top booksB
  simp only [List.nil_append, List.length_nil] at this
  by_cases h1 : (60 : Int) < xs.length
  · have h2 : ¬ xs.length ≤ 60 := by omega
    simp [h1, h2]
  · have h2 : xs.length ≤ 60 := by omega
    simp only [h1, h2, decide_false, Bool.false_eq_true, if_false, decide_true, Bool.true_and]
    exact this
theorem AreBookings_core (xs : List (Int × ByteArray × Int)) (h : Lm OkBooking xs) : ∃ w, spec_AreBookings.f xs = some w ∧ impl_AreBookings.f xs = some w ∧ True :=
  ⟨_, spec_AreBookings_f xs h, impl_AreBookings_f xs h, trivial⟩
end Go.Pl

namespace Go.Pl
open Go.Ev
set_option linter.unusedVariables false
set_option linter.unusedSimpArgs false
theorem less_irr : ∀ x : List UInt8, Op.bytesLess x x = false := by
  intro x
  induction x with
  | nil => rfl
  | cons a x ih => simp [Op.bytesLess, ih]
theorem less_trans : ∀ x y z : List UInt8, Op.bytesLess x y = true → Op.bytesLess y z = true → Op.bytesLess x z = true := by
  intro x
  induction x with
  | nil =>
    intro y z h1 h2
    cases z with
    | nil => cases y <;> simp [Op.bytesLess] at h2
    | cons c z => rfl
  | cons a x ih =>
    intro y z h1 h2
    cases y with
    | nil => simp [Op.bytesLess] at h1
    | cons b y =>
      cases z with
      | nil => simp [Op.bytesLess] at h2
      | cons c z =>
        simp only [Op.bytesLess, Bool.or_eq_true, Bool.and_eq_true, decide_eq_true_eq, beq_iff_eq, UInt8.lt_iff_toNat_lt] at h1 h2 ⊢
        rcases h1 with h1 | ⟨rfl, h1⟩
        · rcases h2 with h2 | ⟨rfl, h2⟩
          · left; omega
          · left; exact h1
        · rcases h2 with h2 | ⟨rfl, h2⟩
          · left; exact h2
          · right; exact ⟨rfl, ih y z h1 h2⟩
theorem artsF_pair : ∀ (r : List Art) (x : Art), artsF x r = true → (x :: r).Pairwise fun a b => ltS a.1 b.1 = true := by
  intro r
  induction r with
  | nil => intro x _; simp
  | cons a r ih =>
    intro x h
    simp only [artsF, Bool.and_eq_true] at h
    have i := ih a h.2
    refine List.pairwise_cons.2 ⟨fun b hb => ?_, i⟩
    rcases List.mem_cons.1 hb with rfl | hb
    · exact h.1.2
    · exact less_trans _ _ _ h.1.2 ((List.pairwise_cons.1 i).1 b hb)
theorem arts_inj {xs : List Art} (h : artsB xs = true) {i j : Nat} (hi : i < xs.length) (hj : j < xs.length) (he : (xs[i]).1 = (xs[j]).1) : i = j := by
  have hp : xs.Pairwise fun a b => ltS a.1 b.1 = true := by
    unfold artsB at h
    rw [Bool.and_eq_true] at h
    cases xs with
    | nil => simp
    | cons a r =>
      have h2 := h.2
      simp only [artsL, Bool.and_eq_true] at h2
      exact artsF_pair r a h2.2
  rw [List.pairwise_iff_getElem] at hp
  rcases Nat.lt_trichotomy i j with hlt | heq | hgt
  · have := hp i j hi hj hlt
    rw [he] at this
    unfold ltS at this
    rw [less_irr] at this; cases this
  · exact heq
  · have := hp j i hj hi hgt
    rw [he] at this
    unfold ltS at this
    rw [less_irr] at this; cases this
theorem artI_at {xs : List Art} {c : ByteArray} (h : 0 ≤ artI xs c) : ∃ hl : (artI xs c).toNat < xs.length, (xs[(artI xs c).toNat]).1 = c := by
  unfold artI at h ⊢
  cases hf : firstOf (fun l : Art => decide (l.1 = c)) 0 xs with
  | none => rw [hf] at h; simp at h
  | some y =>
    obtain ⟨h1, h2, h3, h4⟩ := firstOf_spec _ xs 0 y.1 y.2 hf
    simp only [Option.elim_some, Int.toNat_natCast]
    rw [Nat.sub_zero] at h3
    refine ⟨by omega, ?_⟩
    have := (List.getElem?_eq_some_iff.1 h3).2
    rw [this]
    simpa using h4
def cueA (x : Show) (f : Int) : ByteArray := (x.2.2.getD f.toNat (0, (0, (ByteArray.empty, 0)))).2.2.1
def cntN (x : Show) (fired : List Int) (c : ByteArray) : Nat := fired.countP fun f => decide (cueA x f = c)
theorem cntN_snoc (x : Show) (p : List Int) (f : Int) (c : ByteArray) : cntN x (p ++ [f]) c = cntN x p c + if cueA x f = c then 1 else 0 := by
  unfold cntN
  rw [List.countP_append]
  by_cases h : cueA x f = c <;> simp [h]
theorem cntN_le (x : Show) (p : List Int) (c : ByteArray) : cntN x p c ≤ p.length := List.countP_le_length
abbrev Bk : Type := Int × ByteArray × Int
def bookF (x : Show) (fired : List Int) (out : List Bk) (a : Art) : List Bk := if 0 < cntN x fired a.1 then out ++ [(1, a.1, (cntN x fired a.1 : Int))] else out
def bookL (x : Show) (fired : List Int) (list : List Bk) : List Bk := x.2.1.foldl (bookF x fired) list
def limR (out : List Bk) : List Bk × Int := if 60 < out.length then ([], 3) else if booksB out = true then (out, 0) else ([], 5)
def firedB (x : Show) (fired : List Int) : Bool := fired.all (inB · 0 ((x.2.2.length : Int) - 1)) && risB fired
def bookS (list : List Bk) (x : Show) (fired : List Int) : List Bk × Int :=
  if booksB list = true then (if showB x = true then (if firedB x fired = true then limR (bookL x fired list) else ([], 2)) else ([], 1)) else ([], 1)
theorem spec_AreBookings_z (xs : List Bk) (hl : xs.length ≤ 1000000) (hz : ∀ b ∈ xs, Sz b.2.1) : spec_AreBookings.f xs = some (booksB xs) := by
  have := spec_AreBookings_loop xs [] NN (by simp) hz (by simpa using hl) (NN_lt (by omega))
  unfold spec_AreBookings.f spec_AreBookings.fn spec_AreBookings.top booksB
  rw [Bool.and_comm]
  simpa using this
theorem impl_AreBookings_z (xs : List Bk) (hl : xs.length ≤ 1000000) (hz : ∀ b ∈ xs, Sz b.2.1) : impl_AreBookings.f xs = some (booksB xs) := by
  have := impl_AreBookings_loop xs [] NN (by simp) hz (by simpa using hl) (NN_lt (by omega))
  unfold impl_AreBookings.f impl_AreBookings.fn impl_AreBookings.top booksB
  simp only [List.nil_append, List.length_nil] at this
  by_cases h1 : (60 : Int) < xs.length
  · have h2 : ¬ xs.length ≤ 60 := by omega
    simp [h1, h2]
  · have h2 : xs.length ≤ 60 := by omega
    simp only [h1, h2, decide_false, Bool.false_eq_true, if_false, decide_true, Bool.true_and]
    exact this
theorem showB_iff {x : Show} (h : showB x = true) : scoreB x.1 = true ∧ artsB x.2.1 = true ∧ x.2.2.length ≤ 20 ∧ ∀ c ∈ x.2.2, 0 ≤ artI x.2.1 c.2.2.1 := by
  unfold showB at h
  simp only [Bool.and_eq_true, decide_eq_true_eq] at h
  refine ⟨h.1.1.1, h.1.1.2, h.1.2, fun c hc => ?_⟩
  have := List.all_eq_true.1 h.2 c hc
  unfold cueB at this
  simp only [Bool.and_eq_true, decide_eq_true_eq] at this
  exact this.1.1.2
theorem cue_art {x : Show} (h : showB x = true) {f : Int} (h0 : 0 ≤ f) (h1 : f < (x.2.2.length : Int)) : 0 ≤ artI x.2.1 (cueA x f) := by
  refine (showB_iff h).2.2.2 _ ?_
  rw [List.getD_eq_getElem?_getD, List.getElem?_eq_getElem (by omega)]; exact List.getElem_mem _
theorem bookF_len (x : Show) (fired : List Int) (out : List Bk) (a : Art) : (bookF x fired out a).length ≤ out.length + 1 := by unfold bookF; split <;> simp
theorem bookF_sz (x : Show) (fired : List Int) {out : List Bk} {a : Art} (h : ∀ b ∈ out, Sz b.2.1) (ha : Sz a.1) : ∀ b ∈ bookF x fired out a, Sz b.2.1 := by
  intro b hb
  unfold bookF at hb
  split at hb
  · rcases List.mem_append.1 hb with h1 | h1
    · exact h b h1
    · rw [List.mem_singleton.1 h1]; exact ha
  · exact h b hb
theorem room32' (out : List Bk) (b : Bk) (h : out.length ≤ 2000000) : out.length + [b].length < room 32 := by rw [room32]; simp; omega
theorem spec_in (x : Show) (fired : List Int) (L : List Int → Int → Show → List Bk → Option (List Bk × Int)) (k : Nat) (a : Art) (hk : k < x.2.1.length) (hka : k ≤ 1000) (ha : ∀ z, x.2.1.getD k z = a) (out : List Bk) (hf : ∀ f ∈ fired, 0 ≤ f ∧ f < (x.2.2.length : Int)) (hl : fired.length ≤ 1000000) (ho : out.length ≤ 2000000) :
    spec_BookShow.l11 NN L NN fired k 0 0 x out = L fired ((k : Int) + 1) x (bookF x fired out a) := by
  have := fold_fix (E := fun f => 0 ≤ f ∧ f < (x.2.2.length : Int)) (fun p st => st = (cntN x p a.1 : Int)) (fun _ st f => if cueA x f = a.1 then st + 1 else st) (fun st => if 0 < st then L fired ((k : Int) + 1) x (out ++ [(1, a.1, st)]) else L fired ((k : Int) + 1) x out) (fun m i st => spec_BookShow.l11 NN L m fired k st i x out) fired ?_ ?_ 0 hf rfl (by omega) NN (NN_lt (by omega))
  · refine this.2.trans ?_
    rw [this.1]
    unfold bookF
    by_cases h : 0 < cntN x fired a.1
    · rw [if_pos (by omega), if_pos h]
    · rw [if_neg (by omega), if_neg h]
  · intro m st hst
    have w := w64 (n := (k : Int) + 1) (by omega) (by omega)
    have c0 : (0 : Int) ≤ (k : Int) := by omega
    have c1 : (k : Int) < (x.2.1.length : Int) := by omega
    simp only [spec_BookShow.l11, spec_BookShow.g11, Int.lt_irrefl, decide_false, Bool.false_eq_true, if_false, w, c0, c1, and_self, if_true, Int.toNat_natCast, ha, room32' out _ ho]
    by_cases h : 0 < st
    · simp only [h, decide_true, if_true]
      exact if_pos (by rw [room32]; simp; omega)
    · simp [h]
  · intro m p f r st hx hfr hst c0 c1 c2 cw g
    have c3 : (0 : Int) ≤ (k : Int) := by omega
    have c4 : (k : Int) < (x.2.1.length : Int) := by omega
    have hle := cntN_le x p a.1
    have hp : p.length ≤ 1000000 := by omega
    have w := w64 (n := st + 1) (by omega) (by omega)
    refine ⟨by rw [hst, cntN_snoc]; split <;> simp, ?_⟩
    have e : (x.2.2.getD f.toNat (0, (0, (ByteArray.empty, 0)))).2.2.1 = cueA x f := rfl
    simp only [spec_BookShow.l11, spec_BookShow.g11, c0, c1, c3, c4, cw, g, and_self, and_true, true_and, decide_true, decide_false, if_true, if_false, mid_get, mid_set, mid_getn, mid_setn, bt_mid, Option.bind_some, Bool.not_true, Bool.not_false, Bool.false_eq_true, Bool.true_eq_false, beq_self_eq_true, bne_self_eq_false, Int.toNat_natCast, hfr.1, hfr.2, Int.toNat_natCast, ha, e, ba_beq, w]
    by_cases h : cueA x f = a.1
    · simp [h]
    · simp [h]
theorem spec_out (x : Show) (fired : List Int) (list : List Bk) (hx : artsB x.2.1 = true) (hax : ∀ a ∈ x.2.1, Sz a.1) (hf : ∀ f ∈ fired, 0 ≤ f ∧ f < (x.2.2.length : Int)) (hl : fired.length ≤ 1000000) (ho : list.length ≤ 900000) (hz : ∀ b ∈ list, Sz b.2.1) :
    spec_BookShow.l7 NN NN fired 0 x list = some (limR (bookL x fired list)) := by
  have h12 := (artsB_ok hx).1
  have := fold_fix (E := fun a : Art => Sz a.1) (fun p st => st.length ≤ list.length + p.length ∧ ∀ b ∈ st, Sz b.2.1) (fun _ => bookF x fired) (fun st => some (limR st)) (fun m i st => spec_BookShow.l7 NN m fired i x st) x.2.1 ?_ ?_ list hax ⟨by simp, hz⟩ (by omega) NN (NN_lt (by omega))
  · rw [foldi_foldl] at this
    exact this.2
  · intro m st hst
    have n1 := hst.1
    simp only [spec_BookShow.l7, spec_BookShow.g7, Int.lt_irrefl, decide_false, Bool.false_eq_true, if_false]
    unfold spec_l32Limits.f spec_l32Limits.fn spec_l32Limits.top limR
    rw [spec_AreBookings_z st (by omega) hst.2]
    by_cases h60 : 60 < st.length
    · have : (60 : Int) < (st.length : Int) := by omega
      simp [h60, this]
    · have : ¬ (60 : Int) < (st.length : Int) := by omega
      cases hb : booksB st <;> simp [h60, this]
  · intro m p a r st hxs ha hI c0 c1 c2 cw g
    have hp : p.length ≤ 12 := by omega
    have hI1 := hI.1
    have hlen := bookF_len x fired st a
    refine ⟨⟨by simp only [List.length_append, List.length_singleton]; omega, bookF_sz x fired hI.2 ha⟩, ?_⟩
    simp only [spec_BookShow.l7, spec_BookShow.g7, c1, decide_true, if_true]
    exact spec_in x fired _ p.length a (by omega) (by omega) g st hf hl (by omega)
theorem spec_BookShow_f (list : List Bk) (x : Show) (fired : List Int) (hl : list.length ≤ 900000) (hz : ∀ b ∈ list, Sz b.2.1) (hx : ShowZ x) (hf : fired.length ≤ 1000000) : spec_BookShow.f list x fired = some (bookS list x fired) := by
  unfold spec_BookShow.f spec_BookShow.fn spec_BookShow.top bookS
  rw [spec_AreBookings_z list (by omega) hz, spec_IsShow_f x hx]
  cases hb : booksB list
  · rfl
  cases hs : showB x
  · rfl
  have hsi := showB_iff hs
  simp only [Option.bind_some, Bool.not_true, Bool.false_eq_true, if_true, if_false]
  rw [spec_l01Rises_f fired (x.2.2.length : Int) (wf64.2 (by omega)) (by omega)]
  show (if (!firedB x fired) = true then _ else _) = _
  cases hfb : firedB x fired
  · rfl
  · unfold firedB at hfb
    rw [Bool.and_eq_true] at hfb
    have hin : ∀ f ∈ fired, 0 ≤ f ∧ f < (x.2.2.length : Int) := fun f hf => by
      have := inB_iff.1 (List.all_eq_true.1 hfb.1 f hf)
      omega
    simp only [Bool.not_true, Bool.false_eq_true, if_false, if_true]
    rw [if_pos (by rw [room32]; simp; omega), List.nil_append]
    exact spec_out x fired list hsi.2.1 hx.2.1.2 hin hf hl hz
/-- the counts behind some fired cues -/
def cntsL (x : Show) (p : List Int) : List Int := x.2.1.map fun a => (cntN x p a.1 : Int)
theorem cnts_upd {x : Show} (h : artsB x.2.1 = true) (p : List Int) (f : Int) (ha : 0 ≤ artI x.2.1 (cueA x f)) (hp : p.length ≤ 1000000) :
    (cntsL x p).set (artI x.2.1 (cueA x f)).toNat (IntKind.i64.wrap ((cntsL x p).getD (artI x.2.1 (cueA x f)).toNat 0 + 1)) = cntsL x (p ++ [f]) := by
  obtain ⟨hl, he⟩ := artI_at ha
  have hg : (cntsL x p).getD (artI x.2.1 (cueA x f)).toNat 0 = (cntN x p (cueA x f) : Int) := by
    unfold cntsL
    rw [List.getD_eq_getElem?_getD, List.getElem?_map, List.getElem?_eq_getElem hl]
    simp only [Option.map_some, Option.getD_some, he]
  have hle := cntN_le x p (cueA x f)
  rw [hg, w64 (by omega) (by omega)]
  apply List.ext_getElem
  · simp [cntsL]
  · intro i h1 h2
    have hi : i < x.2.1.length := by simpa [cntsL] using h2
    rw [List.getElem_set]
    unfold cntsL
    simp only [List.getElem_map, cntN_snoc]
    by_cases e : (artI x.2.1 (cueA x f)).toNat = i
    · subst e
      rw [if_pos rfl, he]
      simp
    · rw [if_neg e]
      have : ¬ cueA x f = (x.2.1[i]).1 := fun e2 => e (arts_inj h hl hi (by rw [he, e2]))
      rw [if_neg this]; simp
theorem impl_out (x : Show) (fired : List Int) (list : List Bk) (hx : artsB x.2.1 = true) (hax : ∀ a ∈ x.2.1, Sz a.1) (ho : list.length ≤ 900000) (hz : ∀ b ∈ list, Sz b.2.1) :
    impl_BookShow.l13 NN NN (x.2.1.length : Int) 0 x list (cntsL x fired) = some (limR (bookL x fired list)) := by
  have h12 := (artsB_ok hx).1
  have hcl : (cntsL x fired).length = x.2.1.length := by simp [cntsL]
  have := fold_fix (E := fun a : Art => Sz a.1) (fun p st => st.length ≤ list.length + p.length ∧ ∀ b ∈ st, Sz b.2.1) (fun _ => bookF x fired) (fun st => some (limR st)) (fun m i st => impl_BookShow.l13 NN m (x.2.1.length : Int) i x st (cntsL x fired)) x.2.1 ?_ ?_ list hax ⟨by simp, hz⟩ (by omega) NN (NN_lt (by omega))
  · rw [foldi_foldl] at this
    exact this.2
  · intro m st hst
    have n1 := hst.1
    simp only [impl_BookShow.l13, impl_BookShow.g13, Int.lt_irrefl, decide_false, Bool.false_eq_true, if_false]
    unfold limR
    rw [impl_AreBookings_z st (by omega) hst.2]
    by_cases h60 : 60 < st.length
    · have : (60 : Int) < (st.length : Int) := by omega
      simp [h60, this]
    · have : ¬ (60 : Int) < (st.length : Int) := by omega
      cases hb : booksB st <;> simp [h60, this]
  · intro m p a r st hxs ha hI c0 c1 c2 cw g
    have hp : p.length ≤ 12 := by omega
    have hI1 := hI.1
    have hlen := bookF_len x fired st a
    refine ⟨⟨by simp only [List.length_append, List.length_singleton]; omega, bookF_sz x fired hI.2 ha⟩, ?_⟩
    have c3 : (p.length : Int) < ((cntsL x fired).length : Int) := by omega
    have hc : ∀ z, (cntsL x fired).getD p.length z = (cntN x fired a.1 : Int) := fun z => by
      have hpl : p.length < x.2.1.length := by omega
      have hge := g (ByteArray.empty, (0, (0, (0, (0, (0, (0, (0, 0))))))))
      rw [List.getD_eq_getElem?_getD, List.getElem?_eq_getElem hpl, Option.getD_some] at hge
      unfold cntsL
      rw [List.getD_eq_getElem?_getD, List.getElem?_map, List.getElem?_eq_getElem hpl]
      simp only [Option.map_some, Option.getD_some, hge]
    simp only [impl_BookShow.l13, impl_BookShow.g13, c0, c1, c3, cw, and_self, and_true, true_and, decide_true, decide_false, if_true, if_false, mid_get, mid_set, mid_getn, mid_setn, bt_mid, Option.bind_some, Bool.not_true, Bool.not_false, Bool.false_eq_true, Bool.true_eq_false, beq_self_eq_true, bne_self_eq_false, Int.toNat_natCast, Int.toNat_natCast, hc, g]
    unfold bookF
    by_cases h : 0 < cntN x fired a.1
    · have h' : (0 : Int) < (cntN x fired a.1 : Int) := by omega
      simp only [h, h', decide_true, if_true]
      exact if_pos (by rw [room32]; simp; omega)
    · have h' : ¬ (0 : Int) < (cntN x fired a.1 : Int) := by omega
      simp only [h, h', decide_false, Bool.false_eq_true, if_false]
theorem impl_chk (x : Show) (hx : showB x = true) (list : List Bk) (ho : list.length ≤ 900000) : ∀ (r p : List Int) (y : Int) (k : Nat), p.length + r.length + 1 ≤ 1000000 → r.length < k →
    impl_BookShow.l5 NN k list (p ++ [y] ++ r) (p ++ [y] ++ r) (p ++ [y] ++ r).length ((p.length : Int) + 1) x (cntsL x (p ++ [y])) = if (r.all (inB · 0 ((x.2.2.length : Int) - 1)) && risF y r) = true then impl_BookShow.l13 NN NN (x.2.1.length : Int) 0 x list (cntsL x (p ++ [y] ++ r)) else some ([], 2) := by
  have hsi := showB_iff hx
  have hxl := (artsB_ok hsi.2.1).1
  intro r
  induction r with
  | nil =>
    intro p y k _ hk
    obtain ⟨k, rfl⟩ : ∃ j, k = j + 1 := ⟨k - 1, by omega⟩
    have n1 : ¬ (p.length : Int) + 1 < ((p ++ [y]).length : Int) := by simp
    rw [List.append_nil]
    have hcl : ((cntsL x (p ++ [y])).length : Int) = (x.2.1.length : Int) := by simp [cntsL]
    simp only [impl_BookShow.l5, impl_BookShow.g5, n1, decide_false, Bool.false_eq_true, if_false, hcl, risF, List.all_nil, Bool.and_self, if_true, List.nil_append, List.append_nil]
    rw [if_pos (by rw [room32]; simp; omega)]
  | cons f r ih =>
    intro p y k hb hk
    simp only [List.length_cons] at hb hk
    obtain ⟨k, rfl⟩ : ∃ j, k = j + 1 := ⟨k - 1, by omega⟩
    have hl : ((p ++ [y] ++ f :: r).length : Int) = p.length + r.length + 2 := by simp; omega
    have w1 := w64 (n := (p.length : Int) + 1 - 1) (by omega) (by omega)
    have w2 := w64 (n := (p.length : Int) + 1 + 1) (by omega) (by omega)
    have c1 : (p.length : Int) + 1 < ((p ++ [y] ++ f :: r).length : Int) := by omega
    have c2 : (0 : Int) ≤ (p.length : Int) + 1 - 1 := by omega
    have c3 : (p.length : Int) + 1 - 1 < ((p ++ [y] ++ f :: r).length : Int) := by omega
    have c4 : (0 : Int) ≤ (p.length : Int) + 1 := by omega
    have c5 : (0 : Int) < (p.length : Int) + 1 := by omega
    have g1 : ∀ z, (p ++ [y] ++ f :: r).getD ((p.length : Int) + 1).toNat z = f := fun z => by
      rw [show ((p.length : Int) + 1).toNat = (p ++ [y]).length by simp, mid_getn]
    have g2 : ∀ z, (p ++ [y] ++ f :: r).getD ((p.length : Int) + 1 - 1).toNat z = y := fun z => by
      rw [show ((p.length : Int) + 1 - 1).toNat = p.length by omega, snoc_getl']
    have i1 := ih (p ++ [y]) f k (by simp; omega) (by omega)
    have e1 : (((p ++ [y]).length : Nat) : Int) + 1 = (p.length : Int) + 1 + 1 := by simp
    have e2 : p ++ [y] ++ [f] ++ r = p ++ [y] ++ f :: r := by simp
    rw [e1, e2] at i1
    have eA : ∀ f : Int, (x.2.2.getD f.toNat (0, (0, (ByteArray.empty, 0)))).2.2.1 = cueA x f := fun _ => rfl
    simp only [impl_BookShow.l5, impl_BookShow.g5, w1, w2, c1, c2, c3, c4, c5, g1, g2, and_self, decide_true, if_true, Option.bind_some, impl_isIndex_f f (n := (x.2.2.length : Int)) (by omega) (by omega), eA, List.all_cons, risF]
    rcases Bool.eq_false_or_eq_true (inB f 0 ((x.2.2.length : Int) - 1)) with hf | hf
    · have hff := inB_iff.1 hf
      by_cases hle : f ≤ y
      · have : ¬ y < f := by omega
        simp [hf, hle, this]
      · have hlt : y < f := by omega
        have ha := cue_art hx (f := f) (by omega) (by omega)
        have hbd := artI_bd x.2.1 (cueA x f)
        have hcl : ((cntsL x (p ++ [y])).length : Int) = (x.2.1.length : Int) := by simp [cntsL]
        have hu := cnts_upd hsi.2.1 (p ++ [y]) f ha (by simp; omega)
        simp only [hf, hle, hlt, hff.1, show f < (x.2.2.length : Int) from by omega, decide_false, decide_true, Bool.not_true, Bool.true_and, Bool.false_eq_true, if_true, if_false, and_self, impl_articleOf_f x.2.1 _ (show x.2.1.length ≤ 140737488355328 by omega), Option.bind_some, ha, hcl, hbd, hu]
        exact i1
    · simp [hf]
theorem impl_chk0 (x : Show) (hs : showB x = true) (list : List Bk) (hl : list.length ≤ 900000) (hz : ∀ b ∈ list, Sz b.2.1) (hx : ShowZ x) (fired : List Int) (hf : fired.length ≤ 900000) :
    impl_BookShow.l5 NN NN list fired fired (fired.length : Int) 0 x (cntsL x []) = some (if firedB x fired = true then limR (bookL x fired list) else ([], 2)) := by
  have hsi := showB_iff hs
  have hxl := (artsB_ok hsi.2.1).1
  obtain ⟨k, hk⟩ : ∃ j, NN = j + 1 := ⟨NN - 1, by have := NNb; omega⟩
  have hkb : 1000000000000000 < k := by rw [NN_eq] at hk; omega
  rw [show impl_BookShow.l5 NN NN = impl_BookShow.l5 NN (k + 1) by rw [← hk]]
  have hcl : ((cntsL x []).length : Int) = (x.2.1.length : Int) := by simp [cntsL]
  cases fired with
  | nil =>
    have n1 : ¬ (0 : Int) < (([] : List Int).length : Int) := by simp
    simp only [impl_BookShow.l5, impl_BookShow.g5, n1, decide_false, Bool.false_eq_true, if_false, hcl, List.nil_append]
    rw [if_pos (by rw [room32]; simp; omega), impl_out x [] list hsi.2.1 hx.2.1.2 hl hz]
    simp [firedB, risB]
  | cons f r =>
    simp only [List.length_cons] at hf
    have i1 := impl_chk x hs list hl r [] f k (by simp; omega) (by omega)
    simp only [List.nil_append, List.length_nil] at i1
    have n1 : (0 : Int) < ((f :: r).length : Int) := by simp only [List.length_cons]; omega
    have w2 := w64 (n := (0 : Int) + 1) (by omega) (by omega)
    have g1 : ∀ z, (f :: r).getD (0 : Int).toNat z = f := fun z => rfl
    have eA : ∀ f : Int, (x.2.2.getD f.toNat (0, (0, (ByteArray.empty, 0)))).2.2.1 = cueA x f := fun _ => rfl
    simp only [impl_BookShow.l5, impl_BookShow.g5, n1, w2, g1, Int.le_refl, Int.lt_irrefl, and_self, decide_true, decide_false, Bool.false_eq_true, if_true, if_false, Option.bind_some, impl_isIndex_f f (n := (x.2.2.length : Int)) (by omega) (by omega), eA]
    have hfb : firedB x (f :: r) = (inB f 0 ((x.2.2.length : Int) - 1) && (r.all (inB · 0 ((x.2.2.length : Int) - 1)) && risF f r)) := by
      unfold firedB
      rw [List.all_cons, risB_cons, Bool.and_assoc]
    rw [hfb]
    rcases Bool.eq_false_or_eq_true (inB f 0 ((x.2.2.length : Int) - 1)) with hfi | hfi
    · have hff := inB_iff.1 hfi
      have ha := cue_art hs (f := f) (by omega) (by omega)
      have hbd := artI_bd x.2.1 (cueA x f)
      have hu := cnts_upd hsi.2.1 [] f ha (by simp)
      rw [List.nil_append] at hu
      simp only [hfi, hff.1, show f < (x.2.2.length : Int) from by omega, Bool.not_true, Bool.true_and, if_true, and_self, impl_articleOf_f x.2.1 _ (show x.2.1.length ≤ 140737488355328 by omega), Option.bind_some, ha, hcl, hbd, hu]
      have e0 : ((0 : Nat) : Int) = 0 := rfl
      rw [show [f] ++ r = f :: r from rfl, e0] at i1
      rw [i1, impl_out x (f :: r) list hsi.2.1 hx.2.1.2 hl hz]
      split <;> rfl
    · simp [hfi]
theorem cnts_nil (x : Show) : List.replicate (x.2.1.length : Int).toNat (0 : Int) = cntsL x [] := by
  unfold cntsL cntN
  rw [Int.toNat_natCast]
  apply List.ext_getElem
  · simp
  · intro i h1 h2; simp
theorem impl_BookShow_f (list : List Bk) (x : Show) (fired : List Int) (hl : list.length ≤ 900000) (hz : ∀ b ∈ list, Sz b.2.1) (hx : ShowZ x) (hf : fired.length ≤ 900000) : impl_BookShow.f list x fired = some (bookS list x fired) := by
  unfold impl_BookShow.f impl_BookShow.fn impl_BookShow.top bookS
  rw [impl_AreBookings_z list (by omega) hz, impl_IsShow_f x hx]
  rcases Bool.eq_false_or_eq_true (booksB list) with hb | hb
  rotate_left
  · simp [hb]
  rcases Bool.eq_false_or_eq_true (showB x) with hs | hs
  rotate_left
  · simp [hb, hs]
  have hsi := showB_iff hs
  have hxl := (artsB_ok hsi.2.1).1
  have hr : (x.2.1.length : Int) < room 8 := by rw [room8]; omega
  have h0 : (0 : Int) ≤ (x.2.1.length : Int) := by omega
  rw [hb, hs, Option.bind_some, if_pos (show (!true) = false from rfl), Option.bind_some, if_neg (show ¬ (!true) = true by simp), if_pos ⟨h0, hr, rfl⟩, cnts_nil, if_pos rfl, if_pos rfl]
  exact impl_chk0 x hs list hl hz hx fired hf
end Go.Pl

namespace Go.Pl
open Go.Ev
set_option linter.unusedVariables false
noncomputable section
def impl_PiecesLeft.top (list0 : List (Int × ByteArray × Int)) (article1 : ByteArray) : Option (Int × Int) :=
  (impl_AreBookings.f list0).bind fun r1 =>
  if (!r1) = false then
    (impl_IsWord.f article1).bind fun r2 =>
    if (!r2) = true then
      some (0, 1)
    else
      (impl_piecesLeft.f list0 article1).bind fun r3 =>
      some (r3, 0)
  else
    some (0, 1)
def impl_PiecesLeft.fn (n : Nat) (list0 : List (Int × ByteArray × Int)) (article1 : ByteArray) : Option (Int × Int) := impl_PiecesLeft.top list0 article1
def impl_PiecesLeft.f (list0 : List (Int × ByteArray × Int)) (article1 : ByteArray) : Option (Int × Int) := impl_PiecesLeft.fn NN list0 article1
end
end Go.Pl

namespace Go.Pl
open Go.Ev
set_option linter.unusedVariables false
noncomputable section
def spec_PiecesLeft.top (list0 : List (Int × ByteArray × Int)) (article1 : ByteArray) : Option (Int × Int) :=
  (spec_AreBookings.f list0).bind fun r1 =>
  if (!r1) = false then
    (spec_IsWord.f article1).bind fun r2 =>
    if (!r2) = true then
      some (0, 1)
    else
      (spec_l32Left.f list0 article1 (list0.length : Int)).bind fun r3 =>
      some (r3, 0)
  else
    some (0, 1)
def spec_PiecesLeft.fn (n : Nat) (list0 : List (Int × ByteArray × Int)) (article1 : ByteArray) : Option (Int × Int) := spec_PiecesLeft.top list0 article1
def spec_PiecesLeft.f (list0 : List (Int × ByteArray × Int)) (article1 : ByteArray) : Option (Int × Int) := spec_PiecesLeft.fn NN list0 article1
end
end Go.Pl

namespace Go.Pl
open Go.Ev
set_option linter.unusedVariables false
noncomputable section
def impl_MostIn.g5 (L5 : (List (Int × ByteArray × Int)) → ByteArray → Int → Int → Int → Option (Int × Int)) (list0 : List (Int × ByteArray × Int)) (article1 : ByteArray) (most6 : Int) (v17 : Int) (v18 : Int) : Option (Int × Int) :=
  if (decide ((v18 : Int) < v17)) = true then
    if (0 : Int) ≤ (IntKind.i64.wrap (v18 + 1)) ∧ ((IntKind.i64.wrap (v18 + 1)) : Int) ≤ list0.length then
      (impl_piecesLeft.f (list0.take ((IntKind.i64.wrap (v18 + 1)) : Int).toNat) article1).bind fun r3 =>
      L5 list0 article1 (if r3 > most6 then r3 else most6) v17 (IntKind.i64.wrap (v18 + 1))
    else
      none
  else
    some (most6, 0)
def impl_MostIn.l5 (n : Nat) : Nat → (List (Int × ByteArray × Int)) → ByteArray → Int → Int → Int → Option (Int × Int)
  | 0 => fun _ _ _ _ _ => none
  | k + 1 => impl_MostIn.g5 (impl_MostIn.l5 n k)
def impl_MostIn.top (I5 : (List (Int × ByteArray × Int)) → ByteArray → Int → Int → Int → Option (Int × Int)) (list0 : List (Int × ByteArray × Int)) (article1 : ByteArray) : Option (Int × Int) :=
  (impl_AreBookings.f list0).bind fun r1 =>
  if (!r1) = false then
    (impl_IsWord.f article1).bind fun r2 =>
    if (!r2) = true then
      some (0, 1)
    else
      I5 list0 article1 0 (list0.length : Int) 0
  else
    some (0, 1)
def impl_MostIn.fn (n : Nat) (list0 : List (Int × ByteArray × Int)) (article1 : ByteArray) : Option (Int × Int) := impl_MostIn.top (impl_MostIn.l5 n n) list0 article1
def impl_MostIn.f (list0 : List (Int × ByteArray × Int)) (article1 : ByteArray) : Option (Int × Int) := impl_MostIn.fn NN list0 article1
end
end Go.Pl

namespace Go.Pl
open Go.Ev
set_option linter.unusedVariables false
noncomputable section
def spec_MostIn.g5 (L5 : (List (Int × ByteArray × Int)) → ByteArray → Int → Int → Option (Int × Int)) (list0 : List (Int × ByteArray × Int)) (article1 : ByteArray) (most6 : Int) (n7 : Int) : Option (Int × Int) :=
  if (decide ((n7 : Int) ≤ (list0.length : Int))) = true then
    (spec_l32Left.f list0 article1 n7).bind fun r3 =>
    L5 list0 article1 (if r3 > most6 then r3 else most6) (IntKind.i64.wrap (n7 + 1))
  else
    some (most6, 0)
def spec_MostIn.l5 (n : Nat) : Nat → (List (Int × ByteArray × Int)) → ByteArray → Int → Int → Option (Int × Int)
  | 0 => fun _ _ _ _ => none
  | k + 1 => spec_MostIn.g5 (spec_MostIn.l5 n k)
def spec_MostIn.top (I5 : (List (Int × ByteArray × Int)) → ByteArray → Int → Int → Option (Int × Int)) (list0 : List (Int × ByteArray × Int)) (article1 : ByteArray) : Option (Int × Int) :=
  (spec_AreBookings.f list0).bind fun r1 =>
  if (!r1) = false then
    (spec_IsWord.f article1).bind fun r2 =>
    if (!r2) = true then
      some (0, 1)
    else
      I5 list0 article1 0 0
  else
    some (0, 1)
def spec_MostIn.fn (n : Nat) (list0 : List (Int × ByteArray × Int)) (article1 : ByteArray) : Option (Int × Int) := spec_MostIn.top (spec_MostIn.l5 n n) list0 article1
def spec_MostIn.f (list0 : List (Int × ByteArray × Int)) (article1 : ByteArray) : Option (Int × Int) := spec_MostIn.fn NN list0 article1
end
end Go.Pl

namespace Go.Pl
open Go.Ev
set_option linter.unusedVariables false
set_option linter.unusedSimpArgs false
theorem l32Left_all (xs : List (Int × ByteArray × Int)) (a : ByteArray) (h : ∀ b ∈ xs, valB b = true) (hl : xs.length ≤ 1000000) : spec_l32Left.f xs a xs.length = some (leftOf xs a) := by
  have := spec_l32Left_f xs [] a h hl
  rwa [List.append_nil] at this
theorem l32Left_take (xs : List (Int × ByteArray × Int)) (a : ByteArray) (n : Nat) (hn : n ≤ xs.length) (h : ∀ b ∈ xs, valB b = true) (hl : xs.length ≤ 1000000) : spec_l32Left.f xs a n = some (leftOf (xs.take n) a) := by
  have := spec_l32Left_f (xs.take n) (xs.drop n) a (fun b hb => h b (List.mem_of_mem_take hb)) (by rw [List.length_take]; omega)
  rwa [List.take_append_drop, List.length_take, Nat.min_eq_left hn] at this
def leftR (xs : List (Int × ByteArray × Int)) (a : ByteArray) : Int × Int := if booksB xs = true ∧ wordB a = true then (leftOf xs a, 0) else (0, 1)
theorem PiecesLeft_both (xs : List (Int × ByteArray × Int)) (a : ByteArray) (h : Lm OkBooking xs) (ha : Sm a) : spec_PiecesLeft.f xs a = some (leftR xs a) ∧ impl_PiecesLeft.f xs a = some (leftR xs a) := by
  unfold leftR
  refine ⟨?_, ?_⟩
  · unfold spec_PiecesLeft.f spec_PiecesLeft.fn spec_PiecesLeft.top
    rw [spec_AreBookings_f xs h, spec_IsWord_f a (Nat.le_trans ha (by omega))]
    cases hb : booksB xs
    · rfl
    cases hw : wordB a
    · rfl
    have hv := booksB_val hb
    simp only [and_self, and_true, true_and, decide_true, decide_false, if_true, if_false, mid_get, mid_set, mid_getn, mid_setn, bt_mid, Option.bind_some, Bool.not_true, Bool.not_false, Bool.false_eq_true, Bool.true_eq_false, beq_self_eq_true, bne_self_eq_false, Int.toNat_natCast]
    rw [l32Left_all xs a hv.1 (by omega)]; rfl
  · unfold impl_PiecesLeft.f impl_PiecesLeft.fn impl_PiecesLeft.top
    rw [impl_AreBookings_f xs h, impl_IsWord_f a (Nat.le_trans ha (by omega))]
    cases hb : booksB xs
    · rfl
    cases hw : wordB a
    · rfl
    have hv := booksB_val hb
    simp only [and_self, and_true, true_and, decide_true, decide_false, if_true, if_false, mid_get, mid_set, mid_getn, mid_setn, bt_mid, Option.bind_some, Bool.not_true, Bool.not_false, Bool.false_eq_true, Bool.true_eq_false, beq_self_eq_true, bne_self_eq_false, Int.toNat_natCast]
    rw [impl_piecesLeft_f xs a hv.1 (by omega)]; rfl
theorem PiecesLeft_core (xs : List (Int × ByteArray × Int)) (a : ByteArray) (h : Lm OkBooking xs) (ha : Sm a) : ∃ w, spec_PiecesLeft.f xs a = some w ∧ impl_PiecesLeft.f xs a = some w ∧ True :=
  ⟨_, (PiecesLeft_both xs a h ha).1, (PiecesLeft_both xs a h ha).2, trivial⟩
def mostF (xs : List (Int × ByteArray × Int)) (a : ByteArray) (i : Nat) (st : Int) : Int := if leftOf (xs.take (i + 1)) a > st then leftOf (xs.take (i + 1)) a else st
def mostL (xs : List (Int × ByteArray × Int)) (a : ByteArray) : Int := foldi (fun i st (_ : Int × ByteArray × Int) => mostF xs a i st) 0 0 xs
theorem impl_MostIn_l (xs : List (Int × ByteArray × Int)) (a : ByteArray) (h : ∀ b ∈ xs, valB b = true) (hl : xs.length ≤ 60) : impl_MostIn.l5 NN NN xs a 0 xs.length 0 = some (mostL xs a, 0) := by
  have := (fold_fix (E := fun _ => True) (fun _ _ => True) (fun i st (_ : Int × ByteArray × Int) => mostF xs a i st) (fun st => some (st, (0 : Int))) (fun k i st => impl_MostIn.l5 NN k xs a st xs.length i) xs ?_ ?_ 0 (fun _ _ => trivial) trivial (by omega) NN (NN_lt (by omega))).2
  · exact this
  · intro k st _
    simp [impl_MostIn.l5, impl_MostIn.g5]
  · intro k p b r st hx _ _ c0 c1 c2 cw g
    refine ⟨trivial, ?_⟩
    have c3 : (0 : Int) ≤ (p.length : Int) + 1 := by omega
    have c4 : (p.length : Int) + 1 ≤ (xs.length : Int) := by omega
    have e : ((p.length : Int) + 1).toNat = p.length + 1 := by omega
    simp only [impl_MostIn.l5, impl_MostIn.g5, c1, c3, c4, cw, e, and_self, and_true, true_and, decide_true, decide_false, if_true, if_false, mid_get, mid_set, mid_getn, mid_setn, bt_mid, Option.bind_some, Bool.not_true, Bool.not_false, Bool.false_eq_true, Bool.true_eq_false, beq_self_eq_true, bne_self_eq_false, Int.toNat_natCast]
    rw [impl_piecesLeft_f (xs.take (p.length + 1)) a (fun b hb => h b (List.mem_of_mem_take hb)) (by rw [List.length_take]; omega)]
    rfl
theorem spec_MostIn_l (xs : List (Int × ByteArray × Int)) (a : ByteArray) (h : ∀ b ∈ xs, valB b = true) (hl : xs.length ≤ 60) : spec_MostIn.l5 NN NN xs a 0 0 = some (mostL xs a, 0) := by
  obtain ⟨k, hk⟩ : ∃ j, NN = j + 1 := ⟨NN - 1, by have := NNb; omega⟩
  have hkb : 1000 < k := by rw [NN_eq] at hk; omega
  have := (fold_fix (E := fun _ => True) (fun _ _ => True) (fun i st (_ : Int × ByteArray × Int) => mostF xs a i st) (fun st => some (st, (0 : Int))) (fun k i st => spec_MostIn.l5 NN k xs a st (i + 1)) xs ?_ ?_ 0 (fun _ _ => trivial) trivial (by omega) k (by omega)).2
  · rw [show spec_MostIn.l5 NN NN = spec_MostIn.l5 NN (k + 1) by rw [← hk]]
    have c0 : (0 : Int) ≤ (xs.length : Int) := by omega
    have z := l32Left_take xs a 0 (by omega) h (by omega)
    have w := w64 (n := 0 + 1) (by omega) (by omega)
    simp only [spec_MostIn.l5, spec_MostIn.g5, c0, and_self, and_true, true_and, decide_true, decide_false, if_true, if_false, mid_get, mid_set, mid_getn, mid_setn, bt_mid, Option.bind_some, Bool.not_true, Bool.not_false, Bool.false_eq_true, Bool.true_eq_false, beq_self_eq_true, bne_self_eq_false, Int.toNat_natCast, w]
    rw [show ((0 : Nat) : Int) = 0 from rfl] at z
    rw [z]
    exact this
  · intro k st _
    simp [spec_MostIn.l5, spec_MostIn.g5]
    omega
  · intro k p b r st hx _ _ c0 c1 c2 cw g
    refine ⟨trivial, ?_⟩
    have c4 : (p.length : Int) + 1 ≤ (xs.length : Int) := by omega
    have z := l32Left_take xs a (p.length + 1) (by omega) h (by omega)
    rw [show ((p.length + 1 : Nat) : Int) = (p.length : Int) + 1 by omega] at z
    have w := w64 (n := (p.length : Int) + 1 + 1) (by omega) (by omega)
    simp only [spec_MostIn.l5, spec_MostIn.g5, c4, w, z, and_self, and_true, true_and, decide_true, decide_false, if_true, if_false, mid_get, mid_set, mid_getn, mid_setn, bt_mid, Option.bind_some, Bool.not_true, Bool.not_false, Bool.false_eq_true, Bool.true_eq_false, beq_self_eq_true, bne_self_eq_false, Int.toNat_natCast]
    rfl
def mostR (xs : List (Int × ByteArray × Int)) (a : ByteArray) : Int × Int := if booksB xs = true ∧ wordB a = true then (mostL xs a, 0) else (0, 1)
theorem MostIn_both (xs : List (Int × ByteArray × Int)) (a : ByteArray) (h : Lm OkBooking xs) (ha : Sm a) : spec_MostIn.f xs a = some (mostR xs a) ∧ impl_MostIn.f xs a = some (mostR xs a) := by
  unfold mostR
  refine ⟨?_, ?_⟩
  · unfold spec_MostIn.f spec_MostIn.fn spec_MostIn.top
    rw [spec_AreBookings_f xs h, spec_IsWord_f a (Nat.le_trans ha (by omega))]
    cases hb : booksB xs
    · rfl
    cases hw : wordB a
    · rfl
    have hv := booksB_val hb
    exact spec_MostIn_l xs a hv.1 hv.2
  · unfold impl_MostIn.f impl_MostIn.fn impl_MostIn.top
    rw [impl_AreBookings_f xs h, impl_IsWord_f a (Nat.le_trans ha (by omega))]
    cases hb : booksB xs
    · rfl
    cases hw : wordB a
    · rfl
    have hv := booksB_val hb
    exact impl_MostIn_l xs a hv.1 hv.2
theorem MostIn_core (xs : List (Int × ByteArray × Int)) (a : ByteArray) (h : Lm OkBooking xs) (ha : Sm a) : ∃ w, spec_MostIn.f xs a = some w ∧ impl_MostIn.f xs a = some w ∧ True :=
  ⟨_, (MostIn_both xs a h ha).1, (MostIn_both xs a h ha).2, trivial⟩
end Go.Pl

namespace Go.Pl
open Go.Ev
set_option linter.unusedVariables false
noncomputable section
def impl_TotalsOf.top (list0 : List (Int × ByteArray × Int)) (article1 : ByteArray) : Option (List Int × Int) :=
  (impl_AreBookings.f list0).bind fun r1 =>
  if (!r1) = false then
    (impl_IsWord.f article1).bind fun r2 =>
    if (!r2) = true then
      some ([], 1)
    else
      (impl_totalsOf.f list0 article1).bind fun r3 =>
      some (r3, 0)
  else
    some ([], 1)
def impl_TotalsOf.fn (n : Nat) (list0 : List (Int × ByteArray × Int)) (article1 : ByteArray) : Option (List Int × Int) := impl_TotalsOf.top list0 article1
def impl_TotalsOf.f (list0 : List (Int × ByteArray × Int)) (article1 : ByteArray) : Option (List Int × Int) := impl_TotalsOf.fn NN list0 article1
end
end Go.Pl

namespace Go.Pl
open Go.Ev
set_option linter.unusedVariables false
noncomputable section
def spec_TotalsOf.g5 (L5 : (List (Int × ByteArray × Int)) → ByteArray → Int → List Int → Option (List Int × Int)) (list0 : List (Int × ByteArray × Int)) (article1 : ByteArray) (i7 : Int) (out6 : List Int) : Option (List Int × Int) :=
  if (decide ((i7 : Int) < (list0.length : Int))) = true then
    if (0 : Int) ≤ i7 ∧ (i7 : Int) < list0.length then
      if ((((list0.getD (i7 : Int).toNat (0, (ByteArray.empty, 0))).2).1).toList == article1.toList) = true then
        if (0 : Int) ≤ i7 ∧ (i7 : Int) < list0.length then
          if (0 : Int) ≤ i7 ∧ (i7 : Int) < list0.length then
            if (0 : Int) ≤ ((list0.getD (i7 : Int).toNat (0, (ByteArray.empty, 0))).1) ∧ (((list0.getD (i7 : Int).toNat (0, (ByteArray.empty, 0))).1) : Int) < out6.length then
              if (0 : Int) ≤ i7 ∧ (i7 : Int) < list0.length then
                if (0 : Int) ≤ ((list0.getD (i7 : Int).toNat (0, (ByteArray.empty, 0))).1) ∧ (((list0.getD (i7 : Int).toNat (0, (ByteArray.empty, 0))).1) : Int) < out6.length then
                  L5 list0 article1 (IntKind.i64.wrap (i7 + 1)) (out6.set (((list0.getD (i7 : Int).toNat (0, (ByteArray.empty, 0))).1) : Int).toNat (IntKind.i64.wrap ((out6.getD (((list0.getD (i7 : Int).toNat (0, (ByteArray.empty, 0))).1) : Int).toNat 0) + (((list0.getD (i7 : Int).toNat (0, (ByteArray.empty, 0))).2).2))))
                else
                  none
              else
                none
            else
              none
          else
            none
        else
          none
      else
        L5 list0 article1 (IntKind.i64.wrap (i7 + 1)) out6
    else
      none
  else
    some (out6, 0)
def spec_TotalsOf.l5 (n : Nat) : Nat → (List (Int × ByteArray × Int)) → ByteArray → Int → List Int → Option (List Int × Int)
  | 0 => fun _ _ _ _ => none
  | k + 1 => spec_TotalsOf.g5 (spec_TotalsOf.l5 n k)
def spec_TotalsOf.top (I5 : (List (Int × ByteArray × Int)) → ByteArray → Int → List Int → Option (List Int × Int)) (list0 : List (Int × ByteArray × Int)) (article1 : ByteArray) : Option (List Int × Int) :=
  (spec_AreBookings.f list0).bind fun r1 =>
  if (!r1) = false then
    (spec_IsWord.f article1).bind fun r2 =>
    if (!r2) = true then
      some ([], 1)
    else if (0 : Int) ≤ 4 ∧ (4 : Int) < room 8 ∧ (4 : Int) = 4 then
      I5 list0 article1 0 (List.replicate (4 : Int).toNat 0)
    else
      none
  else
    some ([], 1)
def spec_TotalsOf.fn (n : Nat) (list0 : List (Int × ByteArray × Int)) (article1 : ByteArray) : Option (List Int × Int) := spec_TotalsOf.top (spec_TotalsOf.l5 n n) list0 article1
def spec_TotalsOf.f (list0 : List (Int × ByteArray × Int)) (article1 : ByteArray) : Option (List Int × Int) := spec_TotalsOf.fn NN list0 article1
end
end Go.Pl

namespace Go.Pl
open Go.Ev
set_option linter.unusedVariables false
set_option linter.unusedSimpArgs false
theorem spec_TotalsOf_l (xs : List (Int × ByteArray × Int)) (a : ByteArray) (h : ∀ b ∈ xs, valB b = true) (hl : xs.length ≤ 1000000) : spec_TotalsOf.l5 NN NN xs a 0 (List.replicate (4 : Int).toNat 0) = some (totL xs a, 0) := by
  have := (fold_fix (E := fun b => valB b = true) (fun p s => (∀ b ∈ p, valB b = true) ∧ s = totL p a) (fun _ => addT a) (fun st => some (st, (0 : Int))) (fun k i s => spec_TotalsOf.l5 NN k xs a i s) xs ?_ ?_ [0, 0, 0, 0] h ⟨by simp, rfl⟩ (by omega) NN (NN_lt (by omega))).2
  · rw [foldi_foldl] at this
    exact this
  · intro k st _
    simp [spec_TotalsOf.l5, spec_TotalsOf.g5]
  · intro k p b r st hx hb hI c0 c1 c2 cw g
    obtain ⟨h1, rfl⟩ := hI
    have h2 := val_snoc h1 hb
    refine ⟨⟨h2, (totL_snoc p b a).symm⟩, ?_⟩
    obtain ⟨t0, t1, t2, t3, e1, e2, e3, e4, e5, e6, e7⟩ := totL_shape a p h1
    have hpl : p.length ≤ 1000000 := by omega
    have hv := valB_count hb
    simp only [spec_TotalsOf.l5, spec_TotalsOf.g5, c0, c1, cw, and_self, and_true, true_and, decide_true, decide_false, if_true, if_false, mid_get, mid_set, mid_getn, mid_setn, bt_mid, Option.bind_some, Bool.not_true, Bool.not_false, Bool.false_eq_true, Bool.true_eq_false, beq_self_eq_true, bne_self_eq_false, Int.toNat_natCast, g, ba_beq]
    unfold addT
    by_cases ha : b.2.1 = a
    · have k1 : b.1 < ((totL p a).length : Int) := by rw [e1]; simp; omega
      have k2 : 0 ≤ (totL p a).getD b.1.toNat 0 ∧ (totL p a).getD b.1.toNat 0 ≤ 1000000000 := by
        rw [e1]
        obtain h | h | h | h : b.1 = 0 ∨ b.1 = 1 ∨ b.1 = 2 ∨ b.1 = 3 := by omega
        all_goals (rw [h]; simp; omega)
      have e := w64 (n := (totL p a).getD b.1.toNat 0 + b.2.2) (by omega) (by omega)
      simp only [ha, decide_true, if_true, hv.2.2.1, k1, and_self, e]
    · simp [ha]
def totR (xs : List (Int × ByteArray × Int)) (a : ByteArray) : List Int × Int := if booksB xs = true ∧ wordB a = true then (totL xs a, 0) else ([], 1)
theorem TotalsOf_both (xs : List (Int × ByteArray × Int)) (a : ByteArray) (h : Lm OkBooking xs) (ha : Sm a) : spec_TotalsOf.f xs a = some (totR xs a) ∧ impl_TotalsOf.f xs a = some (totR xs a) ∧ Lm (Rg .i64) (totR xs a).1 := by
  unfold totR
  refine ⟨?_, ?_, ?_⟩
  · unfold spec_TotalsOf.f spec_TotalsOf.fn spec_TotalsOf.top
    rw [spec_AreBookings_f xs h, spec_IsWord_f a (Nat.le_trans ha (by omega))]
    cases hb : booksB xs
    · rfl
    cases hw : wordB a
    · rfl
    have hv := booksB_val hb
    simp only [and_self, and_true, true_and, decide_true, decide_false, if_true, if_false, mid_get, mid_set, mid_getn, mid_setn, bt_mid, Option.bind_some, Bool.not_true, Bool.not_false, Bool.false_eq_true, Bool.true_eq_false, beq_self_eq_true, bne_self_eq_false, Int.toNat_natCast]
    rw [if_pos (by rw [room8]; omega)]
    exact spec_TotalsOf_l xs a hv.1 (by omega)
  · unfold impl_TotalsOf.f impl_TotalsOf.fn impl_TotalsOf.top
    rw [impl_AreBookings_f xs h, impl_IsWord_f a (Nat.le_trans ha (by omega))]
    cases hb : booksB xs
    · rfl
    cases hw : wordB a
    · rfl
    have hv := booksB_val hb
    simp only [and_self, and_true, true_and, decide_true, decide_false, if_true, if_false, mid_get, mid_set, mid_getn, mid_setn, bt_mid, Option.bind_some, Bool.not_true, Bool.not_false, Bool.false_eq_true, Bool.true_eq_false, beq_self_eq_true, bne_self_eq_false, Int.toNat_natCast]
    rw [impl_totalsOf_f xs a hv.1 (by omega)]; rfl
  · by_cases hb : booksB xs = true ∧ wordB a = true
    · rw [if_pos hb]
      have hv := booksB_val hb.1
      obtain ⟨t0, t1, t2, t3, e1, e2, e3, e4, e5, e6, e7⟩ := totL_shape a xs hv.1
      simp only [e1]
      refine ⟨by simp, fun c hc => wf64.2 ?_⟩
      simp at hc
      omega
    · rw [if_neg hb]; exact ⟨by simp, by simp⟩
theorem TotalsOf_core (xs : List (Int × ByteArray × Int)) (a : ByteArray) (h : Lm OkBooking xs) (ha : Sm a) : ∃ w, spec_TotalsOf.f xs a = some w ∧ impl_TotalsOf.f xs a = some w ∧ Lm (Rg .i64) w.1 :=
  ⟨_, (TotalsOf_both xs a h ha).1, (TotalsOf_both xs a h ha).2.1, (TotalsOf_both xs a h ha).2.2⟩
end Go.Pl

namespace Go.Pl
open Go.Ev
set_option linter.unusedVariables false
noncomputable section
def impl_BookPieces.top (list0 : List (Int × ByteArray × Int)) (b1 : Int × ByteArray × Int) : Option ((List (Int × ByteArray × Int)) × Int) :=
  (impl_AreBookings.f list0).bind fun r1 =>
  if (!r1) = true then
    some ([], 1)
  else if (((list0.length : Int) : Int) == 60) = true then
    some ([], 3)
  else if ([] : List (Int × ByteArray × Int)).length + list0.length < room 32 then
    if (([] : List (Int × ByteArray × Int)) ++ list0).length + ([b1]).length < room 32 then
      (impl_AreBookings.f ((([] : List (Int × ByteArray × Int)) ++ list0) ++ ([b1]))).bind fun r2 =>
      if (!r2) = true then
        some ([], 5)
      else
        some ((([] : List (Int × ByteArray × Int)) ++ list0) ++ ([b1]), 0)
    else
      none
  else
    none
def impl_BookPieces.fn (n : Nat) (list0 : List (Int × ByteArray × Int)) (b1 : Int × ByteArray × Int) : Option ((List (Int × ByteArray × Int)) × Int) := impl_BookPieces.top list0 b1
def impl_BookPieces.f (list0 : List (Int × ByteArray × Int)) (b1 : Int × ByteArray × Int) : Option ((List (Int × ByteArray × Int)) × Int) := impl_BookPieces.fn NN list0 b1
end
end Go.Pl

namespace Go.Pl
open Go.Ev
set_option linter.unusedVariables false
noncomputable section
def spec_BookPieces.top (list0 : List (Int × ByteArray × Int)) (b1 : Int × ByteArray × Int) : Option ((List (Int × ByteArray × Int)) × Int) :=
  (spec_AreBookings.f list0).bind fun r1 =>
  if (!r1) = true then
    some ([], 1)
  else if (((list0.length : Int) : Int) == 60) = true then
    some ([], 3)
  else if ([] : List (Int × ByteArray × Int)).length + list0.length < room 32 then
    if (([] : List (Int × ByteArray × Int)) ++ list0).length + ([b1]).length < room 32 then
      (spec_AreBookings.f ((([] : List (Int × ByteArray × Int)) ++ list0) ++ ([b1]))).bind fun r2 =>
      if (!r2) = true then
        some ([], 5)
      else
        some ((([] : List (Int × ByteArray × Int)) ++ list0) ++ ([b1]), 0)
    else
      none
  else
    none
def spec_BookPieces.fn (n : Nat) (list0 : List (Int × ByteArray × Int)) (b1 : Int × ByteArray × Int) : Option ((List (Int × ByteArray × Int)) × Int) := spec_BookPieces.top list0 b1
def spec_BookPieces.f (list0 : List (Int × ByteArray × Int)) (b1 : Int × ByteArray × Int) : Option ((List (Int × ByteArray × Int)) × Int) := spec_BookPieces.fn NN list0 b1
end
end Go.Pl

namespace Go.Pl
open Go.Ev
set_option linter.unusedVariables false
set_option linter.unusedSimpArgs false
theorem ok_snoc {α : Type} {Q : α → Prop} {xs : List α} {b : α} (h : Lm Q xs) (hb : Q b) (hl : xs.length < 1000000) : Lm Q (xs ++ [b]) :=
  ⟨by simp; omega, fun x hx => by
    rcases List.mem_append.1 hx with h1 | h1
    · exact h.2 x h1
    · rw [List.mem_singleton.1 h1]; exact hb⟩
def bookR (xs : List (Int × ByteArray × Int)) (b : Int × ByteArray × Int) : List (Int × ByteArray × Int) × Int :=
  if booksB xs = true then (if xs.length = 60 then ([], 3) else if booksB (xs ++ [b]) = true then (xs ++ [b], 0) else ([], 5)) else ([], 1)
theorem impl_BookPieces_f (xs : List (Int × ByteArray × Int)) (b : Int × ByteArray × Int) (h : Lm OkBooking xs) (hb : OkBooking b) : impl_BookPieces.f xs b = some (bookR xs b) := by
  unfold impl_BookPieces.f impl_BookPieces.fn impl_BookPieces.top bookR
  rw [impl_AreBookings_f xs h]
  cases hx : booksB xs
  · rfl
  have hv := booksB_val hx
  simp only [and_self, and_true, true_and, decide_true, decide_false, if_true, if_false, mid_get, mid_set, mid_getn, mid_setn, bt_mid, Option.bind_some, Bool.not_true, Bool.not_false, Bool.false_eq_true, Bool.true_eq_false, beq_self_eq_true, bne_self_eq_false, Int.toNat_natCast]
  by_cases h60 : xs.length = 60
  · simp [h60]
  · have e1 : ((xs.length : Int) == 60) = false := by rw [beq_eq_false_iff_ne]; omega
    have e2 : ([] : List (Int × ByteArray × Int)).length + xs.length < room 32 := by rw [room32]; simp; omega
    have e3 : (([] : List (Int × ByteArray × Int)) ++ xs).length + [b].length < room 32 := by rw [room32]; simp; omega
    simp only [e1, e2, e3, h60, and_self, and_true, true_and, decide_true, decide_false, if_true, if_false, mid_get, mid_set, mid_getn, mid_setn, bt_mid, Option.bind_some, Bool.not_true, Bool.not_false, Bool.false_eq_true, Bool.true_eq_false, beq_self_eq_true, bne_self_eq_false, Int.toNat_natCast]
    rw [List.nil_append, impl_AreBookings_f (xs ++ [b]) (ok_snoc h hb (by omega))]
    cases booksB (xs ++ [b]) <;> rfl
theorem spec_BookPieces_f (xs : List (Int × ByteArray × Int)) (b : Int × ByteArray × Int) (h : Lm OkBooking xs) (hb : OkBooking b) : spec_BookPieces.f xs b = some (bookR xs b) := by
  unfold spec_BookPieces.f spec_BookPieces.fn spec_BookPieces.top bookR
  rw [spec_AreBookings_f xs h]
  cases hx : booksB xs
  · rfl
  have hv := booksB_val hx
  simp only [and_self, and_true, true_and, decide_true, decide_false, if_true, if_false, mid_get, mid_set, mid_getn, mid_setn, bt_mid, Option.bind_some, Bool.not_true, Bool.not_false, Bool.false_eq_true, Bool.true_eq_false, beq_self_eq_true, bne_self_eq_false, Int.toNat_natCast]
  by_cases h60 : xs.length = 60
  · simp [h60]
  · have e1 : ((xs.length : Int) == 60) = false := by rw [beq_eq_false_iff_ne]; omega
    have e2 : ([] : List (Int × ByteArray × Int)).length + xs.length < room 32 := by rw [room32]; simp; omega
    have e3 : (([] : List (Int × ByteArray × Int)) ++ xs).length + [b].length < room 32 := by rw [room32]; simp; omega
    simp only [e1, e2, e3, h60, and_self, and_true, true_and, decide_true, decide_false, if_true, if_false, mid_get, mid_set, mid_getn, mid_setn, bt_mid, Option.bind_some, Bool.not_true, Bool.not_false, Bool.false_eq_true, Bool.true_eq_false, beq_self_eq_true, bne_self_eq_false, Int.toNat_natCast]
    rw [List.nil_append, spec_AreBookings_f (xs ++ [b]) (ok_snoc h hb (by omega))]
    cases booksB (xs ++ [b]) <;> rfl
theorem bookR_ok (xs : List (Int × ByteArray × Int)) (b : Int × ByteArray × Int) (h : Lm OkBooking xs) (hb : OkBooking b) : Lm OkBooking (bookR xs b).1 := by
  unfold bookR
  split
  · rename_i hx
    have hv := booksB_val hx
    split
    · exact ⟨by simp, by simp⟩
    · split
      · exact ok_snoc h hb (by omega)
      · exact ⟨by simp, by simp⟩
  · exact ⟨by simp, by simp⟩
theorem BookPieces_core (xs : List (Int × ByteArray × Int)) (b : Int × ByteArray × Int) (h : Lm OkBooking xs) (hb : OkBooking b) : ∃ w, spec_BookPieces.f xs b = some w ∧ impl_BookPieces.f xs b = some w ∧ Lm OkBooking w.1 :=
  ⟨_, spec_BookPieces_f xs b h hb, impl_BookPieces_f xs b h hb, bookR_ok xs b h hb⟩
end Go.Pl

namespace Go.Pl
open Go.Ev
set_option linter.unusedVariables false
noncomputable section
def spec_l01From.g3 (L3 : List Int → Int → List Int → Int → Int → Option (List Int × Int × Int)) (code0 : List Int) (i4 : Int) (s3a : List Int) (s3ba : Int) (s3bb : Int) : Option (List Int × Int × Int) :=
  if (decide ((i4 : Int) < (code0.length : Int))) = true then
    if (decide ((i4 : Int) < 64)) = true then
      if (0 : Int) ≤ i4 ∧ (i4 : Int) < code0.length then
        L3 code0 (IntKind.i64.wrap (i4 + 1)) s3a s3ba (Int.tmod (IntKind.i64.wrap ((IntKind.i64.wrap (s3bb * 83)) + (IntKind.i64.wrap (code0.getD (i4 : Int).toNat 0)))) 2147483647)
      else
        none
    else
      some (s3a, (s3ba, s3bb))
  else
    some (s3a, (s3ba, s3bb))
def spec_l01From.l3 (n : Nat) : Nat → List Int → Int → List Int → Int → Int → Option (List Int × Int × Int)
  | 0 => fun _ _ _ _ _ => none
  | k + 1 => spec_l01From.g3 (spec_l01From.l3 n k)
def spec_l01From.top (I3 : List Int → Int → List Int → Int → Int → Option (List Int × Int × Int)) (code0 : List Int) : Option (List Int × Int × Int) :=
  I3 code0 0 code0 0 61043
def spec_l01From.fn (n : Nat) (code0 : List Int) : Option (List Int × Int × Int) := spec_l01From.top (spec_l01From.l3 n n) code0
def spec_l01From.f (code0 : List Int) : Option (List Int × Int × Int) := spec_l01From.fn NN code0
end
end Go.Pl

namespace Go.Pl
open Go.Ev
set_option linter.unusedVariables false
noncomputable section
def spec_l01Next.top (s0 : List Int × Int × Int) (n1 : Int) : Option (Int × List Int × Int × Int) :=
  if (decide ((n1 : Int) ≤ 1)) = true then
    some (0, s0)
  else if (decide ((s0.2.1 : Int) < (s0.1.length : Int))) = true then
    if (0 : Int) ≤ s0.2.1 ∧ (s0.2.1 : Int) < s0.1.length then
      if (decide ((n1 : Int) ≤ 256)) = true then
        if (((Int.tmod (IntKind.i64.wrap (s0.2.1 + 1)) 2) : Int) == 0) = true then
          if (0 : Int) ≤ (IntKind.i64.wrap ((IntKind.i64.wrap (s0.2.1 + 1)) - 1)) ∧ ((IntKind.i64.wrap ((IntKind.i64.wrap (s0.2.1 + 1)) - 1)) : Int) < s0.1.length then
            if n1 = 0 then
              none
            else
              some (Int.tmod (IntKind.i64.wrap (s0.1.getD ((IntKind.i64.wrap ((IntKind.i64.wrap (s0.2.1 + 1)) - 1)) : Int).toNat 0)) n1, (s0.1, (IntKind.i64.wrap (s0.2.1 + 1), Int.tmod (IntKind.i64.wrap ((IntKind.i64.wrap (s0.2.2 * 48271)) + 29)) 2147483647)))
          else
            none
        else if n1 = 0 then
          none
        else
          some (Int.tmod (IntKind.i64.wrap ((IntKind.i64.wrap (Int.tdiv (Int.tmod (IntKind.i64.wrap ((IntKind.i64.wrap (s0.2.2 * 48271)) + 29)) 2147483647) 31)) + (IntKind.i64.wrap (s0.1.getD (s0.2.1 : Int).toNat 0)))) n1, (s0.1, (IntKind.i64.wrap (s0.2.1 + 1), Int.tmod (IntKind.i64.wrap ((IntKind.i64.wrap (s0.2.2 * 48271)) + 29)) 2147483647)))
      else if n1 = 0 then
        none
      else
        some (Int.tmod (IntKind.i64.wrap ((IntKind.i64.wrap (Int.tdiv (Int.tmod (IntKind.i64.wrap ((IntKind.i64.wrap (s0.2.2 * 48271)) + 29)) 2147483647) 31)) + (IntKind.i64.wrap (s0.1.getD (s0.2.1 : Int).toNat 0)))) n1, (s0.1, (IntKind.i64.wrap (s0.2.1 + 1), Int.tmod (IntKind.i64.wrap ((IntKind.i64.wrap (s0.2.2 * 48271)) + 29)) 2147483647)))
    else
      none
  else if n1 = 0 then
    none
  else
    some (Int.tmod (IntKind.i64.wrap (Int.tdiv (Int.tmod (IntKind.i64.wrap ((IntKind.i64.wrap (s0.2.2 * 48271)) + 29)) 2147483647) 31)) n1, (s0.1, (s0.2.1, Int.tmod (IntKind.i64.wrap ((IntKind.i64.wrap (s0.2.2 * 48271)) + 29)) 2147483647)))
def spec_l01Next.fn (n : Nat) (s0 : List Int × Int × Int) (n1 : Int) : Option (Int × List Int × Int × Int) := spec_l01Next.top s0 n1
def spec_l01Next.f (s0 : List Int × Int × Int) (n1 : Int) : Option (Int × List Int × Int × Int) := spec_l01Next.fn NN s0 n1
end
end Go.Pl

namespace Go.Pl
open Go.Ev
set_option linter.unusedVariables false
noncomputable section
def spec_l01Pick.top (s0 : List Int × Int × Int) (list1 : List Int) : Option (Int × List Int × Int × Int) :=
  (spec_l01Next.f s0 (list1.length : Int)).bind fun r1 =>
  if (0 : Int) ≤ r1.1 ∧ (r1.1 : Int) < list1.length then
    some (list1.getD (r1.1 : Int).toNat 0, r1.2)
  else
    none
def spec_l01Pick.fn (n : Nat) (s0 : List Int × Int × Int) (list1 : List Int) : Option (Int × List Int × Int × Int) := spec_l01Pick.top s0 list1
def spec_l01Pick.f (s0 : List Int × Int × Int) (list1 : List Int) : Option (Int × List Int × Int × Int) := spec_l01Pick.fn NN s0 list1
end
end Go.Pl

namespace Go.Pl
open Go.Ev
set_option linter.unusedVariables false
noncomputable section
def laws_big.top (code0 : List Int) : Option Bool :=
  some (decide ((4096 : Int) < (code0.length : Int)))
def laws_big.fn (n : Nat) (code0 : List Int) : Option Bool := laws_big.top code0
def laws_big.f (code0 : List Int) : Option Bool := laws_big.fn NN code0
end
end Go.Pl

namespace Go.Pl
open Go.Ev
set_option linter.unusedVariables false
set_option linter.unusedSimpArgs false
/-- a source of numbers -/
def SrcOk (s : List Int × Int × Int) : Prop := s.1.length ≤ 4096 ∧ (∀ c ∈ s.1, 0 ≤ c ∧ c ≤ 255) ∧ (0 ≤ s.2.1 ∧ s.2.1 ≤ (s.1.length : Int)) ∧ 0 ≤ s.2.2 ∧ s.2.2 < 2147483647
theorem tmod_bd {a n : Int} (h : 0 ≤ a) (hn : 0 < n) : 0 ≤ Int.tmod a n ∧ Int.tmod a n < n := by
  rw [Int.tmod_eq_emod_of_nonneg h]
  exact ⟨Int.emod_nonneg _ (by omega), Int.emod_lt_of_pos _ hn⟩
theorem getD_mem {xs : List Int} {i : Nat} (h : i < xs.length) : xs.getD i 0 ∈ xs := by
  rw [List.getD_eq_getElem?_getD, List.getElem?_eq_getElem h]; exact List.getElem_mem h
theorem next_ok {s : List Int × Int × Int} (hs : SrcOk s) (n : Int) (hn : n ≤ 1000000000000000) : ∃ x s', spec_l01Next.f s n = some (x, s') ∧ SrcOk s' ∧ 0 ≤ x ∧ (x < n ∨ x = 0) := by
  obtain ⟨code, at_, seed⟩ := s
  obtain ⟨h1, h2, h3, h4, h5⟩ := hs
  simp only at h1 h2 h3 h4 h5
  unfold spec_l01Next.f spec_l01Next.fn spec_l01Next.top
  by_cases hn1 : n ≤ 1
  · simp only [hn1, decide_true, if_true]
    exact ⟨0, _, rfl, ⟨h1, h2, h3, h4, h5⟩, by omega, .inr rfl⟩
  have w1 := w64 (n := seed * 48271) (by omega) (by omega)
  have w2 := w64 (n := seed * 48271 + 29) (by omega) (by omega)
  have hm := @tmod_bd (seed * 48271 + 29) 2147483647 (by omega) (by omega)
  have hd : Int.tdiv (Int.tmod (seed * 48271 + 29) 2147483647) 31 = Int.tmod (seed * 48271 + 29) 2147483647 / 31 := Int.tdiv_eq_ediv_of_nonneg hm.1
  have w3 := w64 (n := Int.tdiv (Int.tmod (seed * 48271 + 29) 2147483647) 31) (by omega) (by omega)
  have w4 := w64 (n := at_ + 1) (by omega) (by omega)
  have w5 := w64 (n := at_ + 1 - 1) (by omega) (by omega)
  have hnz : ¬ n = 0 := by omega
  simp only [hn1, decide_false, Bool.false_eq_true, if_false, w1, w2, w3, w4, w5, hnz, decide_eq_true_eq]
  by_cases ha : at_ < (code.length : Int)
  · have hc := h2 _ (getD_mem (show at_.toNat < code.length by omega))
    have hc' : (0 : Int) ≤ at_ + 1 - 1 ∧ at_ + 1 - 1 < (code.length : Int) := by omega
    have e1 : (at_ + 1 - 1).toNat = at_.toNat := by omega
    have w6 := w64 (n := code.getD at_.toNat 0) (by omega) (by omega)
    have w7 := w64 (n := Int.tdiv (Int.tmod (seed * 48271 + 29) 2147483647) 31 + code.getD at_.toNat 0) (by omega) (by omega)
    have b1 := @tmod_bd (code.getD at_.toNat 0) n hc.1 (by omega)
    have b2 := @tmod_bd (Int.tdiv (Int.tmod (seed * 48271 + 29) 2147483647) 31 + code.getD at_.toNat 0) n (by omega) (by omega)
    have hs' : SrcOk (code, at_ + 1, Int.tmod (seed * 48271 + 29) 2147483647) := ⟨h1, h2, ⟨by simp only; omega, by simp only; omega⟩, hm.1, hm.2⟩
    simp only [ha, h3.1, and_self, if_true, hc', e1, w6, w7]
    by_cases h256 : n ≤ 256
    · simp only [h256, if_true]
      split
      · exact ⟨_, _, rfl, hs', b1.1, .inl b1.2⟩
      · exact ⟨_, _, rfl, hs', b2.1, .inl b2.2⟩
    · simp only [h256, if_false]
      exact ⟨_, _, rfl, hs', b2.1, .inl b2.2⟩
  · have b3 := @tmod_bd (Int.tdiv (Int.tmod (seed * 48271 + 29) 2147483647) 31) n (by omega) (by omega)
    simp only [ha, if_false]
    exact ⟨_, _, rfl, ⟨h1, h2, h3, hm.1, hm.2⟩, b3.1, .inl b3.2⟩
theorem pick_ok {s : List Int × Int × Int} (hs : SrcOk s) (xs : List Int) (h : 1 ≤ xs.length) (hl : xs.length ≤ 1000) : ∃ x s', spec_l01Pick.f s xs = some (x, s') ∧ SrcOk s' ∧ x ∈ xs := by
  obtain ⟨x, s', e, h1, h2, h3⟩ := next_ok hs (xs.length : Int) (by omega)
  have hx : x < (xs.length : Int) := by omega
  unfold spec_l01Pick.f spec_l01Pick.fn spec_l01Pick.top
  rw [e]
  simp only [Option.bind_some, h2, hx, and_self, if_true]
  exact ⟨_, _, rfl, h1, getD_mem (by omega)⟩
theorem from_l (code : List Int) (hl : code.length ≤ 4096) (hc : ∀ c ∈ code, 0 ≤ c ∧ c ≤ 255) (c : List Int) (b : Int) : ∀ (d i k : Nat) (seed : Int), i + d = code.length → d < k → 0 ≤ seed → seed < 2147483647 → ∃ seed', spec_l01From.l3 NN k code i c b seed = some (c, b, seed') ∧ 0 ≤ seed' ∧ seed' < 2147483647 := by
  intro d
  induction d with
  | zero =>
    intro i k seed hi hk h0 h1
    obtain ⟨k, rfl⟩ : ∃ j, k = j + 1 := ⟨k - 1, by omega⟩
    have n1 : ¬ (i : Int) < (code.length : Int) := by omega
    exact ⟨seed, by simp only [spec_l01From.l3, spec_l01From.g3, n1, decide_false, Bool.false_eq_true, if_false], h0, h1⟩
  | succ d ih =>
    intro i k seed hi hk h0 h1
    obtain ⟨k, rfl⟩ : ∃ j, k = j + 1 := ⟨k - 1, by omega⟩
    have n1 : (i : Int) < (code.length : Int) := by omega
    by_cases h64 : (i : Int) < 64
    · have hcc := hc _ (getD_mem (show i < code.length by omega))
      have w1 := w64 (n := seed * 83) (by omega) (by omega)
      have w2 := w64 (n := code.getD i 0) (by omega) (by omega)
      have w3 := w64 (n := seed * 83 + code.getD i 0) (by omega) (by omega)
      have w4 := w64 (n := (i : Int) + 1) (by omega) (by omega)
      have hm := @tmod_bd (seed * 83 + code.getD i 0) 2147483647 (by omega) (by omega)
      obtain ⟨s', e1, e2⟩ := ih (i + 1) k (Int.tmod (seed * 83 + code.getD i 0) 2147483647) (by omega) (by omega) hm.1 hm.2
      refine ⟨s', ?_, e2⟩
      simp only [spec_l01From.l3, spec_l01From.g3, n1, h64, decide_true, if_true, Int.toNat_natCast, w1, w2, w3, w4, show (0 : Int) ≤ (i : Int) from by omega, and_self]
      exact e1
    · exact ⟨seed, by simp only [spec_l01From.l3, spec_l01From.g3, n1, h64, decide_true, if_true, decide_false, Bool.false_eq_true, if_false], h0, h1⟩
def CodeOk (code : List Int) : Prop := code.length ≤ 4096 ∧ ∀ c ∈ code, 0 ≤ c ∧ c ≤ 255
theorem from_ok {code : List Int} (h : CodeOk code) : ∃ s, spec_l01From.f code = some s ∧ SrcOk s := by
  obtain ⟨s', e, h1, h2⟩ := from_l code h.1 h.2 code 0 code.length 0 NN 61043 (by omega) (by have := h.1; exact NN_lt (by omega)) (by omega) (by omega)
  exact ⟨(code, 0, s'), e, h.1, h.2, ⟨by simp only; omega, by simp only; omega⟩, h1, h2⟩
theorem big_f (code : List Int) : laws_big.f code = some (decide ((4096 : Int) < (code.length : Int))) := rfl
theorem code_of {code : List Int} (h : Ls (Rg .u8) code) (hb : ¬ (4096 : Int) < (code.length : Int)) : CodeOk code := ⟨by omega, fun c hc => wf8.1 (h.2 c hc)⟩
end Go.Pl

namespace Go.Pl
open Go.Ev
set_option linter.unusedVariables false
noncomputable section
def laws_likeInts.g4 (L4 : List Int → List Int → Int → Option Bool) (a0 : List Int) (b1 : List Int) (i5 : Int) : Option Bool :=
  if (decide ((i5 : Int) < (a0.length : Int))) = true then
    if (0 : Int) ≤ i5 ∧ (i5 : Int) < a0.length then
      if (0 : Int) ≤ i5 ∧ (i5 : Int) < b1.length then
        if (((a0.getD (i5 : Int).toNat 0) : Int) != (b1.getD (i5 : Int).toNat 0)) = true then
          some false
        else
          L4 a0 b1 (IntKind.i64.wrap (i5 + 1))
      else
        none
    else
      none
  else
    some true
def laws_likeInts.l4 (n : Nat) : Nat → List Int → List Int → Int → Option Bool
  | 0 => fun _ _ _ => none
  | k + 1 => laws_likeInts.g4 (laws_likeInts.l4 n k)
def laws_likeInts.top (I4 : List Int → List Int → Int → Option Bool) (a0 : List Int) (b1 : List Int) : Option Bool :=
  if (((a0.length : Int) : Int) != (b1.length : Int)) = true then
    some false
  else
    I4 a0 b1 0
def laws_likeInts.fn (n : Nat) (a0 : List Int) (b1 : List Int) : Option Bool := laws_likeInts.top (laws_likeInts.l4 n n) a0 b1
def laws_likeInts.f (a0 : List Int) (b1 : List Int) : Option Bool := laws_likeInts.fn NN a0 b1
end
end Go.Pl

namespace Go.Pl
open Go.Ev
set_option linter.unusedVariables false
noncomputable section
def laws_hasInt.g2 (L2 : List Int → Int → Int → Option Bool) (list0 : List Int) (x1 : Int) (i5 : Int) : Option Bool :=
  if (decide ((i5 : Int) < (list0.length : Int))) = true then
    if (0 : Int) ≤ i5 ∧ (i5 : Int) < list0.length then
      if (((list0.getD (i5 : Int).toNat 0) : Int) == x1) = true then
        some true
      else
        L2 list0 x1 (IntKind.i64.wrap (i5 + 1))
    else
      none
  else
    some false
def laws_hasInt.l2 (n : Nat) : Nat → List Int → Int → Int → Option Bool
  | 0 => fun _ _ _ => none
  | k + 1 => laws_hasInt.g2 (laws_hasInt.l2 n k)
def laws_hasInt.top (I2 : List Int → Int → Int → Option Bool) (list0 : List Int) (x1 : Int) : Option Bool :=
  I2 list0 x1 0
def laws_hasInt.fn (n : Nat) (list0 : List Int) (x1 : Int) : Option Bool := laws_hasInt.top (laws_hasInt.l2 n n) list0 x1
def laws_hasInt.f (list0 : List Int) (x1 : Int) : Option Bool := laws_hasInt.fn NN list0 x1
end
end Go.Pl

namespace Go.Pl
open Go.Ev
set_option linter.unusedVariables false
set_option linter.unusedSimpArgs false
theorem likeInts_self (a : List Int) (hl : a.length ≤ 140737488355328) : laws_likeInts.f a a = some true := by
  unfold laws_likeInts.f laws_likeInts.fn laws_likeInts.top
  simp only [bne_self_eq_false, Bool.false_eq_true, if_false]
  refine eqS_loop (E := fun _ => True) (fun k a b i => laws_likeInts.l4 NN k a b i) a (fun _ _ => trivial) ?_ ?_ NN (NN_lt (by omega))
  · intro k p x r hx ha
    subst ha
    have hm := mid_len p r x
    have c1 : (p.length : Int) < ((p ++ x :: r).length : Int) := by omega
    have c0 : (0 : Int) ≤ (p.length : Int) := by omega
    have cw := w64 (n := (p.length : Int) + 1) (by omega) (by omega)
    simp only [laws_likeInts.l4, laws_likeInts.g4, c0, c1, cw, and_self, and_true, true_and, decide_true, decide_false, if_true, if_false, mid_get, mid_set, mid_getn, mid_setn, bt_mid, Option.bind_some, Bool.not_true, Bool.not_false, Bool.false_eq_true, Bool.true_eq_false, beq_self_eq_true, bne_self_eq_false, Int.toNat_natCast]
  · intro k
    simp [laws_likeInts.l4, laws_likeInts.g4]
theorem hasInt_f (xs : List Int) (x : Int) (hl : xs.length ≤ 140737488355328) : laws_hasInt.f xs x = some (decide (x ∈ xs)) := by
  have := find_loop (E := fun _ => True) (fun c : Int => c == x) (fun _ _ => some true) (fun _ => some false) (fun k xs i => laws_hasInt.l2 NN k xs x i) ?_ ?_ xs (fun _ _ => trivial) (by omega) NN (NN_lt (by omega))
  · refine this.trans ?_
    have key : ∀ (xs : List Int) (i : Nat), (firstOf (fun c : Int => c == x) i xs).elim (some false) (fun _ => some true) = some (decide (x ∈ xs)) := by
      intro xs
      induction xs with
      | nil => intro i; simp [firstOf]
      | cons a r ih =>
        intro i
        by_cases h : a = x
        · subst h; simp [firstOf]
        · have h1 : (a == x) = false := by rw [beq_eq_false_iff_ne]; exact h
          have h2 : ¬ x = a := fun e => h e.symm
          simp only [firstOf, h1, Bool.false_eq_true, if_false, List.mem_cons, h2, false_or]
          exact ih _
    exact key xs 0
  · intro k p
    simp [laws_hasInt.l2, laws_hasInt.g2]
  · intro k p a r _ c0 c1 c2 cw
    simp only [laws_hasInt.l2, laws_hasInt.g2, c0, c1, cw, and_self, and_true, true_and, decide_true, decide_false, if_true, if_false, mid_get, mid_set, mid_getn, mid_setn, bt_mid, Option.bind_some, Bool.not_true, Bool.not_false, Bool.false_eq_true, Bool.true_eq_false, beq_self_eq_true, bne_self_eq_false, Int.toNat_natCast]
end Go.Pl

namespace Go.Pl
open Go.Ev
set_option linter.unusedVariables false
noncomputable section
def spec_l03Names.top  : Option (List ByteArray) :=
  some ([(⟨#[97, 115, 116, 101, 114]⟩ : ByteArray), (⟨#[99, 111, 109, 101, 116]⟩ : ByteArray), (⟨#[100, 97, 104, 108, 105, 97]⟩ : ByteArray), (⟨#[112, 97, 108, 109]⟩ : ByteArray), (⟨#[112, 101, 111, 110, 121]⟩ : ByteArray), (⟨#[119, 105, 108, 108, 111, 119]⟩ : ByteArray)])
def spec_l03Names.fn (n : Nat)  : Option (List ByteArray) := spec_l03Names.top 
def spec_l03Names.f  : Option (List ByteArray) := spec_l03Names.fn NN 
end
end Go.Pl

namespace Go.Pl
open Go.Ev
set_option linter.unusedVariables false
noncomputable section
def spec_l01Good.top (s0 : List Int × Int × Int) : Option (ByteArray × List Int × Int × Int) :=
  (spec_l01Next.f s0 12).bind fun r1 =>
  if (0 : Int) ≤ r1.1 ∧ (r1.1 : Int) < ([(⟨#[97, 100, 97]⟩ : ByteArray), (⟨#[98, 114, 117, 110, 111]⟩ : ByteArray), (⟨#[99, 108, 97, 114, 97]⟩ : ByteArray), (⟨#[100, 111, 114, 97]⟩ : ByteArray), (⟨#[101, 109, 105, 108]⟩ : ByteArray), (⟨#[102, 114, 105, 100, 97]⟩ : ByteArray), (⟨#[103, 117, 115, 116, 97, 118]⟩ : ByteArray), (⟨#[104, 97, 110, 110, 97]⟩ : ByteArray), (⟨#[105, 118, 97, 110]⟩ : ByteArray), (⟨#[106, 97, 110, 97]⟩ : ByteArray), (⟨#[107, 97, 114, 108]⟩ : ByteArray), (⟨#[108, 101, 110, 97]⟩ : ByteArray)]).length then
    some (([(⟨#[97, 100, 97]⟩ : ByteArray), (⟨#[98, 114, 117, 110, 111]⟩ : ByteArray), (⟨#[99, 108, 97, 114, 97]⟩ : ByteArray), (⟨#[100, 111, 114, 97]⟩ : ByteArray), (⟨#[101, 109, 105, 108]⟩ : ByteArray), (⟨#[102, 114, 105, 100, 97]⟩ : ByteArray), (⟨#[103, 117, 115, 116, 97, 118]⟩ : ByteArray), (⟨#[104, 97, 110, 110, 97]⟩ : ByteArray), (⟨#[105, 118, 97, 110]⟩ : ByteArray), (⟨#[106, 97, 110, 97]⟩ : ByteArray), (⟨#[107, 97, 114, 108]⟩ : ByteArray), (⟨#[108, 101, 110, 97]⟩ : ByteArray)]).getD (r1.1 : Int).toNat ByteArray.empty, r1.2)
  else
    none
def spec_l01Good.fn (n : Nat) (s0 : List Int × Int × Int) : Option (ByteArray × List Int × Int × Int) := spec_l01Good.top s0
def spec_l01Good.f (s0 : List Int × Int × Int) : Option (ByteArray × List Int × Int × Int) := spec_l01Good.fn NN s0
end
end Go.Pl

namespace Go.Pl
open Go.Ev
set_option linter.unusedVariables false
noncomputable section
def spec_l01DrawWord.top (s0 : List Int × Int × Int) : Option (ByteArray × List Int × Int × Int) :=
  (spec_l01Next.f s0 24).bind fun r1 =>
  if ((r1.1 : Int) == 0) = true then
    (spec_l01Next.f r1.2 6).bind fun r2 =>
    if (0 : Int) ≤ r2.1 ∧ (r2.1 : Int) < ([(⟨#[]⟩ : ByteArray), (⟨#[65, 100, 97]⟩ : ByteArray), (⟨#[97, 49]⟩ : ByteArray), (⟨#[97, 98, 99, 100, 101, 102, 103, 104, 105, 106, 107, 108, 109, 110, 111, 112]⟩ : ByteArray), (⟨#[97, 98, 99, 100, 101, 102, 103, 104, 105, 106, 107, 108, 109, 110, 111, 112, 113]⟩ : ByteArray), (⟨#[97, 32, 98]⟩ : ByteArray)]).length then
      some (([(⟨#[]⟩ : ByteArray), (⟨#[65, 100, 97]⟩ : ByteArray), (⟨#[97, 49]⟩ : ByteArray), (⟨#[97, 98, 99, 100, 101, 102, 103, 104, 105, 106, 107, 108, 109, 110, 111, 112]⟩ : ByteArray), (⟨#[97, 98, 99, 100, 101, 102, 103, 104, 105, 106, 107, 108, 109, 110, 111, 112, 113]⟩ : ByteArray), (⟨#[97, 32, 98]⟩ : ByteArray)]).getD (r2.1 : Int).toNat ByteArray.empty, r2.2)
    else
      none
  else
    (spec_l01Good.f r1.2).bind fun r3 =>
    some (r3.1, r3.2)
def spec_l01DrawWord.fn (n : Nat) (s0 : List Int × Int × Int) : Option (ByteArray × List Int × Int × Int) := spec_l01DrawWord.top s0
def spec_l01DrawWord.f (s0 : List Int × Int × Int) : Option (ByteArray × List Int × Int × Int) := spec_l01DrawWord.fn NN s0
end
end Go.Pl

namespace Go.Pl
open Go.Ev
set_option linter.unusedVariables false
noncomputable section
def spec_l32Good.g4 (L4 : Int → (List Int × Int × Int) → (List (Int × ByteArray × Int)) → List ByteArray → Option ((List (Int × ByteArray × Int)) × List Int × Int × Int)) (n5 : Int) (s0 : List Int × Int × Int) (out3 : List (Int × ByteArray × Int)) (names4 : List ByteArray) : Option ((List (Int × ByteArray × Int)) × List Int × Int × Int) :=
  if (decide ((0 : Int) < n5)) = true then
    (spec_l01Next.f s0 4).bind fun r3 =>
    (spec_l01Next.f r3.2 4).bind fun r4 =>
    if (0 : Int) ≤ r4.1 ∧ (r4.1 : Int) < names4.length then
      (spec_l01Next.f r4.2 12).bind fun r5 =>
      (spec_l32Left.f out3 (names4.getD (r4.1 : Int).toNat ByteArray.empty) (out3.length : Int)).bind fun r6 =>
      if (decide ((0 : Int) < r3.1)) = true then
        if (decide ((0 : Int) < r6)) = true then
          (spec_l01Next.f r5.2 2).bind fun r7 =>
          if ((r7.1 : Int) == 0) = true then
            if ((r6 : Int) == 0) = true then
              (spec_BookPieces.f out3 (0, (names4.getD (r4.1 : Int).toNat ByteArray.empty, (if r6 < 1000 then r6 else 1000)))).bind fun r8 =>
              if ((r8.2 : Int) == 0) = true then
                L4 (IntKind.i64.wrap (n5 - 1)) r7.2 r8.1 names4
              else
                L4 (IntKind.i64.wrap (n5 - 1)) r7.2 out3 names4
            else
              (spec_BookPieces.f out3 (r3.1, (names4.getD (r4.1 : Int).toNat ByteArray.empty, (if r6 < 1000 then r6 else 1000)))).bind fun r9 =>
              if ((r9.2 : Int) == 0) = true then
                L4 (IntKind.i64.wrap (n5 - 1)) r7.2 r9.1 names4
              else
                L4 (IntKind.i64.wrap (n5 - 1)) r7.2 out3 names4
          else if ((r6 : Int) == 0) = true then
            (spec_BookPieces.f out3 (0, (names4.getD (r4.1 : Int).toNat ByteArray.empty, IntKind.i64.wrap (1 + r5.1)))).bind fun r10 =>
            if ((r10.2 : Int) == 0) = true then
              L4 (IntKind.i64.wrap (n5 - 1)) r7.2 r10.1 names4
            else
              L4 (IntKind.i64.wrap (n5 - 1)) r7.2 out3 names4
          else
            (spec_BookPieces.f out3 (r3.1, (names4.getD (r4.1 : Int).toNat ByteArray.empty, IntKind.i64.wrap (1 + r5.1)))).bind fun r11 =>
            if ((r11.2 : Int) == 0) = true then
              L4 (IntKind.i64.wrap (n5 - 1)) r7.2 r11.1 names4
            else
              L4 (IntKind.i64.wrap (n5 - 1)) r7.2 out3 names4
        else if ((r6 : Int) == 0) = true then
          (spec_BookPieces.f out3 (0, (names4.getD (r4.1 : Int).toNat ByteArray.empty, IntKind.i64.wrap (1 + r5.1)))).bind fun r12 =>
          if ((r12.2 : Int) == 0) = true then
            L4 (IntKind.i64.wrap (n5 - 1)) r5.2 r12.1 names4
          else
            L4 (IntKind.i64.wrap (n5 - 1)) r5.2 out3 names4
        else
          (spec_BookPieces.f out3 (r3.1, (names4.getD (r4.1 : Int).toNat ByteArray.empty, IntKind.i64.wrap (1 + r5.1)))).bind fun r13 =>
          if ((r13.2 : Int) == 0) = true then
            L4 (IntKind.i64.wrap (n5 - 1)) r5.2 r13.1 names4
          else
            L4 (IntKind.i64.wrap (n5 - 1)) r5.2 out3 names4
      else if ((r6 : Int) == 0) = true then
        (spec_BookPieces.f out3 (0, (names4.getD (r4.1 : Int).toNat ByteArray.empty, IntKind.i64.wrap (1 + r5.1)))).bind fun r14 =>
        if ((r14.2 : Int) == 0) = true then
          L4 (IntKind.i64.wrap (n5 - 1)) r5.2 r14.1 names4
        else
          L4 (IntKind.i64.wrap (n5 - 1)) r5.2 out3 names4
      else
        (spec_BookPieces.f out3 (r3.1, (names4.getD (r4.1 : Int).toNat ByteArray.empty, IntKind.i64.wrap (1 + r5.1)))).bind fun r15 =>
        if ((r15.2 : Int) == 0) = true then
          L4 (IntKind.i64.wrap (n5 - 1)) r5.2 r15.1 names4
        else
          L4 (IntKind.i64.wrap (n5 - 1)) r5.2 out3 names4
    else
      none
  else
    some (out3, s0)
def spec_l32Good.l4 (n : Nat) : Nat → Int → (List Int × Int × Int) → (List (Int × ByteArray × Int)) → List ByteArray → Option ((List (Int × ByteArray × Int)) × List Int × Int × Int)
  | 0 => fun _ _ _ _ => none
  | k + 1 => spec_l32Good.g4 (spec_l32Good.l4 n k)
def spec_l32Good.top (I4 : Int → (List Int × Int × Int) → (List (Int × ByteArray × Int)) → List ByteArray → Option ((List (Int × ByteArray × Int)) × List Int × Int × Int)) (s0 : List Int × Int × Int) : Option ((List (Int × ByteArray × Int)) × List Int × Int × Int) :=
  (spec_l03Names.f).bind fun r1 =>
  (spec_l01Next.f s0 10).bind fun r2 =>
  I4 r2.1 r2.2 [] r1
def spec_l32Good.fn (n : Nat) (s0 : List Int × Int × Int) : Option ((List (Int × ByteArray × Int)) × List Int × Int × Int) := spec_l32Good.top (spec_l32Good.l4 n n) s0
def spec_l32Good.f (s0 : List Int × Int × Int) : Option ((List (Int × ByteArray × Int)) × List Int × Int × Int) := spec_l32Good.fn NN s0
end
end Go.Pl

namespace Go.Pl
open Go.Ev
set_option linter.unusedVariables false
noncomputable section
def spec_l32Draw.g6 (L6 : (List Int × Int × Int) → (List (Int × ByteArray × Int)) → Option ((List (Int × ByteArray × Int)) × List Int × Int × Int)) (s0 : List Int × Int × Int) (out3 : List (Int × ByteArray × Int)) : Option ((List (Int × ByteArray × Int)) × List Int × Int × Int) :=
  (spec_l01Next.f s0 2).bind fun r6 =>
  if (decide (((out3.length : Int) : Int) < (IntKind.i64.wrap (60 + r6.1)))) = true then
    if out3.length + ([(0, ((⟨#[112, 97, 108, 109]⟩ : ByteArray), 1))]).length < room 32 then
      L6 r6.2 (out3 ++ ([(0, ((⟨#[112, 97, 108, 109]⟩ : ByteArray), 1))]))
    else
      none
  else
    some (out3, r6.2)
def spec_l32Draw.l6 (n : Nat) : Nat → (List Int × Int × Int) → (List (Int × ByteArray × Int)) → Option ((List (Int × ByteArray × Int)) × List Int × Int × Int)
  | 0 => fun _ _ => none
  | k + 1 => spec_l32Draw.g6 (spec_l32Draw.l6 n k)
def spec_l32Draw.top (I6 : (List Int × Int × Int) → (List (Int × ByteArray × Int)) → Option ((List (Int × ByteArray × Int)) × List Int × Int × Int)) (s0 : List Int × Int × Int) : Option ((List (Int × ByteArray × Int)) × List Int × Int × Int) :=
  (spec_l32Good.f s0).bind fun r1 =>
  (spec_l01Next.f r1.2 30).bind fun r2 =>
  if ((r2.1 : Int) == 0) = true then
    (spec_l01Next.f r2.2 6).bind fun r3 =>
    (spec_l01DrawWord.f r3.2).bind fun r4 =>
    (spec_l01Pick.f r4.2 ([0, 1, 1000, 1001])).bind fun r5 =>
    if r1.1.length + ([(IntKind.i64.wrap (r3.1 - 1), (r4.1, r5.1))]).length < room 32 then
      some (r1.1 ++ ([(IntKind.i64.wrap (r3.1 - 1), (r4.1, r5.1))]), r5.2)
    else
      none
  else if ((r2.1 : Int) == 1) = true then
    I6 r2.2 r1.1
  else if ((r2.1 : Int) == 2) = true then
    if r1.1.length + ([(0, ((⟨#[97, 115, 116, 101, 114]⟩ : ByteArray), 1000)), (0, ((⟨#[97, 115, 116, 101, 114]⟩ : ByteArray), 700))]).length < room 32 then
      some (r1.1 ++ ([(0, ((⟨#[97, 115, 116, 101, 114]⟩ : ByteArray), 1000)), (0, ((⟨#[97, 115, 116, 101, 114]⟩ : ByteArray), 700))]), r2.2)
    else
      none
  else
    some (r1.1, r2.2)
def spec_l32Draw.fn (n : Nat) (s0 : List Int × Int × Int) : Option ((List (Int × ByteArray × Int)) × List Int × Int × Int) := spec_l32Draw.top (spec_l32Draw.l6 n n) s0
def spec_l32Draw.f (s0 : List Int × Int × Int) : Option ((List (Int × ByteArray × Int)) × List Int × Int × Int) := spec_l32Draw.fn NN s0
end
end Go.Pl

namespace Go.Pl
open Go.Ev
set_option linter.unusedVariables false
noncomputable section
def spec_DrawBookPieces.top (code0 : List Int) : Option ((List (Int × ByteArray × Int)) × Int × ByteArray × Int) :=
  (spec_l01From.f code0).bind fun r1 =>
  (spec_l32Draw.f r1).bind fun r2 =>
  (spec_l01Next.f r2.2 4).bind fun r3 =>
  (spec_l03Names.f).bind fun r4 =>
  (spec_l01Next.f r3.2 5).bind fun r5 =>
  if (0 : Int) ≤ r5.1 ∧ (r5.1 : Int) < r4.length then
    (spec_l01Next.f r5.2 12).bind fun r6 =>
    (spec_l01Next.f r6.2 4).bind fun r7 =>
    (spec_l01Pick.f r7.2 ([IntKind.i64.wrap (1 + r6.1), 1, 1000, 1001, IntKind.i64.wrap (1 + r7.1)])).bind fun r8 =>
    some (r2.1, (r3.1, (r4.getD (r5.1 : Int).toNat ByteArray.empty, r8.1)))
  else
    none
def spec_DrawBookPieces.fn (n : Nat) (code0 : List Int) : Option ((List (Int × ByteArray × Int)) × Int × ByteArray × Int) := spec_DrawBookPieces.top code0
def spec_DrawBookPieces.f (code0 : List Int) : Option ((List (Int × ByteArray × Int)) × Int × ByteArray × Int) := spec_DrawBookPieces.fn NN code0
end
end Go.Pl

namespace Go.Pl
open Go.Ev
set_option linter.unusedVariables false
noncomputable section
def spec_DrawPiecesLeft.top (code0 : List Int) : Option ((List (Int × ByteArray × Int)) × ByteArray) :=
  (spec_l01From.f code0).bind fun r1 =>
  (spec_l32Draw.f r1).bind fun r2 =>
  (spec_l01Next.f r2.2 16).bind fun r3 =>
  if ((r3.1 : Int) == 0) = true then
    (spec_l01DrawWord.f r3.2).bind fun r4 =>
    some (r2.1, r4.1)
  else
    (spec_l03Names.f).bind fun r5 =>
    (spec_l01Next.f r3.2 5).bind fun r6 =>
    if (0 : Int) ≤ r6.1 ∧ (r6.1 : Int) < r5.length then
      some (r2.1, r5.getD (r6.1 : Int).toNat ByteArray.empty)
    else
      none
def spec_DrawPiecesLeft.fn (n : Nat) (code0 : List Int) : Option ((List (Int × ByteArray × Int)) × ByteArray) := spec_DrawPiecesLeft.top code0
def spec_DrawPiecesLeft.f (code0 : List Int) : Option ((List (Int × ByteArray × Int)) × ByteArray) := spec_DrawPiecesLeft.fn NN code0
end
end Go.Pl

namespace Go.Pl
open Go.Ev
set_option linter.unusedVariables false
noncomputable section
def spec_DrawTotalsOf.top (code0 : List Int) : Option ((List (Int × ByteArray × Int)) × ByteArray) :=
  (spec_DrawPiecesLeft.f code0).bind fun r1 =>
  some (r1.1, r1.2)
def spec_DrawTotalsOf.fn (n : Nat) (code0 : List Int) : Option ((List (Int × ByteArray × Int)) × ByteArray) := spec_DrawTotalsOf.top code0
def spec_DrawTotalsOf.f (code0 : List Int) : Option ((List (Int × ByteArray × Int)) × ByteArray) := spec_DrawTotalsOf.fn NN code0
end
end Go.Pl

namespace Go.Pl
open Go.Ev
set_option linter.unusedVariables false
set_option linter.unusedSimpArgs false
theorem getB_mem {xs : List ByteArray} {i : Nat} (h : i < xs.length) : xs.getD i ByteArray.empty ∈ xs := by
  rw [List.getD_eq_getElem?_getD, List.getElem?_eq_getElem h]; exact List.getElem_mem h
def names6 : List ByteArray := [(⟨#[97, 115, 116, 101, 114]⟩ : ByteArray), (⟨#[99, 111, 109, 101, 116]⟩ : ByteArray), (⟨#[100, 97, 104, 108, 105, 97]⟩ : ByteArray), (⟨#[112, 97, 108, 109]⟩ : ByteArray), (⟨#[112, 101, 111, 110, 121]⟩ : ByteArray), (⟨#[119, 105, 108, 108, 111, 119]⟩ : ByteArray)]
theorem names_f : spec_l03Names.f = some names6 := rfl
theorem names6_len : names6.length = 6 := rfl
theorem names6_sm : ∀ c ∈ names6, Sm c := by
  intro c hc
  unfold names6 at hc
  simp only [List.mem_cons, List.not_mem_nil, or_false] at hc
  unfold Sm
  rcases hc with h | h | h | h | h | h <;> (rw [h]; exact Nat.le_of_ble_eq_true rfl)
theorem good01_ok {s : List Int × Int × Int} (hs : SrcOk s) : ∃ u s', spec_l01Good.f s = some (u, s') ∧ SrcOk s' ∧ Sm u := by
  unfold spec_l01Good.f spec_l01Good.fn spec_l01Good.top
  obtain ⟨a, s1, e1, o1, a0, a1⟩ := next_ok hs 12 (by omega)
  rw [e1]
  simp only [Option.bind_some]
  rw [if_pos ⟨a0, by simp only [List.length_cons, List.length_nil]; omega⟩]
  refine ⟨_, _, rfl, o1, ?_⟩
  have hm := getB_mem (xs := [(⟨#[97, 100, 97]⟩ : ByteArray), (⟨#[98, 114, 117, 110, 111]⟩ : ByteArray), (⟨#[99, 108, 97, 114, 97]⟩ : ByteArray), (⟨#[100, 111, 114, 97]⟩ : ByteArray), (⟨#[101, 109, 105, 108]⟩ : ByteArray), (⟨#[102, 114, 105, 100, 97]⟩ : ByteArray), (⟨#[103, 117, 115, 116, 97, 118]⟩ : ByteArray), (⟨#[104, 97, 110, 110, 97]⟩ : ByteArray), (⟨#[105, 118, 97, 110]⟩ : ByteArray), (⟨#[106, 97, 110, 97]⟩ : ByteArray), (⟨#[107, 97, 114, 108]⟩ : ByteArray), (⟨#[108, 101, 110, 97]⟩ : ByteArray)]) (i := a.toNat) (by simp only [List.length_cons, List.length_nil]; omega)
  revert hm
  generalize List.getD _ a.toNat ByteArray.empty = c
  intro hc
  simp only [List.mem_cons, List.not_mem_nil, or_false] at hc
  unfold Sm
  rcases hc with h | h | h | h | h | h | h | h | h | h | h | h <;> (rw [h]; exact Nat.le_of_ble_eq_true rfl)
theorem drawWord_ok {s : List Int × Int × Int} (hs : SrcOk s) : ∃ u s', spec_l01DrawWord.f s = some (u, s') ∧ SrcOk s' ∧ Sm u := by
  unfold spec_l01DrawWord.f spec_l01DrawWord.fn spec_l01DrawWord.top
  obtain ⟨a, s1, e1, o1, a0, a1⟩ := next_ok hs 24 (by omega)
  obtain ⟨b, s2, e2, o2, b0, b1⟩ := next_ok o1 6 (by omega)
  obtain ⟨u, s3, e3, o3, u1⟩ := good01_ok o1
  rw [e1]
  simp only [Option.bind_some, e2, e3]
  split
  · rw [if_pos ⟨b0, by simp only [List.length_cons, List.length_nil]; omega⟩]
    refine ⟨_, _, rfl, o2, ?_⟩
    have hm := getB_mem (xs := [(⟨#[]⟩ : ByteArray), (⟨#[65, 100, 97]⟩ : ByteArray), (⟨#[97, 49]⟩ : ByteArray), (⟨#[97, 98, 99, 100, 101, 102, 103, 104, 105, 106, 107, 108, 109, 110, 111, 112]⟩ : ByteArray), (⟨#[97, 98, 99, 100, 101, 102, 103, 104, 105, 106, 107, 108, 109, 110, 111, 112, 113]⟩ : ByteArray), (⟨#[97, 32, 98]⟩ : ByteArray)]) (i := b.toNat) (by simp only [List.length_cons, List.length_nil]; omega)
    revert hm
    generalize List.getD _ b.toNat ByteArray.empty = c
    intro hc
    simp only [List.mem_cons, List.not_mem_nil, or_false] at hc
    unfold Sm
    rcases hc with h | h | h | h | h | h <;> (rw [h]; exact Nat.le_of_ble_eq_true rfl)
  · exact ⟨_, _, rfl, o3, u1⟩
theorem mkB {a c : Int} {n : ByteArray} (h1 : -9223372036854775808 ≤ a ∧ a ≤ 9223372036854775807) (h2 : Sm n) (h3 : -9223372036854775808 ≤ c ∧ c ≤ 9223372036854775807) : OkBooking (a, n, c) := ⟨wf64.2 h1, h2, wf64.2 h3⟩
theorem bookR_zero {xs : List (Int × ByteArray × Int)} {b : Int × ByteArray × Int} (h : (bookR xs b).2 = 0) : booksB xs = true ∧ (bookR xs b).1 = xs ++ [b] ∧ booksB (xs ++ [b]) = true := by
  unfold bookR at h ⊢
  by_cases h1 : booksB xs = true
  · rw [if_pos h1] at h ⊢
    by_cases h2 : xs.length = 60
    · rw [if_pos h2] at h; simp at h
    · rw [if_neg h2] at h ⊢
      by_cases h3 : booksB (xs ++ [b]) = true
      · rw [if_pos h3]; exact ⟨h1, rfl, h3⟩
      · rw [if_neg h3] at h; simp at h
  · rw [if_neg h1] at h; simp at h
theorem bookR_one (xs : List (Int × ByteArray × Int)) (b : Int × ByteArray × Int) : ((bookR xs b).2 != 1) = booksB xs := by
  unfold bookR
  cases h1 : booksB xs
  · rfl
  · by_cases h2 : xs.length = 60
    · simp [h2]
    · by_cases h3 : booksB (xs ++ [b]) = true
      · simp [h2, h3]
      · simp [h2, h3]
theorem good32_l : ∀ (d k : Nat) (s : List Int × Int × Int) (out : List (Int × ByteArray × Int)), d < k → d ≤ 1000 → SrcOk s → booksB out = true → Lm OkBooking out →
    ∃ o' s', spec_l32Good.l4 NN k d s out names6 = some (o', s') ∧ SrcOk s' ∧ booksB o' = true ∧ Lm OkBooking o' := by
  intro d
  induction d with
  | zero =>
    intro k s out hk _ hs hb hl
    obtain ⟨k, rfl⟩ : ∃ j, k = j + 1 := ⟨k - 1, by omega⟩
    exact ⟨out, s, by simp [spec_l32Good.l4, spec_l32Good.g4], hs, hb, hl⟩
  | succ d ih =>
    intro k s out hk hd hs hb hl
    obtain ⟨k, rfl⟩ : ∃ j, k = j + 1 := ⟨k - 1, by omega⟩
    obtain ⟨a, s1, e1, o1, a0, a1⟩ := next_ok hs 4 (by omega)
    obtain ⟨c, s2, e2, o2, c0, c1⟩ := next_ok o1 4 (by omega)
    obtain ⟨n, s3, e3, o3, n0, n1⟩ := next_ok o2 12 (by omega)
    obtain ⟨f, s4, e4, o4, f0, f1⟩ := next_ok o3 2 (by omega)
    have hv := booksB_val hb
    have hc : c < (names6.length : Int) := by rw [names6_len]; omega
    have hm := names6_sm _ (getB_mem (show c.toNat < names6.length by rw [names6_len]; omega))
    have hleft := leftOf_le (names6.getD c.toNat ByteArray.empty) out hv.1
    have z := l32Left_all out (names6.getD c.toNat ByteArray.empty) hv.1 (by omega)
    have hv2 := hv.2
    have w1 : IntKind.i64.wrap (((d + 1 : Nat) : Int) - 1) = (d : Int) := by rw [w64 (by omega) (by omega)]; omega
    have w2 := w64 (n := 1 + n) (by omega) (by omega)
    have bk : ∀ (b : Int × ByteArray × Int) (s' : List Int × Int × Int), OkBooking b → SrcOk s' → ∃ o' s'', ((spec_BookPieces.f out b).bind fun r => if ((r.2 : Int) == 0) = true then spec_l32Good.l4 NN k d s' r.1 names6 else spec_l32Good.l4 NN k d s' out names6) = some (o', s'') ∧ SrcOk s'' ∧ booksB o' = true ∧ Lm OkBooking o' := by
      intro b s' hb' hs'
      rw [spec_BookPieces_f out b hl hb']
      simp only [Option.bind_some]
      by_cases h0 : (bookR out b).2 = 0
      · rw [if_pos (by rw [h0]; rfl)]
        have := bookR_zero h0
        exact ih k s' _ (by omega) (by omega) hs' (by rw [this.2.1]; exact this.2.2) (bookR_ok out b hl hb')
      · rw [if_neg (by simpa using h0)]
        exact ih k s' out (by omega) (by omega) hs' hb hl
    simp only [spec_l32Good.l4, spec_l32Good.g4, show (0 : Int) < ((d + 1 : Nat) : Int) from by omega, decide_true, if_true, e1, e2, e3, e4, z, hc, c0, and_self, Option.bind_some, w1, w2]
    generalize names6.getD c.toNat ByteArray.empty = nm at hm hleft
    generalize leftOf out nm = lf at hleft
    have hmin : -9223372036854775808 ≤ (if lf < 1000 then lf else 1000) ∧ (if lf < 1000 then lf else 1000) ≤ 9223372036854775807 := by split <;> omega
    generalize (if lf < 1000 then lf else 1000) = mn at hmin
    by_cases h1 : 0 < a
    · by_cases h2 : 0 < lf
      · have f4 : (lf == 0) = false := by rw [beq_eq_false_iff_ne]; omega
        by_cases h3 : f = 0
        · have f3 : (f == 0) = true := by rw [h3]; rfl
          simp only [decide_eq_true h1, decide_eq_true h2, f3, f4, if_true, Bool.false_eq_true, if_false]
          exact bk (a, nm, mn) s4 (mkB (by omega) hm hmin) o4
        · have f3 : (f == 0) = false := by rw [beq_eq_false_iff_ne]; exact h3
          simp only [decide_eq_true h1, decide_eq_true h2, f3, f4, if_true, Bool.false_eq_true, if_false]
          exact bk (a, nm, 1 + n) s4 (mkB (by omega) hm (by omega)) o4
      · by_cases h4 : lf = 0
        · have f4 : (lf == 0) = true := by rw [h4]; rfl
          simp only [decide_eq_true h1, decide_eq_false h2, f4, if_true, Bool.false_eq_true, if_false]
          exact bk (0, nm, 1 + n) s3 (mkB (by omega) hm (by omega)) o3
        · have f4 : (lf == 0) = false := by rw [beq_eq_false_iff_ne]; exact h4
          simp only [decide_eq_true h1, decide_eq_false h2, f4, if_true, Bool.false_eq_true, if_false]
          exact bk (a, nm, 1 + n) s3 (mkB (by omega) hm (by omega)) o3
    · by_cases h4 : lf = 0
      · have f4 : (lf == 0) = true := by rw [h4]; rfl
        simp only [decide_eq_false h1, f4, if_true, Bool.false_eq_true, if_false]
        exact bk (0, nm, 1 + n) s3 (mkB (by omega) hm (by omega)) o3
      · have f4 : (lf == 0) = false := by rw [beq_eq_false_iff_ne]; exact h4
        simp only [decide_eq_false h1, f4, if_true, Bool.false_eq_true, if_false]
        exact bk (a, nm, 1 + n) s3 (mkB (by omega) hm (by omega)) o3
theorem good32_ok {s : List Int × Int × Int} (hs : SrcOk s) : ∃ o s', spec_l32Good.f s = some (o, s') ∧ SrcOk s' ∧ booksB o = true ∧ Lm OkBooking o := by
  unfold spec_l32Good.f spec_l32Good.fn spec_l32Good.top
  obtain ⟨n, s1, e1, o1, n0, n1⟩ := next_ok hs 10 (by omega)
  obtain ⟨N, hN⟩ := Int.eq_ofNat_of_zero_le n0
  subst hN
  simp only [names_f, e1, Option.bind_some]
  exact good32_l N NN s1 [] (NN_lt (by omega)) (by omega) o1 rfl ⟨by simp, by simp⟩
theorem draw32_l : ∀ (d k : Nat) (s : List Int × Int × Int) (out : List (Int × ByteArray × Int)), out.length + d = 62 → d < k → SrcOk s → Lm OkBooking out →
    ∃ o s', spec_l32Draw.l6 NN k s out = some (o, s') ∧ SrcOk s' ∧ Lm OkBooking o := by
  intro d
  induction d with
  | zero =>
    intro k s out hd hk hs hl
    obtain ⟨k, rfl⟩ : ∃ j, k = j + 1 := ⟨k - 1, by omega⟩
    obtain ⟨a, s1, e1, o1, a0, a1⟩ := next_ok hs 2 (by omega)
    have w := w64 (n := 60 + a) (by omega) (by omega)
    have n1 : ¬ (out.length : Int) < 60 + a := by omega
    simp only [spec_l32Draw.l6, spec_l32Draw.g6, e1, Option.bind_some, w, n1, decide_false, Bool.false_eq_true, if_false]
    exact ⟨_, _, rfl, o1, hl⟩
  | succ d ih =>
    intro k s out hd hk hs hl
    obtain ⟨k, rfl⟩ : ∃ j, k = j + 1 := ⟨k - 1, by omega⟩
    obtain ⟨a, s1, e1, o1, a0, a1⟩ := next_ok hs 2 (by omega)
    have w := w64 (n := 60 + a) (by omega) (by omega)
    by_cases n1 : (out.length : Int) < 60 + a
    · simp only [spec_l32Draw.l6, spec_l32Draw.g6, e1, Option.bind_some, w, n1, decide_true, if_true]
      rw [if_pos (by rw [room32]; simp; omega)]
      exact ih k s1 _ (by simp; omega) (by omega) o1 (ok_snoc hl (mkB (by omega) (Nat.le_of_ble_eq_true rfl) (by omega)) (by omega))
    · simp only [spec_l32Draw.l6, spec_l32Draw.g6, e1, Option.bind_some, w, n1, decide_false, Bool.false_eq_true, if_false]
      exact ⟨_, _, rfl, o1, hl⟩
theorem draw32_ok {s : List Int × Int × Int} (hs : SrcOk s) : ∃ o s', spec_l32Draw.f s = some (o, s') ∧ SrcOk s' ∧ Lm OkBooking o := by
  unfold spec_l32Draw.f spec_l32Draw.fn spec_l32Draw.top
  obtain ⟨o, s1, e1, o1, b1, l1⟩ := good32_ok hs
  have hv := (booksB_val b1).2
  obtain ⟨x, s2, e2, o2, x0, x1⟩ := next_ok o1 30 (by omega)
  obtain ⟨y, s3, e3, o3, y0, y1⟩ := next_ok o2 6 (by omega)
  obtain ⟨u, s4, e4, o4, u1⟩ := drawWord_ok o3
  obtain ⟨c, s5, e5, o5, c1⟩ := pick_ok o4 [0, 1, 1000, 1001] (by simp) (by simp)
  have hc : 0 ≤ c ∧ c ≤ 1001 := by simp at c1; omega
  have w := w64 (n := y - 1) (by omega) (by omega)
  simp only [e1, e2, e3, e4, e5, Option.bind_some, w]
  by_cases h0 : x = 0
  · simp only [h0, beq_self_eq_true, if_true]
    rw [if_pos (by rw [room32]; simp; omega)]
    exact ⟨_, _, rfl, o5, ok_snoc l1 (mkB (by omega) u1 (by omega)) (by omega)⟩
  · by_cases h1 : x = 1
    · simp only [h1, beq_iff_eq, show ¬ (1 : Int) = 0 from by omega, if_true, if_false]
      exact draw32_l (62 - o.length) NN s2 o (by omega) (NN_lt (by omega)) o2 l1
    · by_cases h2 : x = 2
      · simp only [h2, beq_iff_eq, show ¬ (2 : Int) = 0 from by omega, show ¬ (2 : Int) = 1 from by omega, if_true, if_false]
        rw [if_pos (by rw [room32]; simp; omega)]
        refine ⟨_, _, rfl, o2, ?_⟩
        have q1 := ok_snoc l1 (mkB (a := 0) (n := (⟨#[97, 115, 116, 101, 114]⟩ : ByteArray)) (c := 1000) (by omega) (Nat.le_of_ble_eq_true rfl) (by omega)) (by omega)
        have q2 := ok_snoc q1 (mkB (a := 0) (n := (⟨#[97, 115, 116, 101, 114]⟩ : ByteArray)) (c := 700) (by omega) (Nat.le_of_ble_eq_true rfl) (by omega)) (by simp; omega)
        rw [List.append_assoc] at q2
        exact q2
      · simp only [h0, h1, h2, beq_iff_eq, if_false]
        exact ⟨_, _, rfl, o2, l1⟩
theorem drawBook_ok {code : List Int} (h : CodeOk code) : ∃ o b, spec_DrawBookPieces.f code = some (o, b) ∧ Lm OkBooking o ∧ OkBooking b := by
  unfold spec_DrawBookPieces.f spec_DrawBookPieces.fn spec_DrawBookPieces.top
  obtain ⟨s, e, ho⟩ := from_ok h
  obtain ⟨o, s1, e1, o1, l1⟩ := draw32_ok ho
  obtain ⟨x, s2, e2, o2, x0, x1⟩ := next_ok o1 4 (by omega)
  obtain ⟨y, s3, e3, o3, y0, y1⟩ := next_ok o2 5 (by omega)
  obtain ⟨m, s4, e4, o4, m0, m1⟩ := next_ok o3 12 (by omega)
  obtain ⟨n, s5, e5, o5, n0, n1⟩ := next_ok o4 4 (by omega)
  have w1 := w64 (n := 1 + m) (by omega) (by omega)
  have w2 := w64 (n := 1 + n) (by omega) (by omega)
  obtain ⟨c, s6, e6, o6, c1⟩ := pick_ok o5 [1 + m, 1, 1000, 1001, 1 + n] (by simp) (by simp)
  have hc : 0 ≤ c ∧ c ≤ 1001 := by simp at c1; omega
  have hy : y < (names6.length : Int) := by rw [names6_len]; omega
  have hm := names6_sm _ (getB_mem (show y.toNat < names6.length by rw [names6_len]; omega))
  simp only [e, e1, e2, e3, e4, e5, w1, w2, e6, names_f, Option.bind_some, y0, hy, and_self, if_true]
  exact ⟨_, _, rfl, l1, mkB (by omega) hm (by omega)⟩
theorem drawPieces_ok {code : List Int} (h : CodeOk code) : ∃ o b, spec_DrawPiecesLeft.f code = some (o, b) ∧ Lm OkBooking o ∧ Sm b := by
  unfold spec_DrawPiecesLeft.f spec_DrawPiecesLeft.fn spec_DrawPiecesLeft.top
  obtain ⟨s, e, ho⟩ := from_ok h
  obtain ⟨o, s1, e1, o1, l1⟩ := draw32_ok ho
  obtain ⟨x, s2, e2, o2, x0, x1⟩ := next_ok o1 16 (by omega)
  obtain ⟨u, s3, e3, o3, u1⟩ := drawWord_ok o2
  obtain ⟨y, s4, e4, o4, y0, y1⟩ := next_ok o2 5 (by omega)
  have hy : y < (names6.length : Int) := by rw [names6_len]; omega
  have hm := names6_sm _ (getB_mem (show y.toNat < names6.length by rw [names6_len]; omega))
  simp only [e, e1, e2, e3, e4, names_f, Option.bind_some, y0, hy, and_self, if_true]
  split
  · exact ⟨_, _, rfl, l1, u1⟩
  · exact ⟨_, _, rfl, l1, hm⟩
theorem likeBookings_self (a : List (Int × ByteArray × Int)) (hl : a.length ≤ 140737488355328) : laws_likeBookings.f a a = some true := by
  unfold laws_likeBookings.f laws_likeBookings.fn laws_likeBookings.top
  simp only [bne_self_eq_false, Bool.false_eq_true, if_false]
  refine eqS_loop (E := fun _ => True) (fun k a b i => laws_likeBookings.l4 NN k a b i) a (fun _ _ => trivial) ?_ ?_ NN (NN_lt (by omega))
  · intro k p x r hx ha
    subst ha
    have hm := mid_len p r x
    have c1 : (p.length : Int) < ((p ++ x :: r).length : Int) := by omega
    have c0 : (0 : Int) ≤ (p.length : Int) := by omega
    have cw := w64 (n := (p.length : Int) + 1) (by omega) (by omega)
    simp only [laws_likeBookings.l4, laws_likeBookings.g4, c0, c1, cw, and_self, and_true, true_and, decide_true, decide_false, if_true, if_false, mid_get, mid_set, mid_getn, mid_setn, bt_mid, Option.bind_some, Bool.not_true, Bool.not_false, Bool.false_eq_true, Bool.true_eq_false, beq_self_eq_true, bne_self_eq_false, Int.toNat_natCast]
    simp
  · intro k
    simp [laws_likeBookings.l4, laws_likeBookings.g4]
theorem leftOf_nonneg : ∀ (r p : List (Int × ByteArray × Int)) (a : ByteArray), okFrom p r = true → 0 ≤ leftOf p a → 0 ≤ leftOf (p ++ r) a := by
  intro r
  induction r with
  | nil => intro p a _ h; rwa [List.append_nil]
  | cons b r ih =>
    intro p a h hp
    simp only [okFrom, Bool.and_eq_true, decide_eq_true_eq] at h
    have := ih (p ++ [b]) a h.2 (by
      by_cases ha : b.2.1 = a
      · rw [← ha]; exact h.1.2
      · rw [leftOf_snoc]; unfold addL; rw [if_neg ha]; exact hp)
    rwa [List.append_assoc] at this
theorem tot0_mono (a : ByteArray) : ∀ (r p : List (Int × ByteArray × Int)), (∀ b ∈ p ++ r, valB b = true) → (totL p a).getD 0 0 ≤ (totL (p ++ r) a).getD 0 0 := by
  intro r
  induction r with
  | nil => intro p _; rw [List.append_nil]; exact Int.le_refl _
  | cons b r ih =>
    intro p h
    have h1 := ih (p ++ [b]) (by rw [List.append_assoc]; exact h)
    rw [List.append_assoc] at h1
    refine Int.le_trans ?_ h1
    have hv := valB_count (h b (by simp))
    obtain ⟨t0, t1, t2, t3, q1, q2⟩ := totL_shape a p (fun x hx => h x (by simp [hx]))
    rw [totL_snoc, q1]
    unfold addT
    split
    · obtain h | h | h | h : b.1 = 0 ∨ b.1 = 1 ∨ b.1 = 2 ∨ b.1 = 3 := by omega
      all_goals (rw [h]; simp)
      omega
    · exact Int.le_refl _
theorem left_tot0 (xs : List (Int × ByteArray × Int)) (a : ByteArray) (h : ∀ b ∈ xs, valB b = true) (n : Nat) : leftOf (xs.take n) a ≤ (totL xs a).getD 0 0 := by
  have h1 := tot0_mono a (xs.drop n) (xs.take n) (by rw [List.take_append_drop]; exact h)
  rw [List.take_append_drop] at h1
  obtain ⟨t0, t1, t2, t3, q1, q2, q3, q4, q5, q6, q7⟩ := totL_shape a (xs.take n) (fun x hx => h x (List.mem_of_mem_take hx))
  rw [q1] at h1
  have : ([t0, t1, t2, t3] : List Int).getD 0 0 = t0 := rfl
  rw [this] at h1
  omega
theorem most_le (xs : List (Int × ByteArray × Int)) (a : ByteArray) (h : ∀ b ∈ xs, valB b = true) (B : Int) (hB : ∀ n, leftOf (xs.take n) a ≤ B) : ∀ (r : List (Int × ByteArray × Int)) (i : Nat) (st : Int), st ≤ B → foldi (fun i st (_ : Int × ByteArray × Int) => mostF xs a i st) i st r ≤ B := by
  intro r
  induction r with
  | nil => intro i st hs; exact hs
  | cons b r ih =>
    intro i st hs
    refine ih (i + 1) _ ?_
    have := hB (i + 1)
    show mostF xs a i st ≤ B
    unfold mostF; split <;> omega
theorem most_ge (xs : List (Int × ByteArray × Int)) (a : ByteArray) : ∀ (r : List (Int × ByteArray × Int)) (i : Nat) (st : Int), st ≤ foldi (fun i st (_ : Int × ByteArray × Int) => mostF xs a i st) i st r ∧ (0 < r.length → leftOf (xs.take (i + r.length)) a ≤ foldi (fun i st (_ : Int × ByteArray × Int) => mostF xs a i st) i st r) := by
  intro r
  induction r with
  | nil => intro i st; exact ⟨Int.le_refl _, fun h => by simp at h⟩
  | cons b r ih =>
    intro i st
    have h1 := ih (i + 1) (mostF xs a i st)
    have h2 : st ≤ mostF xs a i st ∧ leftOf (xs.take (i + 1)) a ≤ mostF xs a i st := by unfold mostF; split <;> omega
    refine ⟨Int.le_trans h2.1 h1.1, fun _ => ?_⟩
    cases r with
    | nil => exact Int.le_trans h2.2 h1.1
    | cons c r =>
      have := h1.2 (by simp)
      rw [show i + (b :: c :: r).length = i + 1 + (c :: r).length by simp only [List.length_cons]; omega]
      exact this
theorem most_bd (xs : List (Int × ByteArray × Int)) (a : ByteArray) (h : booksB xs = true) : 0 ≤ leftOf xs a ∧ leftOf xs a ≤ mostL xs a ∧ mostL xs a ≤ (totL xs a).getD 0 0 := by
  have hv := booksB_val h
  have hok : okFrom [] xs = true := by
    unfold booksB at h
    simp only [Bool.and_eq_true] at h
    exact h.2
  have h0 := leftOf_nonneg xs [] a hok (Int.le_refl 0)
  rw [List.nil_append] at h0
  have ht := left_tot0 xs a hv.1
  refine ⟨h0, ?_, ?_⟩
  · have := most_ge xs a xs 0 0
    unfold mostL
    cases xs with
    | nil => exact Int.le_refl 0
    | cons b r =>
      have h2 := this.2 (by simp)
      rw [Nat.zero_add, List.take_length] at h2
      exact h2
  · unfold mostL
    refine most_le xs a hv.1 _ ht xs 0 0 ?_
    have := ht 0
    rw [List.take_zero] at this
    exact this
end Go.Pl

namespace Go.Pl
open Go.Ev
set_option linter.unusedVariables false
set_option linter.unusedSimpArgs false
def extF (x : Show) (fired : List Int) : List Art → List Bk
  | [] => []
  | a :: r => (if 0 < cntN x fired a.1 then [(1, a.1, (cntN x fired a.1 : Int))] else []) ++ extF x fired r
theorem bookL_ext (x : Show) (fired : List Int) : ∀ (arts : List Art) (out : List Bk), arts.foldl (bookF x fired) out = out ++ extF x fired arts := by
  intro arts
  induction arts with
  | nil => intro out; simp [extF]
  | cons a r ih =>
    intro out
    rw [List.foldl_cons, ih]
    unfold bookF
    simp only [extF]
    split <;> simp
def sumK : List Bk → Int
  | [] => 0
  | b :: r => b.2.2 + sumK r
theorem sumK_app : ∀ (p r : List Bk), sumK (p ++ r) = sumK p + sumK r := by
  intro p
  induction p with
  | nil => intro r; simp [sumK]
  | cons a p ih => intro r; simp only [List.cons_append, sumK, ih]; omega
def sumI : List Int → Int
  | [] => 0
  | b :: r => b + sumI r
theorem sumI_set : ∀ (l : List Int) (i : Nat), i < l.length → sumI (l.set i (l.getD i 0 + 1)) = sumI l + 1 := by
  intro l
  induction l with
  | nil => intro i h; simp at h
  | cons a l ih =>
    intro i h
    cases i with
    | zero => simp [sumI]; omega
    | succ i =>
      have := ih i (by simpa using h)
      simp only [List.set_cons_succ, sumI, List.getD_cons_succ, this]; omega
theorem ext_sum (x : Show) (fired : List Int) : ∀ (arts : List Art), sumK (extF x fired arts) = sumI (arts.map fun a => (cntN x fired a.1 : Int)) := by
  intro arts
  induction arts with
  | nil => rfl
  | cons a r ih =>
    simp only [extF, sumK_app, List.map_cons, sumI, ih]
    split
    · simp [sumK]
    · have : cntN x fired a.1 = 0 := by omega
      rw [this]; simp [sumK]
theorem ext_fact (x : Show) (fired : List Int) : ∀ (arts : List Art), ∀ b ∈ extF x fired arts, b.1 = 1 ∧ 0 ≤ b.2.2 ∧ b.2.2 ≤ (fired.length : Int) := by
  intro arts
  induction arts with
  | nil => intro b hb; cases hb
  | cons a r ih =>
    intro b hb
    simp only [extF] at hb
    rcases List.mem_append.1 hb with h | h
    · split at h
      · rw [List.mem_singleton.1 h]
        have := cntN_le x fired a.1
        exact ⟨rfl, by simp only; omega, by simp only; omega⟩
      · cases h
    · exact ih b h
theorem cnts_sum {x : Show} (hx : showB x = true) : ∀ (r p : List Int), p.length + r.length ≤ 1000000 → (∀ f ∈ r, 0 ≤ f ∧ f < (x.2.2.length : Int)) → sumI (cntsL x (p ++ r)) = sumI (cntsL x p) + (r.length : Int) := by
  intro r
  induction r with
  | nil => intro p _ _; simp
  | cons f r ih =>
    intro p hl hf
    simp only [List.length_cons] at hl
    have hff := hf f (by simp)
    have ha := cue_art hx hff.1 hff.2
    have hbd := artI_bd x.2.1 (cueA x f)
    have hu := cnts_upd (showB_iff hx).2.1 p f ha (by omega)
    have hlen : (cntsL x p).length = x.2.1.length := by simp [cntsL]
    have hw : IntKind.i64.wrap ((cntsL x p).getD (artI x.2.1 (cueA x f)).toNat 0 + 1) = (cntsL x p).getD (artI x.2.1 (cueA x f)).toNat 0 + 1 := by
      obtain ⟨h1, h2⟩ := artI_at ha
      have hg : (cntsL x p).getD (artI x.2.1 (cueA x f)).toNat 0 = (cntN x p (cueA x f) : Int) := by
        unfold cntsL
        rw [List.getD_eq_getElem?_getD, List.getElem?_map, List.getElem?_eq_getElem h1]
        simp only [Option.map_some, Option.getD_some, h2]
      have := cntN_le x p (cueA x f)
      rw [hg, w64 (by omega) (by omega)]
    have i := ih (p ++ [f]) (by simp; omega) (fun g hg => hf g (by simp [hg]))
    rw [List.append_assoc] at i
    rw [show p ++ f :: r = p ++ ([f] ++ r) by simp, i, ← hu, hw, sumI_set _ _ (by omega)]
    simp only [List.length_cons]; omega
theorem cnts_zero (x : Show) : sumI (cntsL x []) = 0 := by
  unfold cntsL cntN
  generalize x.2.1 = l
  induction l with
  | nil => rfl
  | cons a r ih => simp only [List.map_cons, sumI, ih]; simp
theorem once_l13 (fired : List Int) : ∀ (r p : List Bk) (tot : Int) (k : Nat), p.length + r.length ≤ 1000000 → r.length < k → 0 ≤ tot → tot + 1000000 * (r.length : Int) ≤ 1000000000000000 → (∀ b ∈ r, b.1 = 1 ∧ 0 ≤ b.2.2 ∧ b.2.2 ≤ 1000000) →
    laws_FnBookedOnce.l13 NN k fired (p ++ r) tot p.length = some (tot + sumK r == (fired.length : Int)) := by
  intro r
  induction r with
  | nil =>
    intro p tot k _ hk _ _ _
    obtain ⟨k, rfl⟩ : ∃ j, k = j + 1 := ⟨k - 1, by omega⟩
    simp [laws_FnBookedOnce.l13, laws_FnBookedOnce.g13, sumK]
  | cons b r ih =>
    intro p tot k hl hk h0 h1 hb
    simp only [List.length_cons] at hl hk h1
    obtain ⟨k, rfl⟩ : ∃ j, k = j + 1 := ⟨k - 1, by omega⟩
    have hbb := hb b (by simp)
    have hm := mid_len p r b
    have c0 : (0 : Int) ≤ (p.length : Int) := by omega
    have c1 : (p.length : Int) < ((p ++ b :: r).length : Int) := by omega
    have cw := w64 (n := (p.length : Int) + 1) (by omega) (by omega)
    have w := w64 (n := tot + b.2.2) (by omega) (by omega)
    have i := ih (p ++ [b]) (tot + b.2.2) k (by simp; omega) (by omega) (by omega) (by omega) (fun y hy => hb y (by simp [hy]))
    rw [mid_snoc, snoc_len] at i
    have e1 : (b.1 != 1) = false := by rw [hbb.1]; rfl
    simp only [laws_FnBookedOnce.l13, laws_FnBookedOnce.g13, c0, c1, cw, and_self, and_true, true_and, decide_true, decide_false, if_true, if_false, mid_get, mid_set, mid_getn, mid_setn, bt_mid, Option.bind_some, Bool.not_true, Bool.not_false, Bool.false_eq_true, Bool.true_eq_false, beq_self_eq_true, bne_self_eq_false, Int.toNat_natCast, e1, w]
    rw [i]
    simp only [sumK, Int.add_assoc]
theorem bookS_cases (list : List Bk) (x : Show) (fired : List Int) : ((bookS list x fired).2 ≠ 0 ∧ (bookS list x fired).1 = []) ∨ (showB x = true ∧ firedB x fired = true ∧ booksB (bookL x fired list) = true ∧ bookS list x fired = (bookL x fired list, 0)) := by
  unfold bookS
  by_cases h1 : booksB list = true
  · by_cases h2 : showB x = true
    · by_cases h3 : firedB x fired = true
      · rw [if_pos h1, if_pos h2, if_pos h3]
        unfold limR
        by_cases h4 : 60 < (bookL x fired list).length
        · rw [if_pos h4]; exact .inl ⟨by simp, rfl⟩
        · rw [if_neg h4]
          by_cases h5 : booksB (bookL x fired list) = true
          · rw [if_pos h5]; exact .inr ⟨h2, h3, h5, rfl⟩
          · rw [if_neg h5]; exact .inl ⟨by simp, rfl⟩
      · rw [if_pos h1, if_pos h2, if_neg h3]; exact .inl ⟨by simp, rfl⟩
    · rw [if_pos h1, if_neg h2]; exact .inl ⟨by simp, rfl⟩
  · rw [if_neg h1]; exact .inl ⟨by simp, rfl⟩
theorem FnBookedOnce_true (books : List Bk) (x : Show) (fired : List Int) (hyp : Ls PlBooking books ∧ PlShow x ∧ Ls (Rg .i64) fired) : laws_FnBookedOnce.f books x fired = some true := by
  obtain ⟨hB, hX, hF⟩ := hyp
  unfold laws_FnBookedOnce.f laws_FnBookedOnce.fn laws_FnBookedOnce.top
  by_cases hb : (65536 : Int) < (books.length : Int)
  · rw [if_neg (by rw [decide_eq_true hb]; simp)]
  rw [if_pos (decide_eq_false hb)]
  by_cases hf : (65536 : Int) < (fired.length : Int)
  · rw [if_pos (decide_eq_true hf)]
  rw [if_neg (by simpa using hf)]
  have hz : ∀ b ∈ books, Sz b.2.1 := fun b h => (hB.2 b h).2.1
  have hZ : ShowZ x := ⟨hX.1.1, ⟨hX.2.1.1, fun a ha => (hX.2.1.2 a ha).1⟩, hX.2.2.1⟩
  rw [impl_BookShow_f books x fired (by omega) hz hZ (by omega), spec_BookShow_f books x fired (by omega) hz hZ (by omega)]
  rcases bookS_cases books x fired with ⟨h1, h2⟩ | ⟨hs, hfb, hbb, he⟩
  · generalize bookS books x fired = w at h1 h2
    rw [Option.bind_some, Option.bind_some, if_pos (show (w.2 != w.2) = false by simp), h2, likeBookings_self [] (by simp), Option.bind_some, if_neg (by simp), if_pos (by simpa using h1)]
  · rw [he]
    have hv := (booksB_val hbb).2
    have hext : bookL x fired books = books ++ extF x fired x.2.1 := bookL_ext x fired x.2.1 books
    have hin : ∀ f ∈ fired, 0 ≤ f ∧ f < (x.2.2.length : Int) := fun f h => by
      unfold firedB at hfb
      rw [Bool.and_eq_true] at hfb
      have := inB_iff.1 (List.all_eq_true.1 hfb.1 f h)
      omega
    have hsum : sumK (extF x fired x.2.1) = (fired.length : Int) := by
      rw [ext_sum]
      have := cnts_sum hs fired [] (by simp; omega) hin
      rw [List.nil_append, cnts_zero] at this
      unfold cntsL at this
      omega
    have hfa := ext_fact x fired x.2.1
    rw [hext] at hv ⊢
    generalize extF x fired x.2.1 = ext at hv hsum hfa
    have hle : books.length + ext.length ≤ 60 := by rw [← List.length_append]; exact hv
    have n1 : ¬ ((books ++ ext).length : Int) < (books.length : Int) := by rw [List.length_append]; omega
    have n2 : (books.length : Int) ≤ ((books ++ ext).length : Int) := by rw [List.length_append]; omega
    have n3 : (0 : Int) ≤ (books.length : Int) := by omega
    have tk : (books ++ ext).take (books.length : Int).toNat = books := by rw [Int.toNat_natCast]; simp
    rw [Option.bind_some, Option.bind_some, if_pos (show ((0 : Int) != 0) = false from rfl), likeBookings_self _ (show (books ++ ext).length ≤ 140737488355328 by omega), Option.bind_some, if_neg (by simp), if_neg (by simp), if_pos (decide_eq_false n1), if_pos ⟨n3, n2⟩, tk, likeBookings_self books (by omega), Option.bind_some, if_neg (by simp)]
    have := once_l13 fired ext books 0 NN (by omega) (NN_lt (by omega)) (by omega) (by omega) (fun b h => by have := hfa b h; omega)
    rw [this, hsum]
    simp
end Go.Pl
