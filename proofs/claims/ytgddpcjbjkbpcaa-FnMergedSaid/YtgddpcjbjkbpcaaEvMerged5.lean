/- Part 5 of what the law FnMerged stands on: an evaluator of the model's code, proved sound; the functions as plain texts; their contracts. -/
import Derived.Test.YtgddpcjbjkbpcaaChecked
import Derived.Test.YtgddpcjbjkbpcaaProg
import Derived.Test.YtgddpcjbjkbpcaaRows
import Derived.Below
import Derived.Calls
import Derived.Carry
import Derived.ChangeArms
import Derived.ChangeKeysEq
import Derived.ChangeOld
import Derived.Deep.Quiet
import Derived.KernelRfl
import Derived.Laws.Append
import Derived.Laws.BytesString
import Derived.Laws.MakeOwn
import Derived.Laws.Strings
import Derived.Laws.StructEq
import Derived.OpenShut
import Derived.OrdersHeld
import Derived.ProofKit
import Derived.ShutString
import Derived.SizedLaws
import Derived.Tactics
import Derived.WalkKit
import Derived.WideShapes
import Derived.Test.YtgddpcjbjkbpcaaEvMerged4
/- Words for the plain laws. -/
namespace Go.Pl
open Go.Ev
set_option linter.unusedVariables false

theorem wf64 {n : Int} : (Lit.int .i64 n).wf = true ↔ (-9223372036854775808 ≤ n ∧ n ≤ 9223372036854775807) := by
  simp only [Lit.wf, Bool.and_eq_true, decide_eq_true_eq]
  have e1 : IntKind.i64.min = -9223372036854775808 := by decide
  have e2 : IntKind.i64.max = 9223372036854775807 := by decide
  omega
theorem wf8 {n : Int} : (Lit.int .u8 n).wf = true ↔ (0 ≤ n ∧ n ≤ 255) := by
  simp only [Lit.wf, Bool.and_eq_true, decide_eq_true_eq]
  have e1 : IntKind.u8.min = 0 := by decide
  have e2 : IntKind.u8.max = 255 := by decide
  omega
theorem w8 {n : Int} (h1 : 0 ≤ n) (h2 : n < 256) : IntKind.u8.wrap n = n := by
  simp only [IntKind.wrap, IntKind.bits, IntKind.signed]
  simp
  omega
theorem w8_range (n : Int) : 0 ≤ IntKind.u8.wrap n ∧ IntKind.u8.wrap n < 256 := by
  simp only [IntKind.wrap, IntKind.bits, IntKind.signed]
  simp
  omega

/-! Rows, taken apart where a loop stands. -/
theorem mid_get {α : Type} (p r : List α) (x z : α) : (p ++ x :: r).getD (p.length : Int).toNat z = x := by simp
theorem mid_set {α : Type} (p r : List α) (x y : α) : (p ++ x :: r).set (p.length : Int).toNat y = p ++ y :: r := by simp
theorem mid_getn {α : Type} (p r : List α) (x z : α) : (p ++ x :: r).getD p.length z = x := by simp
theorem mid_setn {α : Type} (p r : List α) (x y : α) : (p ++ x :: r).set p.length y = p ++ y :: r := by simp
theorem mid_len {α : Type} (p r : List α) (x : α) : ((p ++ x :: r).length : Int) = (p.length : Int) + r.length + 1 := by simp; omega
theorem mid_nil {α : Type} (p : List α) : p ++ [] = p := by simp
theorem mid_snoc {α : Type} (p r : List α) (x : α) : (p ++ [x]) ++ r = p ++ x :: r := by simp
theorem snoc_len {α : Type} (p : List α) (x : α) : ((p ++ [x]).length : Int) = (p.length : Int) + 1 := by simp
/-- A loop over a row: l stands for its rounds, f for what it comes to. -/
theorem loop_mid {α ρ σ : Type} {B : Nat} (l : Nat → List α → Int → σ → Option ρ) (f : List α → List α → σ → Option ρ)
    (hnil : ∀ k pre st, pre.length ≤ B → l (k + 1) pre (pre.length : Int) st = f pre [] st)
    (hcons : ∀ k pre a r st, pre.length + r.length + 1 ≤ B → (∀ st', l k (pre ++ a :: r) ((pre.length : Int) + 1) st' = f (pre ++ [a]) r st') → l (k + 1) (pre ++ a :: r) (pre.length : Int) st = f pre (a :: r) st) :
    ∀ r pre k st, pre.length + r.length ≤ B → r.length < k → l k (pre ++ r) (pre.length : Int) st = f pre r st := by
  intro r
  induction r with
  | nil =>
    intro pre k st h1 h2
    obtain ⟨k, rfl⟩ : ∃ j, k = j + 1 := ⟨k - 1, by omega⟩
    rw [List.append_nil]
    exact hnil k pre st (by simpa using h1)
  | cons a r ih =>
    intro pre k st h1 h2
    simp only [List.length_cons] at h1 h2
    obtain ⟨k, rfl⟩ : ∃ j, k = j + 1 := ⟨k - 1, by omega⟩
    refine hcons k pre a r st (by omega) fun st' => ?_
    have := ih (pre ++ [a]) k st' (by simp; omega) (by omega)
    rw [mid_snoc, snoc_len] at this
    exact this
/-- The same, where the row itself is written. -/
theorem loop_mid0 {α ρ σ : Type} {B : Nat} (l : Nat → List α → Int → σ → Option ρ) (f : List α → List α → σ → Option ρ)
    (hnil : ∀ k pre st, pre.length ≤ B → l (k + 1) pre (pre.length : Int) st = f pre [] st)
    (hcons : ∀ k pre a r st, pre.length + r.length + 1 ≤ B → (∀ st', l k (pre ++ a :: r) ((pre.length : Int) + 1) st' = f (pre ++ [a]) r st') → l (k + 1) (pre ++ a :: r) (pre.length : Int) st = f pre (a :: r) st)
    (xs : List α) (k : Nat) (st : σ) (h1 : xs.length ≤ B) (h2 : xs.length < k) : l k xs 0 st = f [] xs st := by
  have := loop_mid l f hnil hcons xs [] k st (by simpa using h1) h2
  simpa using this
/-- A loop by a measure. -/
theorem loop_by {ρ σ : Type} (l : Nat → σ → Option ρ) (μ : σ → Nat) (Q : σ → Option ρ → Prop)
    (h : ∀ k st, (∀ st', μ st' < μ st → Q st' (l k st')) → Q st (l (k + 1) st)) : ∀ k st, μ st < k → Q st (l k st) := by
  intro k
  induction k with
  | zero => intro st h; omega
  | succ k ih => intro st hk; exact h k st fun st' h' => ih st' (by omega)

/-! Bytes. -/
theorem ba_toList {a b : ByteArray} : a.toList = b.toList ↔ a = b := by
  rw [ByteArray.toList_eq, ByteArray.toList_eq]
  exact ⟨fun h => ByteArray.ext (Array.toList_inj.mp h), fun h => by rw [h]⟩
theorem ba_beq (a b : ByteArray) : (a.toList == b.toList) = decide (a = b) := by
  by_cases h : a = b
  · subst h; simp
  · rw [decide_eq_false h, beq_eq_false_iff_ne]; exact fun e => h (ba_toList.1 e)
def bl (s : ByteArray) : List UInt8 := s.data.toList
def ob (l : List UInt8) : ByteArray := ⟨l.toArray⟩
theorem bl_ob (l : List UInt8) : bl (ob l) = l := by simp [bl, ob]
theorem ob_bl (s : ByteArray) : ob (bl s) = s := by simp [bl, ob]
theorem bl_inj {a b : ByteArray} (h : bl a = bl b) : a = b := by rw [← ob_bl a, h, ob_bl]
theorem ob_inj {a b : List UInt8} (h : ob a = ob b) : a = b := by rw [← bl_ob a, h, bl_ob]
theorem bl_length (s : ByteArray) : (bl s).length = s.size := by simp only [bl, Array.length_toList]; rfl
theorem ob_size (l : List UInt8) : (ob l).size = l.length := by rw [← bl_length, bl_ob]
theorem bl_append (a b : ByteArray) : bl (a ++ b) = bl a ++ bl b := by simp [bl]
theorem ob_append (a b : List UInt8) : ob a ++ ob b = ob (a ++ b) := by apply bl_inj; rw [bl_append, bl_ob, bl_ob, bl_ob]
theorem bl_lit (a : Array UInt8) : bl (⟨a⟩ : ByteArray) = a.toList := rfl
theorem lit_ob (l : List UInt8) : (⟨l.toArray⟩ : ByteArray) = ob l := rfl
theorem bl_extract (s : ByteArray) (i j : Nat) : bl (s.extract i j) = ((bl s).take j).drop i := by
  simp only [bl, ByteArray.data_extract, Array.toList_extract, List.extract]
  rw [List.drop_take]
theorem ob_extract (l : List UInt8) (i j : Nat) : (ob l).extract i j = ob ((l.take j).drop i) := by apply bl_inj; rw [bl_extract, bl_ob, bl_ob]
theorem ob_toList (l : List UInt8) : (ob l).toList = l := by rw [ByteArray.toList_eq]; rfl
theorem ba_bl (s : ByteArray) : s.toList = bl s := by rw [ByteArray.toList_eq]; rfl
theorem bt_ob (l : List UInt8) (i : Int) : bt (ob l) i = ((l.getD i.toNat 0).toNat : Int) := rfl
theorem bt_mid (p r : List UInt8) (c : UInt8) : bt (ob (p ++ c :: r)) (p.length : Int) = (c.toNat : Int) := by rw [bt_ob, mid_get]
theorem bt_range (s : ByteArray) (i : Int) : 0 ≤ bt s i ∧ bt s i ≤ 255 := by
  unfold bt
  have := UInt8.toNat_lt ((s.data.toList.getD i.toNat 0))
  omega
theorem u8_lt (c : UInt8) : c.toNat < 256 := UInt8.toNat_lt c
theorem u8_eq {a : UInt8} {n : Nat} (h : n < 256) : ((a.toNat : Int) = (n : Int)) ↔ a = UInt8.ofNat n := by
  constructor
  · intro e
    apply UInt8.toNat_inj.mp
    rw [UInt8.toNat_ofNat']; omega
  · rintro rfl
    rw [UInt8.toNat_ofNat']; omega
theorem bytesOf_ob (l : List Int) : bytesOf l = ob (l.map fun n => UInt8.ofNat n.toNat) := rfl
/-- Every string is of bytes. -/
theorem ob_all {P : ByteArray → Prop} (h : ∀ l, P (ob l)) (s : ByteArray) : P s := by rw [← ob_bl s]; exact h _
/-- A loop over a string's bytes. -/
theorem loop_str0 {ρ σ : Type} {B : Nat} (l : Nat → ByteArray → Int → σ → Option ρ) (f : List UInt8 → List UInt8 → σ → Option ρ)
    (hnil : ∀ k pre st, pre.length ≤ B → l (k + 1) (ob pre) (pre.length : Int) st = f pre [] st)
    (hcons : ∀ k pre a r st, pre.length + r.length + 1 ≤ B → (∀ st', l k (ob (pre ++ a :: r)) ((pre.length : Int) + 1) st' = f (pre ++ [a]) r st') → l (k + 1) (ob (pre ++ a :: r)) (pre.length : Int) st = f pre (a :: r) st)
    (s : ByteArray) (k : Nat) (st : σ) (h1 : s.size ≤ B) (h2 : s.size < k) : l k s 0 st = f [] (bl s) st := by
  have := loop_mid0 (fun k xs i st => l k (ob xs) i st) f hnil hcons (bl s) k st (by rw [bl_length]; exact h1) (by rw [bl_length]; exact h2)
  rw [ob_bl] at this
  exact this
theorem room1 : room 1 = 140737488355328 := by decide
theorem room8 : room 8 = 17592186044416 := by decide
theorem room16 : room 16 = 8796093022208 := by decide
theorem room24 : room 24 = 5864062014805 := by decide
theorem room32 : room 32 = 4398046511104 := by decide
theorem room40 : room 40 = 3518437208883 := by decide
theorem NNb : (1000000000000 : Nat) < NN := by rw [NN_eq]; omega
theorem NN_lt {n : Nat} (h : n < 1152921504606846976) : n < NN := by rw [NN_eq]; omega
theorem some_iff {b c : Bool} (h : b = true ↔ c = true) : some b = some c := by
  congr 1; exact Bool.eq_iff_iff.mpr h
end Go.Pl

/- A law's row: what its arguments are, in plain words. -/
namespace Go.Ev
set_option linter.unusedVariables false
set_option linter.unusedSimpArgs false
open Go.RowKit Go.WideShapes Go.ChangeShapes Go.ChangeAt
variable {P : Program}

def Rg (k : IntKind) (n : Int) : Prop := (Lit.int k n).wf = true
def Sz (s : ByteArray) : Prop := s.size ≤ 140737488355328
def Ls {α : Type} (Q : α → Prop) (xs : List α) : Prop := xs.length ≤ 140737488355328 ∧ ∀ x ∈ xs, Q x
def Plain : (t : Ty) → t.I → Prop
  | .int k, n => Rg k n
  | .bool, _ => True
  | .str, s => Sz s
  | .sl _ t, xs => Ls (Plain t) xs
  | .slb _ _, _ => True
  | .pair a b, x => Plain a x.1 ∧ Plain b x.2
  | .arr n t, xs => xs.length = n ∧ ∀ x ∈ xs, Plain t x
def PlainAll : (ts : List Ty) → Tup ts → Prop
  | [], _ => True
  | [t], x => Plain t x
  | t :: u :: r, x => Plain t x.1 ∧ PlainAll (u :: r) x.2
def okE (B : TypeId → Nat) : Ty → Bool
  | .sl e t => decide (1 ≤ B e) && okE B t
  | .slb e t => decide (1 ≤ B e) && okE B t
  | .pair a b => okE B a && okE B b
  | .arr _ t => okE B t
  | _ => true
theorem reach_lt : reachBytes ≤ 140737488355328 := by decide
theorem fit_plain {B : TypeId → Nat} : ∀ (t : Ty) (x : t.I), okE B t = true → Fit B t x → Plain t x := by
  intro t
  induction t with
  | int k => intro x _ h; exact h
  | bool => intro x _ h; trivial
  | str => intro x _ h; exact Nat.le_trans h reach_lt
  | sl e t ih =>
    intro x ho h
    simp only [okE, Bool.and_eq_true, decide_eq_true_eq] at ho
    refine ⟨?_, fun y hy => ih y ho.2 (h.2 y hy)⟩
    have h1 : x.length * 1 ≤ x.length * B e := Nat.mul_le_mul_left _ ho.1
    have h2 := h.1
    have h3 := reach_lt
    omega
  | slb e t ih => intro x ho h; trivial
  | pair a b iha ihb =>
    intro x ho h
    simp only [okE, Bool.and_eq_true] at ho
    exact ⟨iha _ ho.1 h.1, ihb _ ho.2 h.2⟩
  | arr n t ih => intro x ho h; exact ⟨h.1, fun y hy => ih y ho (h.2 y hy)⟩
theorem fit_plainAll {B : TypeId → Nat} : ∀ (ts : List Ty) (x : Tup ts), ts.all (okE B) = true → FitAll B ts x → PlainAll ts x := by
  intro ts
  induction ts with
  | nil => intro x _ _; trivial
  | cons t r ih =>
    intro x ho h
    simp only [List.all_cons, Bool.and_eq_true] at ho
    cases r with
    | nil => exact fit_plain t x ho.1 h
    | cons u r => exact ⟨fit_plain t x.1 ho.1 h.1, ih x.2 ho.2 h.2⟩
theorem ok_all {tab : List TRow} (h : okB P tab = true) : tab.all (rowB P tab) = true := by
  unfold okB at h; simp only [Bool.and_eq_true] at h; exact h.2.2
theorem bytes_sound {tab : List TRow} (h : okB P tab = true) : ∀ t x, tabT tab t = some x → P.bytesOf t = tabB tab t := by
  intro t x ht
  have hs := tab_sound (ok_all h)
  obtain ⟨ty, n⟩ := x
  obtain ⟨i, h1, h2⟩ := (hs.1 t ty n ht).info
  unfold Program.bytesOf
  rw [h1]
  exact hs.2 t _ ht i h1
section
variable {H : Type} {enc : TypeId × Value → H} {w : World} {base : Nat} {spare : Nat → Bool} {held : Bool}
theorem law_row {tab : List TRow} (hok : okB P tab = true) (hpos : posB tab = true) {f : FuncId} {c : Con} (hg : Good P f c) (hps : (c.ps.map (·.2)).map ((Kn.val, ·)) = c.ps) (hE : (c.ps.map (·.2)).all (okE (tabB tab)) = true)
    (hlaw : ∀ x, PlainAll (c.ps.map (·.2)) x → ∃ r, c.F x = some r ∧ kds' c.rs (dats _ r) = [(.val, ⟨.bool, true⟩)])
    {r : Reach} {b0 : Nat} {ts : List TypeId} {args : Array Value} {ds : List (DataW H)} {p : List MemPlace} (hts : tysOf (tabT tab) ts = some (c.ps.map (·.2))) (h : DataW.TrodAll enc P w base spare held ts args.toList ds p)
    (hval : ∀ (j : Nat) t v, ts[j]? = some t → args[j]? = some v → Value.okWide P w r b0 t v) {vt : List TypeId} {gs : List (DataW H)} (hgs : vt = [] ∨ gs = []) (hw : (DataW.weightsEach P (ts ++ vt) (ds ++ gs)).all (· ≤ reachBytes) = true) (hl : ts.length = ds.length) :
    Calls P f args w fun e w' => e = .returned (.bool true) ∧ Below w.heap.size w w' := by
  refine law_calls (tab_sound (ok_all hok)).1 (bytes_sound hok) (posB_sound hpos) hg hps (fun x hx => hlaw x (fit_plainAll _ x hE hx)) hts h (fun j t v hj hv => hval j t v hj (by simpa using hv)) ?_
  have key : ∀ (ts : List TypeId) (ds : List (DataW H)), ts.length = ds.length → ∀ m ∈ DataW.weightsEach P ts ds, m ∈ DataW.weightsEach P (ts ++ vt) (ds ++ gs) := by
    intro ts
    induction ts with
    | nil => intro ds hl m hm; cases ds <;> simp [DataW.weightsEach] at hm
    | cons t ts ih =>
      intro ds hl m hm
      cases ds with
      | nil => simp [DataW.weightsEach] at hm
      | cons d ds =>
        simp only [List.cons_append, DataW.weightsEach, List.mem_append] at hm ⊢
        rcases hm with hm | hm
        · exact .inl hm
        · exact .inr (ih ds (by simpa using hl) m hm)
  intro m hm
  have := List.all_eq_true.1 hw m (key ts ds hl m hm)
  simpa using this
end
end Go.Ev

/- What the laws' own helpers do, loop by loop: sizes, copies, comparisons, marks. -/
namespace Go.Pl
open Go.Ev
set_option linter.unusedVariables false

def Sm (s : ByteArray) : Prop := s.size ≤ 1000000
def Lm {α : Type} (Q : α → Prop) (xs : List α) : Prop := xs.length ≤ 1000000 ∧ ∀ x ∈ xs, Q x

theorem eqS_loop {α : Type} {E : α → Prop} (l : Nat → List α → List α → Int → Option Bool) (a : List α) (hE : ∀ x ∈ a, E x)
    (hs : ∀ k p x r, E x → a = p ++ x :: r → l (k + 1) a a p.length = l k a a ((p.length : Int) + 1)) (he : ∀ k, l (k + 1) a a a.length = some true) :
    ∀ k, a.length < k → l k a a 0 = some true := by
  have key : ∀ (r p : List α) (k : Nat), a = p ++ r → r.length < k → l k a a p.length = some true := by
    intro r
    induction r with
    | nil =>
      intro p k h hk
      obtain ⟨k, rfl⟩ : ∃ j, k = j + 1 := ⟨k - 1, by omega⟩
      rw [List.append_nil] at h
      rw [← h]; exact he k
    | cons x r ih =>
      intro p k h hk
      simp only [List.length_cons] at hk
      obtain ⟨k, rfl⟩ : ∃ j, k = j + 1 := ⟨k - 1, by omega⟩
      rw [hs k p x r (hE x (by rw [h]; simp)) h]
      have := ih (p ++ [x]) k (by rw [h]; simp) (by omega)
      rw [snoc_len] at this
      exact this
  intro k hk
  have := key a [] k (by simp) hk
  simpa using this

theorem szS_loop {α : Type} {Q R : α → Prop} (l : Nat → List α → Int → Int → Option Int)
    (he : ∀ k p left, l (k + 1) p left p.length = some left)
    (hs : ∀ x, Q x → ∀ left, -1000000000000000 ≤ left → left ≤ 1000000 → ∃ s, s ≤ 1000000 ∧ (0 ≤ s → s ≤ left ∧ R x) ∧ ∀ k p r, p.length + r.length + 1 ≤ 140737488355328 → l (k + 1) (p ++ x :: r) left p.length = if s < 0 then some (-1) else l k (p ++ x :: r) s ((p.length : Int) + 1))
    (a : List α) (k : Nat) (left : Int) (h0 : -1000000000000000 ≤ left) (h1 : left ≤ 1000000) (ha : Ls Q a) (hk : a.length < k) : ∃ s, l k a left 0 = some s ∧ s ≤ 1000000 ∧ (0 ≤ s → s ≤ left ∧ ∀ x ∈ a, R x) := by
  have key : ∀ (r p : List α) (k : Nat) (left : Int), p.length + r.length ≤ 140737488355328 → (∀ x ∈ r, Q x) → -1000000000000000 ≤ left → left ≤ 1000000 → r.length < k → ∃ s, l k (p ++ r) left p.length = some s ∧ s ≤ 1000000 ∧ (0 ≤ s → s ≤ left ∧ ∀ x ∈ r, R x) := by
    intro r
    induction r with
    | nil =>
      intro p k left _ _ _ _ hk
      obtain ⟨k, rfl⟩ : ∃ j, k = j + 1 := ⟨k - 1, by omega⟩
      rw [List.append_nil]
      exact ⟨left, he k p left, by omega, fun _ => ⟨by omega, fun x hx => by cases hx⟩⟩
    | cons x r ih =>
      intro p k left hb hq h0 h1 hk
      simp only [List.length_cons] at hk hb
      obtain ⟨k, rfl⟩ : ∃ j, k = j + 1 := ⟨k - 1, by omega⟩
      obtain ⟨s, s1, s2, s3⟩ := hs x (hq x (by simp)) left h0 h1
      rw [s3 k p r (by omega)]
      by_cases hn : s < 0
      · rw [if_pos hn]; exact ⟨-1, rfl, by omega, by omega⟩
      · rw [if_neg hn]
        obtain ⟨u, u1, u2, u3⟩ := ih (p ++ [x]) k s (by simp; omega) (fun y hy => hq y (by simp [hy])) (by omega) (by omega) (by omega)
        rw [mid_snoc, snoc_len] at u1
        refine ⟨u, u1, by omega, fun h => ⟨by have := (u3 h).1; have := (s2 (by omega)).1; omega, fun y hy => ?_⟩⟩
        rcases List.mem_cons.1 hy with rfl | hy
        · exact (s2 (by omega)).2
        · exact (u3 h).2 y hy
  have := key a [] k left (by simpa using ha.1) ha.2 h0 h1 hk
  simpa using this

theorem toS_loop {α : Type} {Z R : α → Prop} (l5 l9 : Nat → List α → Int → List α → Option (List α × List α))
    (he9 : ∀ k a (out : List α), (a.length : Int) ≤ out.length → l9 (k + 1) a out.length out = some (out.take a.length, out.drop a.length))
    (hs9 : ∀ k a (i : Nat) (out : List α), i < out.length → out.length ≤ 140737488355328 → ∃ z, Z z ∧ l9 (k + 1) a i out = l9 k a ((i : Int) + 1) (out.set i z))
    (he5 : ∀ k a (out : List α), l5 (k + 1) a a.length out = l9 NN a a.length out)
    (hs5 : ∀ k (p r : List α) x (q s : List α) y, R x → p.length = q.length → p.length + r.length + 1 ≤ 140737488355328 → p.length + s.length + 1 ≤ 140737488355328 → l5 (k + 1) (p ++ x :: r) p.length (q ++ y :: s) = l5 k (p ++ x :: r) ((p.length : Int) + 1) (q ++ x :: s))
    (a : List α) (out : List α) (k : Nat) (ha : ∀ x ∈ a, R x) (h : a.length ≤ out.length) (hb : out.length ≤ 140737488355328) (hk : a.length < k) :
    ∃ fil, l5 k a 0 out = some (a, fil) ∧ fil.length = out.length - a.length ∧ ∀ x ∈ fil, Z x := by
  have hN : 140737488355328 < NN := NN_lt (by omega)
  have k9 : ∀ (d : Nat) (k : Nat) (i : Nat) (out : List α), out.length ≤ 140737488355328 → i + d = out.length → d < k → a.length ≤ i → out.take a.length = a → (∀ j x, a.length ≤ j → j < i → out[j]? = some x → Z x) →
      ∃ fil, l9 k a i out = some (a, fil) ∧ fil.length = out.length - a.length ∧ ∀ x ∈ fil, Z x := by
    intro d
    induction d with
    | zero =>
      intro k i out hb hi hk ha ht hz
      obtain ⟨k, rfl⟩ : ∃ j, k = j + 1 := ⟨k - 1, by omega⟩
      obtain rfl : i = out.length := by omega
      refine ⟨_, by rw [he9 k a out (by omega), ht], by simp, fun x hx => ?_⟩
      obtain ⟨m, hm⟩ := List.mem_iff_getElem?.1 hx
      rw [List.getElem?_drop] at hm
      exact hz _ x (by omega) (List.getElem?_eq_some_iff.1 hm).1 hm
    | succ d ih =>
      intro k i out hb hi hk ha ht hz
      obtain ⟨k, rfl⟩ : ∃ j, k = j + 1 := ⟨k - 1, by omega⟩
      obtain ⟨z, z1, z2⟩ := hs9 k a i out (by omega) hb
      rw [z2]
      obtain ⟨fil, f1, f2, f3⟩ := ih k (i + 1) (out.set i z) (by simpa using hb) (by simp; omega) (by omega) (by omega) (by rw [List.take_set_of_le ha]; exact ht) (fun j x h1 h2 h3 => by
        by_cases hj : i = j
        · subst hj
          rw [List.getElem?_set_self (by omega)] at h3
          cases h3; exact z1
        · rw [List.getElem?_set_ne hj] at h3
          exact hz j x h1 (by omega) h3)
      exact ⟨fil, f1, by simpa using f2, f3⟩
  have k5 : ∀ (r p : List α) (s : List α) (k : Nat), p ++ r = a → p.length + s.length ≤ 140737488355328 → r.length ≤ s.length → r.length < k → (∀ x ∈ r, R x) →
      ∃ fil, l5 k a p.length (p ++ s) = some (a, fil) ∧ fil.length = p.length + s.length - a.length ∧ ∀ x ∈ fil, Z x := by
    intro r
    induction r with
    | nil =>
      intro p s k h3 h4 h5 hk _
      obtain ⟨k, rfl⟩ : ∃ j, k = j + 1 := ⟨k - 1, by omega⟩
      rw [List.append_nil] at h3
      subst h3
      rw [he5]
      obtain ⟨fil, f1, f2, f3⟩ := k9 s.length NN p.length (p ++ s) (by simp; omega) (by simp) (by omega) (by omega) (by rw [List.take_left' rfl]) (fun j x h1 h2 => by omega)
      exact ⟨fil, f1, by rw [f2]; simp, f3⟩
    | cons x r ih =>
      intro p s k h3 h4 h5 hk hR
      simp only [List.length_cons] at h5 hk
      obtain ⟨k, rfl⟩ : ∃ j, k = j + 1 := ⟨k - 1, by omega⟩
      cases s with
      | nil => simp at h5
      | cons y s =>
        have hs := hs5 k p r x p s y (hR x (by simp)) rfl (by simp only [List.length_cons] at h4 h5; omega) (by simp only [List.length_cons] at h4; omega)
        rw [h3] at hs
        rw [hs]
        obtain ⟨fil, f1, f2, f3⟩ := ih (p ++ [x]) s k (by rw [← h3]; simp) (by simp only [List.length_append, List.length_cons, List.length_nil] at h4 ⊢; omega) (by simp only [List.length_cons] at h5; omega) (by omega) (fun z hz => hR z (by simp [hz]))
        rw [mid_snoc, snoc_len] at f1
        exact ⟨fil, f1, by rw [f2]; simp only [List.length_append, List.length_cons, List.length_nil]; omega, f3⟩
  obtain ⟨fil, f1, f2, f3⟩ := k5 a [] out k rfl (by simpa using hb) h hk ha
  exact ⟨fil, by simpa using f1, by simpa using f2, f3⟩

/-- Rows that are marked, and looked at afterwards. -/
theorem mark_held {α : Type} {Q : α → Prop} (l : Nat → List α → Int → Int → Option (Int × List α)) (lh : Nat → List α → Int → Int → Option Int) (C : Nat) (K : Int)
    (he : ∀ k p n, l (k + 1) p n p.length = some (n, p)) (heh : ∀ k p n, lh (k + 1) p n p.length = some n)
    (hs : ∀ x, Q x → ∀ n, 0 ≤ n → n ≤ K → ∃ x' n', n ≤ n' ∧ n' ≤ n + C ∧ (∀ k p r, p.length + r.length + 1 ≤ 1000000 → l (k + 1) (p ++ x :: r) n p.length = l k (p ++ x' :: r) n' ((p.length : Int) + 1))
      ∧ (∀ k p r, p.length + r.length + 1 ≤ 1000000 → lh (k + 1) (p ++ x' :: r) n p.length = lh k (p ++ x' :: r) n' ((p.length : Int) + 1)))
    (a : List α) (ha : Lm Q a) (n : Int) (h0 : 0 ≤ n) (h1 : n + (1000000 * C : Nat) ≤ K) (k kh : Nat) (hk : 1000000 < k) (hkh : 1000000 < kh) :
    ∃ n' a', l k a n 0 = some (n', a') ∧ lh kh a' n 0 = some n' ∧ n ≤ n' ∧ n' ≤ n + (1000000 * C : Nat) := by
  have key : ∀ (r p : List α) (k : Nat) (n : Int), p.length + r.length ≤ 1000000 → (∀ x ∈ r, Q x) → 0 ≤ n → n + ((r.length * C : Nat) : Int) ≤ K → r.length < k →
      ∃ n' r', l k (p ++ r) n p.length = some (n', p ++ r') ∧ r'.length = r.length ∧ n ≤ n' ∧ n' ≤ n + ((r.length * C : Nat) : Int) ∧ (∀ (q : List α) kh, q.length = p.length → r.length < kh → lh kh (q ++ r') n q.length = some n') := by
    intro r
    induction r with
    | nil =>
      intro p k n _ _ h0 _ hk
      obtain ⟨k, rfl⟩ : ∃ j, k = j + 1 := ⟨k - 1, by omega⟩
      refine ⟨n, [], by rw [List.append_nil]; exact he k p n, rfl, by omega, by simp, fun q kh _ hkh => ?_⟩
      obtain ⟨kh, rfl⟩ : ∃ j, kh = j + 1 := ⟨kh - 1, by simp at hkh; omega⟩
      rw [List.append_nil]; exact heh kh q n
    | cons x r ih =>
      intro p k n hb hq h0 hK hk
      simp only [List.length_cons] at hk hb hK
      obtain ⟨k, rfl⟩ : ∃ j, k = j + 1 := ⟨k - 1, by omega⟩
      have hm : (r.length + 1) * C = r.length * C + C := by rw [Nat.add_mul, Nat.one_mul]
      rw [hm] at hK
      obtain ⟨x', n1, a1, a2, a3, a4⟩ := hs x (hq x (by simp)) n h0 (by omega)
      rw [a3 k p r (by omega)]
      obtain ⟨n', r', b1, b2, b3, b4, b5⟩ := ih (p ++ [x']) k n1 (by simp; omega) (fun y hy => hq y (by simp [hy])) (by omega) (by omega) (by omega)
      rw [mid_snoc, snoc_len] at b1
      refine ⟨n', x' :: r', by rw [b1]; simp, by simp [b2], by omega, by simp only [List.length_cons]; rw [hm]; omega, fun q kh hq' hkh => ?_⟩
      simp only [List.length_cons] at hkh
      obtain ⟨kh, rfl⟩ : ∃ j, kh = j + 1 := ⟨kh - 1, by omega⟩
      rw [a4 kh q r' (by omega)]
      have := b5 (q ++ [x']) kh (by simp [hq']) (by omega)
      rw [mid_snoc, snoc_len] at this
      exact this
  have hle : ((a.length * C : Nat) : Int) ≤ ((1000000 * C : Nat) : Int) := Int.ofNat_le.2 (Nat.mul_le_mul_right _ ha.1)
  obtain ⟨n', r', b1, b2, b3, b4, b5⟩ := key a [] k n (by simpa using ha.1) ha.2 h0 (by omega) (by have := ha.1; omega)
  have := b5 [] kh rfl (by have := ha.1; omega)
  exact ⟨n', r', by simpa using b1, by simpa using this, b3, by omega⟩
theorem mem_mid {α : Type} {a p r : List α} {x : α} (h : a = p ++ x :: r) : x ∈ a := by rw [h]; simp
end Go.Pl

/- Loops of a few sorts, and what they come to. -/
namespace Go.Pl
open Go.Ev
set_option linter.unusedVariables false

/-- false at the first element that fails -/
theorem all_loop {α : Type} {E : α → Prop} (P : α → Bool) (fin : List α → Option Bool) (l : Nat → List α → Int → Option Bool)
    (hn : ∀ k p, l (k + 1) p p.length = fin p)
    (hc : ∀ k p a r, E a → (0 : Int) ≤ (p.length : Int) → (p.length : Int) < ((p ++ a :: r).length : Int) → IntKind.i64.wrap ((p.length : Int) + 1) = (p.length : Int) + 1 → l (k + 1) (p ++ a :: r) p.length = if P a = true then l k (p ++ a :: r) ((p.length : Int) + 1) else some false)
    (xs : List α) (hE : ∀ x ∈ xs, E x) (hB : xs.length ≤ 140737488355328) (k : Nat) (hk : xs.length < k) : l k xs 0 = if xs.all P = true then fin xs else some false := by
  have key : ∀ (r p : List α) (k : Nat), p.length + r.length ≤ 140737488355328 → (∀ x ∈ r, E x) → r.length < k → l k (p ++ r) p.length = if r.all P = true then fin (p ++ r) else some false := by
    intro r
    induction r with
    | nil =>
      intro p k _ _ hk
      obtain ⟨k, rfl⟩ : ∃ j, k = j + 1 := ⟨k - 1, by omega⟩
      rw [List.append_nil, hn]; simp
    | cons a r ih =>
      intro p k hb he hk
      simp only [List.length_cons] at hk hb
      obtain ⟨k, rfl⟩ : ∃ j, k = j + 1 := ⟨k - 1, by omega⟩
      have hm := mid_len p r a
      rw [hc k p a r (he a (by simp)) (by omega) (by omega) (w64 (by omega) (by omega))]
      have := ih (p ++ [a]) k (by simp; omega) (fun y hy => he y (by simp [hy])) (by omega)
      rw [mid_snoc, snoc_len] at this
      rw [this]
      cases h : P a <;> simp [h]
  have := key xs [] k (by simpa using hB) hE hk
  simpa using this
/-- the same over a string's bytes -/
theorem all_loop_str (P : UInt8 → Bool) (fin : ByteArray → Option Bool) (l : Nat → ByteArray → Int → Option Bool)
    (hn : ∀ k p, l (k + 1) (ob p) p.length = fin (ob p))
    (hc : ∀ k p a r, (0 : Int) ≤ (p.length : Int) → (p.length : Int) < ((ob (p ++ a :: r)).size : Int) → IntKind.i64.wrap ((p.length : Int) + 1) = (p.length : Int) + 1 → l (k + 1) (ob (p ++ a :: r)) p.length = if P a = true then l k (ob (p ++ a :: r)) ((p.length : Int) + 1) else some false)
    (s : ByteArray) (hB : s.size ≤ 140737488355328) (k : Nat) (hk : s.size < k) : l k s 0 = if (bl s).all P = true then fin s else some false := by
  have := all_loop (E := fun _ => True) P (fun x => fin (ob x)) (fun k x i => l k (ob x) i) hn (fun k p a r _ h1 h2 h3 => hc k p a r h1 (by rw [ob_size]; exact h2) h3) (bl s) (fun _ _ => trivial) (by rw [bl_length]; exact hB) k (by rw [bl_length]; exact hk)
  rw [ob_bl] at this
  exact this

def foldi {α σ : Type} (f : Nat → σ → α → σ) : Nat → σ → List α → σ
  | _, st, [] => st
  | i, st, a :: r => foldi f (i + 1) (f i st a) r
theorem foldi_foldl {α σ : Type} (f : σ → α → σ) : ∀ (xs : List α) (i : Nat) (st : σ), foldi (fun _ => f) i st xs = xs.foldl f st := by
  intro xs
  induction xs with
  | nil => intro i st; rfl
  | cons a r ih => intro i st; exact ih _ _
theorem foldi_append {α σ : Type} (f : Nat → σ → α → σ) : ∀ (xs ys : List α) (i : Nat) (st : σ), foldi f i st (xs ++ ys) = foldi f (i + xs.length) (foldi f i st xs) ys := by
  intro xs
  induction xs with
  | nil => intro ys i st; rfl
  | cons a r ih => intro ys i st; simp only [List.cons_append, foldi, List.length_cons]; rw [ih, show i + 1 + r.length = i + (r.length + 1) by omega]
/-- a state that goes from element to element; I: what holds of it behind a part of the row -/
theorem fold_loop {α σ ρ : Type} {E : α → Prop} (I : List α → σ → Prop) (f : Nat → σ → α → σ) (fin : List α → σ → Option ρ) (l : Nat → List α → Int → σ → Option ρ)
    (hn : ∀ k p st, I p st → l (k + 1) p p.length st = fin p st)
    (hc : ∀ k p a r st, E a → I p st → (0 : Int) ≤ (p.length : Int) → (p.length : Int) < ((p ++ a :: r).length : Int) → p.length < 140737488355328 → IntKind.i64.wrap ((p.length : Int) + 1) = (p.length : Int) + 1 →
      I (p ++ [a]) (f p.length st a) ∧ l (k + 1) (p ++ a :: r) p.length st = l k (p ++ a :: r) ((p.length : Int) + 1) (f p.length st a))
    (xs : List α) (st : σ) (hE : ∀ x ∈ xs, E x) (hI : I [] st) (hB : xs.length ≤ 140737488355328) (k : Nat) (hk : xs.length < k) :
    I xs (foldi f 0 st xs) ∧ l k xs 0 st = fin xs (foldi f 0 st xs) := by
  have key : ∀ (r p : List α) (k : Nat) (st : σ), p.length + r.length ≤ 140737488355328 → (∀ x ∈ r, E x) → I p st → r.length < k → I (p ++ r) (foldi f p.length st r) ∧ l k (p ++ r) p.length st = fin (p ++ r) (foldi f p.length st r) := by
    intro r
    induction r with
    | nil =>
      intro p k st _ _ hI hk
      obtain ⟨k, rfl⟩ : ∃ j, k = j + 1 := ⟨k - 1, by omega⟩
      rw [List.append_nil]; exact ⟨hI, hn k p st hI⟩
    | cons a r ih =>
      intro p k st hb he hI hk
      simp only [List.length_cons] at hk hb
      obtain ⟨k, rfl⟩ : ∃ j, k = j + 1 := ⟨k - 1, by omega⟩
      have hm := mid_len p r a
      obtain ⟨h1, h2⟩ := hc k p a r st (he a (by simp)) hI (by omega) (by omega) (by omega) (w64 (by omega) (by omega))
      have := ih (p ++ [a]) k (f p.length st a) (by simp; omega) (fun y hy => he y (by simp [hy])) h1 (by omega)
      rw [mid_snoc, snoc_len] at this
      rw [h2]
      simpa [foldi] using this
  have := key xs [] k st (by simpa using hB) hE hI hk
  simpa using this
/-- the same over a string's bytes -/
theorem fold_loop_str {σ ρ : Type} (I : List UInt8 → σ → Prop) (f : Nat → σ → UInt8 → σ) (fin : ByteArray → σ → Option ρ) (l : Nat → ByteArray → Int → σ → Option ρ)
    (hn : ∀ k p st, I p st → l (k + 1) (ob p) p.length st = fin (ob p) st)
    (hc : ∀ k p a r st, I p st → (0 : Int) ≤ (p.length : Int) → (p.length : Int) < ((ob (p ++ a :: r)).size : Int) → p.length < 140737488355328 → IntKind.i64.wrap ((p.length : Int) + 1) = (p.length : Int) + 1 →
      I (p ++ [a]) (f p.length st a) ∧ l (k + 1) (ob (p ++ a :: r)) p.length st = l k (ob (p ++ a :: r)) ((p.length : Int) + 1) (f p.length st a))
    (s : ByteArray) (st : σ) (hI : I [] st) (hB : s.size ≤ 140737488355328) (k : Nat) (hk : s.size < k) :
    I (bl s) (foldi f 0 st (bl s)) ∧ l k s 0 st = fin s (foldi f 0 st (bl s)) := by
  have := fold_loop (E := fun _ => True) I f (fun x => fin (ob x)) (fun k x i st => l k (ob x) i st) hn (fun k p a r st _ hI h1 h2 h3 h4 => hc k p a r st hI h1 (by rw [ob_size]; exact h2) h3 h4) (bl s) st (fun _ _ => trivial) hI (by rw [bl_length]; exact hB) k (by rw [bl_length]; exact hk)
  rw [ob_bl] at this
  exact this
/-- fold_loop, of one row: the rounds may look at it as a whole -/
theorem fold_fix {α σ ρ : Type} {E : α → Prop} (I : List α → σ → Prop) (f : Nat → σ → α → σ) (fin : σ → Option ρ) (l : Nat → Int → σ → Option ρ) (xs : List α)
    (hn : ∀ k st, I xs st → l (k + 1) xs.length st = fin st)
    (hc : ∀ k p a r st, xs = p ++ a :: r → E a → I p st → (0 : Int) ≤ (p.length : Int) → (p.length : Int) < (xs.length : Int) → p.length < 140737488355328 → IntKind.i64.wrap ((p.length : Int) + 1) = (p.length : Int) + 1 → (∀ z, xs.getD p.length z = a) →
      I (p ++ [a]) (f p.length st a) ∧ l (k + 1) p.length st = l k ((p.length : Int) + 1) (f p.length st a))
    (st : σ) (hE : ∀ x ∈ xs, E x) (hI : I [] st) (hB : xs.length ≤ 140737488355328) (k : Nat) (hk : xs.length < k) :
    I xs (foldi f 0 st xs) ∧ l k 0 st = fin (foldi f 0 st xs) := by
  have key : ∀ (r p : List α) (k : Nat) (st : σ), xs = p ++ r → (∀ x ∈ r, E x) → I p st → r.length < k → I xs (foldi f p.length st r) ∧ l k p.length st = fin (foldi f p.length st r) := by
    intro r
    induction r with
    | nil =>
      intro p k st hx _ hI hk
      obtain ⟨k, rfl⟩ : ∃ j, k = j + 1 := ⟨k - 1, by omega⟩
      rw [List.append_nil] at hx
      subst hx; exact ⟨hI, hn k st hI⟩
    | cons a r ih =>
      intro p k st hx he hI hk
      simp only [List.length_cons] at hk
      obtain ⟨k, rfl⟩ : ∃ j, k = j + 1 := ⟨k - 1, by omega⟩
      have hm := mid_len p r a
      have hxl : (xs.length : Int) = ((p ++ a :: r).length : Int) := by rw [hx]
      obtain ⟨h1, h2⟩ := hc k p a r st hx (he a (by simp)) hI (by omega) (by omega) (by omega) (w64 (by omega) (by omega)) (fun z => by rw [hx, mid_getn])
      have := ih (p ++ [a]) k (f p.length st a) (by rw [hx]; simp) (fun y hy => he y (by simp [hy])) h1 (by omega)
      rw [snoc_len] at this
      rw [h2]
      simpa [foldi] using this
  have := key xs [] k st (by simp) hE hI hk
  simpa using this
/-- the first element that is looked for, and its number -/
def firstOf {α : Type} (P : α → Bool) : Nat → List α → Option (Nat × α)
  | _, [] => none
  | i, a :: r => if P a = true then some (i, a) else firstOf P (i + 1) r
theorem find_loop {α ρ : Type} {E : α → Prop} (P : α → Bool) (hit : Nat → α → Option ρ) (fin : List α → Option ρ) (l : Nat → List α → Int → Option ρ)
    (hn : ∀ k p, l (k + 1) p p.length = fin p)
    (hc : ∀ k p a r, E a → (0 : Int) ≤ (p.length : Int) → (p.length : Int) < ((p ++ a :: r).length : Int) → p.length < 140737488355328 → IntKind.i64.wrap ((p.length : Int) + 1) = (p.length : Int) + 1 → l (k + 1) (p ++ a :: r) p.length = if P a = true then hit p.length a else l k (p ++ a :: r) ((p.length : Int) + 1))
    (xs : List α) (hE : ∀ x ∈ xs, E x) (hB : xs.length ≤ 140737488355328) (k : Nat) (hk : xs.length < k) : l k xs 0 = (firstOf P 0 xs).elim (fin xs) (fun x => hit x.1 x.2) := by
  have key : ∀ (r p : List α) (k : Nat), p.length + r.length ≤ 140737488355328 → (∀ x ∈ r, E x) → r.length < k → l k (p ++ r) p.length = (firstOf P p.length r).elim (fin (p ++ r)) (fun x => hit x.1 x.2) := by
    intro r
    induction r with
    | nil =>
      intro p k _ _ hk
      obtain ⟨k, rfl⟩ : ∃ j, k = j + 1 := ⟨k - 1, by omega⟩
      rw [List.append_nil, hn]; rfl
    | cons a r ih =>
      intro p k hb he hk
      simp only [List.length_cons] at hk hb
      obtain ⟨k, rfl⟩ : ∃ j, k = j + 1 := ⟨k - 1, by omega⟩
      have hm := mid_len p r a
      rw [hc k p a r (he a (by simp)) (by omega) (by omega) (by omega) (w64 (by omega) (by omega))]
      have := ih (p ++ [a]) k (by simp; omega) (fun y hy => he y (by simp [hy])) (by omega)
      rw [mid_snoc, snoc_len] at this
      rw [this]
      cases h : P a <;> simp [h, firstOf]
  have := key xs [] k (by simpa using hB) hE hk
  simpa using this
end Go.Pl

namespace Go.Pl
open Go.Ev
set_option linter.unusedVariables false
set_option linter.unusedSimpArgs false
def inB (n lo hi : Int) : Bool := decide (lo ≤ n) && decide (n ≤ hi)
theorem inB_iff {n lo hi : Int} : inB n lo hi = true ↔ lo ≤ n ∧ n ≤ hi := by unfold inB; simp
theorem impl_within_f (n lo hi : Int) : impl_within.f n lo hi = some (inB n lo hi) := by
  unfold impl_within.f impl_within.fn impl_within.top inB
  by_cases h : lo ≤ n <;> simp [h]
theorem spec_l01In_f (n lo hi : Int) : spec_l01In.f n lo hi = some (inB n lo hi) := by
  unfold spec_l01In.f spec_l01In.fn spec_l01In.top inB
  by_cases h : lo ≤ n <;> simp [h]
/-- a letter -/
def letB (c : UInt8) : Bool := !(decide ((c.toNat : Int) < 97)) && !(decide (122 < (c.toNat : Int)))
def wordB (s : ByteArray) : Bool := decide (1 ≤ s.size) && decide (s.size ≤ 16) && (bl s).all letB
theorem wordB_size {s : ByteArray} (h : wordB s = true) : 1 ≤ s.size ∧ s.size ≤ 16 := by
  unfold wordB at h; simp at h; exact h.1
theorem impl_IsWord_loop (s : ByteArray) (h : s.size ≤ 140737488355328) : impl_IsWord.l4 NN NN s 0 = if (bl s).all letB = true then some true else some false := by
  refine all_loop_str letB (fun s => some true) (fun k s i => impl_IsWord.l4 NN k s i) ?_ ?_ s h NN (NN_lt (by omega))
  · intro k p
    show impl_IsWord.g4 _ (ob p) p.length = _
    simp [impl_IsWord.g4, ob_size, spec_l01In_f]
  · intro k p a r c0 c1 cw
    show impl_IsWord.g4 (impl_IsWord.l4 NN k) (ob (p ++ a :: r)) p.length = _
    simp only [impl_IsWord.g4, c0, c1, cw, and_self, and_true, true_and, decide_true, decide_false, if_true, if_false, mid_get, mid_set, mid_getn, mid_setn, bt_mid, Option.bind_some, Bool.not_true, Bool.not_false, Bool.false_eq_true, Bool.true_eq_false, beq_self_eq_true, bne_self_eq_false, Int.toNat_natCast]
    unfold letB
    by_cases h1 : (a.toNat : Int) < 97 <;> by_cases h2 : (122 : Int) < (a.toNat : Int) <;> simp [h1, h2]
theorem spec_IsWord_loop (s : ByteArray) (h : s.size ≤ 140737488355328) : spec_IsWord.l2 NN NN s 0 = if (bl s).all letB = true then some (inB s.size 1 16) else some false := by
  refine all_loop_str letB (fun s => some (inB s.size 1 16)) (fun k s i => spec_IsWord.l2 NN k s i) ?_ ?_ s h NN (NN_lt (by omega))
  · intro k p
    show spec_IsWord.g2 _ (ob p) p.length = _
    simp [spec_IsWord.g2, ob_size, spec_l01In_f]
  · intro k p a r c0 c1 cw
    show spec_IsWord.g2 (spec_IsWord.l2 NN k) (ob (p ++ a :: r)) p.length = _
    simp only [spec_IsWord.g2, c0, c1, cw, and_self, and_true, true_and, decide_true, decide_false, if_true, if_false, mid_get, mid_set, mid_getn, mid_setn, bt_mid, Option.bind_some, Bool.not_true, Bool.not_false, Bool.false_eq_true, Bool.true_eq_false, beq_self_eq_true, bne_self_eq_false, Int.toNat_natCast]
    unfold letB
    by_cases h1 : (a.toNat : Int) < 97 <;> by_cases h2 : (122 : Int) < (a.toNat : Int) <;> simp [h1, h2]
theorem impl_IsWord_f (s : ByteArray) (h : s.size ≤ 140737488355328) : impl_IsWord.f s = some (wordB s) := by
  unfold impl_IsWord.f impl_IsWord.fn impl_IsWord.top
  rw [impl_IsWord_loop s h]
  unfold wordB
  by_cases h1 : (s.size : Int) < 1
  · have : ¬ 1 ≤ s.size := by omega
    simp [h1, this]
  · have e1 : 1 ≤ s.size := by omega
    by_cases h2 : (16 : Int) < s.size
    · have : ¬ s.size ≤ 16 := by omega
      simp [h1, h2, this]
    · have : s.size ≤ 16 := by omega
      cases h3 : (bl s).all letB <;> simp [h1, h2, this, h3, e1]
theorem spec_IsWord_f (s : ByteArray) (h : s.size ≤ 140737488355328) : spec_IsWord.f s = some (wordB s) := by
  unfold spec_IsWord.f spec_IsWord.fn spec_IsWord.top
  rw [spec_IsWord_loop s h]
  unfold wordB inB
  have e1 : decide ((1 : Int) ≤ s.size) = decide (1 ≤ s.size) := by congr 1; simp; omega
  have e2 : decide ((s.size : Int) ≤ 16) = decide (s.size ≤ 16) := by congr 1; simp; omega
  rw [e1, e2]
  cases h3 : (bl s).all letB <;> simp
end Go.Pl

namespace Go.Pl
open Go.Ev
set_option linter.unusedVariables false
set_option linter.unusedSimpArgs false
def PlRatio (x : Int × Int) : Prop := Rg .i64 x.1 ∧ Rg .i64 x.2
def OkRatio (x : Int × Int) : Prop := Rg .i64 x.1 ∧ Rg .i64 x.2
def PlArticle (x : ByteArray × Int × Int × Int × Int × Int × Int × Int × Int) : Prop := Sz x.1 ∧ Rg .i64 x.2.1 ∧ Rg .i64 x.2.2.1 ∧ Rg .i64 x.2.2.2.1 ∧ Rg .i64 x.2.2.2.2.1 ∧ Rg .i64 x.2.2.2.2.2.1 ∧ Rg .i64 x.2.2.2.2.2.2.1 ∧ Rg .i64 x.2.2.2.2.2.2.2.1 ∧ Rg .i64 x.2.2.2.2.2.2.2.2
def OkArticle (x : ByteArray × Int × Int × Int × Int × Int × Int × Int × Int) : Prop := Sm x.1 ∧ Rg .i64 x.2.1 ∧ Rg .i64 x.2.2.1 ∧ Rg .i64 x.2.2.2.1 ∧ Rg .i64 x.2.2.2.2.1 ∧ Rg .i64 x.2.2.2.2.2.1 ∧ Rg .i64 x.2.2.2.2.2.2.1 ∧ Rg .i64 x.2.2.2.2.2.2.2.1 ∧ Rg .i64 x.2.2.2.2.2.2.2.2
def PlLayer (x : Int × Int × Int) : Prop := Rg .i64 x.1 ∧ Rg .i64 x.2.1 ∧ Rg .i64 x.2.2
def OkLayer (x : Int × Int × Int) : Prop := Rg .i64 x.1 ∧ Rg .i64 x.2.1 ∧ Rg .i64 x.2.2
def PlShot (x : Int × Int × Int × Int) : Prop := Rg .i64 x.1 ∧ Rg .i64 x.2.1 ∧ Rg .i64 x.2.2.1 ∧ Rg .i64 x.2.2.2
def OkShot (x : Int × Int × Int × Int) : Prop := Rg .i64 x.1 ∧ Rg .i64 x.2.1 ∧ Rg .i64 x.2.2.1 ∧ Rg .i64 x.2.2.2
def PlBar (x : Int × Int) : Prop := Rg .i64 x.1 ∧ Rg .i64 x.2
def OkBar (x : Int × Int) : Prop := Rg .i64 x.1 ∧ Rg .i64 x.2
def PlCue (x : Int × Int × ByteArray × Int) : Prop := Rg .i64 x.1 ∧ Rg .i64 x.2.1 ∧ Sz x.2.2.1 ∧ Rg .i64 x.2.2.2
def OkCue (x : Int × Int × ByteArray × Int) : Prop := Rg .i64 x.1 ∧ Rg .i64 x.2.1 ∧ Sm x.2.2.1 ∧ Rg .i64 x.2.2.2
def PlShow (x : (List (Int × Int)) × (List (ByteArray × Int × Int × Int × Int × Int × Int × Int × Int)) × (List (Int × Int × ByteArray × Int))) : Prop := Ls PlBar x.1 ∧ Ls PlArticle x.2.1 ∧ Ls PlCue x.2.2
def OkShow (x : (List (Int × Int)) × (List (ByteArray × Int × Int × Int × Int × Int × Int × Int × Int)) × (List (Int × Int × ByteArray × Int))) : Prop := Lm OkBar x.1 ∧ Lm OkArticle x.2.1 ∧ Lm OkCue x.2.2
def PlFuse (x : Int × Int × Int × Int) : Prop := Rg .i64 x.1 ∧ Rg .i64 x.2.1 ∧ Rg .i64 x.2.2.1 ∧ Rg .i64 x.2.2.2
def OkFuse (x : Int × Int × Int × Int) : Prop := Rg .i64 x.1 ∧ Rg .i64 x.2.1 ∧ Rg .i64 x.2.2.1 ∧ Rg .i64 x.2.2.2
def PlLink (x : Int × Int) : Prop := Rg .i64 x.1 ∧ Rg .i64 x.2
def OkLink (x : Int × Int) : Prop := Rg .i64 x.1 ∧ Rg .i64 x.2
def PlModule (x : Int × Int) : Prop := Rg .i64 x.1 ∧ Rg .i64 x.2
def OkModule (x : Int × Int) : Prop := Rg .i64 x.1 ∧ Rg .i64 x.2
def PlWire (x : Int × Int × Int) : Prop := Rg .i64 x.1 ∧ Rg .i64 x.2.1 ∧ Rg .i64 x.2.2
def OkWire (x : Int × Int × Int) : Prop := Rg .i64 x.1 ∧ Rg .i64 x.2.1 ∧ Rg .i64 x.2.2
def PlCircuit (x : Int × List Int) : Prop := Rg .i64 x.1 ∧ Ls (Rg .i64) x.2
def OkCircuit (x : Int × List Int) : Prop := Rg .i64 x.1 ∧ Lm (Rg .i64) x.2
def PlArea (x : Int × Int × Int × Int × Int) : Prop := Rg .i64 x.1 ∧ Rg .i64 x.2.1 ∧ Rg .i64 x.2.2.1 ∧ Rg .i64 x.2.2.2.1 ∧ Rg .i64 x.2.2.2.2
def OkArea (x : Int × Int × Int × Int × Int) : Prop := Rg .i64 x.1 ∧ Rg .i64 x.2.1 ∧ Rg .i64 x.2.2.1 ∧ Rg .i64 x.2.2.2.1 ∧ Rg .i64 x.2.2.2.2
def PlDemand (x : Int × Int × Int) : Prop := Rg .i64 x.1 ∧ Rg .i64 x.2.1 ∧ Rg .i64 x.2.2
def OkDemand (x : Int × Int × Int) : Prop := Rg .i64 x.1 ∧ Rg .i64 x.2.1 ∧ Rg .i64 x.2.2
def PlRack (x : Int × Int × List Int × List ByteArray) : Prop := Rg .i64 x.1 ∧ Rg .i64 x.2.1 ∧ Ls (Rg .i64) x.2.2.1 ∧ Ls Sz x.2.2.2
def OkRack (x : Int × Int × List Int × List ByteArray) : Prop := Rg .i64 x.1 ∧ Rg .i64 x.2.1 ∧ Lm (Rg .i64) x.2.2.1 ∧ Lm Sm x.2.2.2
def PlField (x : (List (Int × Int × Int)) × (List (Int × Int × Int × Int × Int)) × List Int × List Int × List Int × Int) : Prop := Ls PlDemand x.1 ∧ Ls PlArea x.2.1 ∧ Ls (Rg .i64) x.2.2.1 ∧ Ls (Rg .i64) x.2.2.2.1 ∧ Ls (Rg .i64) x.2.2.2.2.1 ∧ Rg .i64 x.2.2.2.2.2
def OkField (x : (List (Int × Int × Int)) × (List (Int × Int × Int × Int × Int)) × List Int × List Int × List Int × Int) : Prop := Lm OkDemand x.1 ∧ Lm OkArea x.2.1 ∧ Lm (Rg .i64) x.2.2.1 ∧ Lm (Rg .i64) x.2.2.2.1 ∧ Lm (Rg .i64) x.2.2.2.2.1 ∧ Rg .i64 x.2.2.2.2.2
def PlMove (x : Int × ByteArray × Int) : Prop := Rg .i64 x.1 ∧ Sz x.2.1 ∧ Rg .i64 x.2.2
def OkMove (x : Int × ByteArray × Int) : Prop := Rg .i64 x.1 ∧ Sm x.2.1 ∧ Rg .i64 x.2.2
def PlController (x : Bool × Bool × Bool × Bool × Bool × Int) : Prop := True ∧ True ∧ True ∧ True ∧ True ∧ Rg .i64 x.2.2.2.2.2
def OkController (x : Bool × Bool × Bool × Bool × Bool × Int) : Prop := True ∧ True ∧ True ∧ True ∧ True ∧ Rg .i64 x.2.2.2.2.2
def PlSignal (x : Int × Int) : Prop := Rg .i64 x.1 ∧ Rg .i64 x.2
def OkSignal (x : Int × Int) : Prop := Rg .i64 x.1 ∧ Rg .i64 x.2
def PlTry (x : Int × Int × Bool) : Prop := Rg .i64 x.1 ∧ Rg .i64 x.2.1 ∧ True
def OkTry (x : Int × Int × Bool) : Prop := Rg .i64 x.1 ∧ Rg .i64 x.2.1 ∧ True
def PlMagazine (x : Int × List Int) : Prop := Rg .i64 x.1 ∧ Ls (Rg .i64) x.2
def OkMagazine (x : Int × List Int) : Prop := Rg .i64 x.1 ∧ Lm (Rg .i64) x.2
def PlDepot (x : Int × Int × Int) : Prop := Rg .i64 x.1 ∧ Rg .i64 x.2.1 ∧ Rg .i64 x.2.2
def OkDepot (x : Int × Int × Int) : Prop := Rg .i64 x.1 ∧ Rg .i64 x.2.1 ∧ Rg .i64 x.2.2
def PlBox (x : Int × Int) : Prop := Rg .i64 x.1 ∧ Rg .i64 x.2
def OkBox (x : Int × Int) : Prop := Rg .i64 x.1 ∧ Rg .i64 x.2
def PlLine (x : ByteArray × Int) : Prop := Sz x.1 ∧ Rg .i64 x.2
def OkLine (x : ByteArray × Int) : Prop := Sm x.1 ∧ Rg .i64 x.2
def PlPaper (x : ByteArray × Int × (List (ByteArray × Int))) : Prop := Sz x.1 ∧ Rg .i64 x.2.1 ∧ Ls PlLine x.2.2
def OkPaper (x : ByteArray × Int × (List (ByteArray × Int))) : Prop := Sm x.1 ∧ Rg .i64 x.2.1 ∧ Lm OkLine x.2.2
def PlPermit (x : Int × Int × Int × Int × List Int × Int) : Prop := Rg .i64 x.1 ∧ Rg .i64 x.2.1 ∧ Rg .i64 x.2.2.1 ∧ Rg .i64 x.2.2.2.1 ∧ Ls (Rg .i64) x.2.2.2.2.1 ∧ Rg .i64 x.2.2.2.2.2
def OkPermit (x : Int × Int × Int × Int × List Int × Int) : Prop := Rg .i64 x.1 ∧ Rg .i64 x.2.1 ∧ Rg .i64 x.2.2.1 ∧ Rg .i64 x.2.2.2.1 ∧ Lm (Rg .i64) x.2.2.2.2.1 ∧ Rg .i64 x.2.2.2.2.2
def PlGrid (x : Int × Int × List Bool) : Prop := Rg .i64 x.1 ∧ Rg .i64 x.2.1 ∧ Ls (fun _ => True) x.2.2
def OkGrid (x : Int × Int × List Bool) : Prop := Rg .i64 x.1 ∧ Rg .i64 x.2.1 ∧ Lm (fun _ => True) x.2.2
def PlBooking (x : Int × ByteArray × Int) : Prop := Rg .i64 x.1 ∧ Sz x.2.1 ∧ Rg .i64 x.2.2
def OkBooking (x : Int × ByteArray × Int) : Prop := Rg .i64 x.1 ∧ Sm x.2.1 ∧ Rg .i64 x.2.2
def PlEntry (x : Int × ByteArray) : Prop := Rg .u8 x.1 ∧ Sz x.2
def OkEntry (x : Int × ByteArray) : Prop := Rg .u8 x.1 ∧ Sm x.2
def PlDesk (x : (List (Int × ByteArray × Int)) × (List (Int × Int)) × (List (Int × ByteArray × Int))) : Prop := Ls PlMove x.1 ∧ Ls PlSignal x.2.1 ∧ Ls PlBooking x.2.2
def OkDesk (x : (List (Int × ByteArray × Int)) × (List (Int × Int)) × (List (Int × ByteArray × Int))) : Prop := Lm OkMove x.1 ∧ Lm OkSignal x.2.1 ∧ Lm OkBooking x.2.2
end Go.Pl

namespace Go.Pl
open Go.Ev
set_option linter.unusedVariables false
noncomputable section
def impl_isCalibre.top (n0 : Int) : Option Bool :=
  (impl_within.f n0 20 300).bind fun r1 =>
  some r1
def impl_isCalibre.fn (n : Nat) (n0 : Int) : Option Bool := impl_isCalibre.top n0
def impl_isCalibre.f (n0 : Int) : Option Bool := impl_isCalibre.fn NN n0
end
end Go.Pl

namespace Go.Pl
open Go.Ev
set_option linter.unusedVariables false
noncomputable section
def impl_allWithin.g2 (L2 : Int → Int → List Int → Int → Int → Option Bool) (low1 : Int) (high2 : Int) (v9 : List Int) (v10 : Int) (v11 : Int) : Option Bool :=
  if (decide ((v11 : Int) < v10)) = true then
    if (0 : Int) ≤ v11 ∧ (v11 : Int) < v9.length then
      (impl_within.f (v9.getD (v11 : Int).toNat 0) low1 high2).bind fun r1 =>
      if (!r1) = true then
        some false
      else
        L2 low1 high2 v9 v10 (IntKind.i64.wrap (v11 + 1))
    else
      none
  else
    some true
def impl_allWithin.l2 (n : Nat) : Nat → Int → Int → List Int → Int → Int → Option Bool
  | 0 => fun _ _ _ _ _ => none
  | k + 1 => impl_allWithin.g2 (impl_allWithin.l2 n k)
def impl_allWithin.top (I2 : Int → Int → List Int → Int → Int → Option Bool) (list0 : List Int) (low1 : Int) (high2 : Int) : Option Bool :=
  I2 low1 high2 list0 (list0.length : Int) 0
def impl_allWithin.fn (n : Nat) (list0 : List Int) (low1 : Int) (high2 : Int) : Option Bool := impl_allWithin.top (impl_allWithin.l2 n n) list0 low1 high2
def impl_allWithin.f (list0 : List Int) (low1 : Int) (high2 : Int) : Option Bool := impl_allWithin.fn NN list0 low1 high2
end
end Go.Pl

namespace Go.Pl
open Go.Ev
set_option linter.unusedVariables false
noncomputable section
def impl_IsPermit.g4 (L4 : Int → (Int × Int × Int × Int × List Int × Int) → Option Bool) (i3 : Int) (p1 : Int × Int × Int × Int × List Int × Int) : Option Bool :=
  if (decide ((i3 : Int) < (p1.2.2.2.2.1.length : Int))) = true then
    if (0 : Int) ≤ (IntKind.i64.wrap (i3 - 1)) ∧ ((IntKind.i64.wrap (i3 - 1)) : Int) < p1.2.2.2.2.1.length then
      if (0 : Int) ≤ i3 ∧ (i3 : Int) < p1.2.2.2.2.1.length then
        if (decide (((p1.2.2.2.2.1.getD (i3 : Int).toNat 0) : Int) ≤ (p1.2.2.2.2.1.getD ((IntKind.i64.wrap (i3 - 1)) : Int).toNat 0))) = true then
          some false
        else
          L4 (IntKind.i64.wrap (i3 + 1)) p1
      else
        none
    else
      none
  else
    some true
def impl_IsPermit.l4 (n : Nat) : Nat → Int → (Int × Int × Int × Int × List Int × Int) → Option Bool
  | 0 => fun _ _ => none
  | k + 1 => impl_IsPermit.g4 (impl_IsPermit.l4 n k)
def impl_IsPermit.top (I4 : Int → (Int × Int × Int × Int × List Int × Int) → Option Bool) (p0 : Int × Int × Int × Int × List Int × Int) : Option Bool :=
  (impl_isDay.f p0.1).bind fun r1 =>
  if (!r1) = false then
    (impl_isDay.f p0.2.1).bind fun r2 =>
    if (!r2) = false then
      if (decide ((p0.2.1 : Int) < p0.1)) = false then
        (impl_within.f p0.2.2.1 0 1000000000).bind fun r3 =>
        if (!r3) = false then
          (impl_isCalibre.f p0.2.2.2.1).bind fun r4 =>
          if (!r4) = false then
            (impl_within.f p0.2.2.2.2.2 0 3).bind fun r5 =>
            if (!r5) = false then
              (impl_allWithin.f p0.2.2.2.2.1 0 3).bind fun r6 =>
              if (!r6) = true then
                some false
              else
                I4 1 p0
            else
              some false
          else
            some false
        else
          some false
      else
        some false
    else
      some false
  else
    some false
def impl_IsPermit.fn (n : Nat) (p0 : Int × Int × Int × Int × List Int × Int) : Option Bool := impl_IsPermit.top (impl_IsPermit.l4 n n) p0
def impl_IsPermit.f (p0 : Int × Int × Int × Int × List Int × Int) : Option Bool := impl_IsPermit.fn NN p0
end
end Go.Pl

namespace Go.Pl
open Go.Ev
set_option linter.unusedVariables false
noncomputable section
def spec_l01Rises.g2 (L2 : List Int → Int → Int → Option Bool) (list0 : List Int) (n1 : Int) (i5 : Int) : Option Bool :=
  if (decide ((i5 : Int) < (list0.length : Int))) = true then
    if (0 : Int) ≤ i5 ∧ (i5 : Int) < list0.length then
      (spec_l01In.f (list0.getD (i5 : Int).toNat 0) 0 (IntKind.i64.wrap (n1 - 1))).bind fun r1 =>
      if (!r1) = false then
        if (decide ((0 : Int) < i5)) = true then
          if (0 : Int) ≤ i5 ∧ (i5 : Int) < list0.length then
            if (0 : Int) ≤ (IntKind.i64.wrap (i5 - 1)) ∧ ((IntKind.i64.wrap (i5 - 1)) : Int) < list0.length then
              if (decide (((list0.getD (i5 : Int).toNat 0) : Int) ≤ (list0.getD ((IntKind.i64.wrap (i5 - 1)) : Int).toNat 0))) = true then
                some false
              else
                L2 list0 n1 (IntKind.i64.wrap (i5 + 1))
            else
              none
          else
            none
        else
          L2 list0 n1 (IntKind.i64.wrap (i5 + 1))
      else
        some false
    else
      none
  else
    some true
def spec_l01Rises.l2 (n : Nat) : Nat → List Int → Int → Int → Option Bool
  | 0 => fun _ _ _ => none
  | k + 1 => spec_l01Rises.g2 (spec_l01Rises.l2 n k)
def spec_l01Rises.top (I2 : List Int → Int → Int → Option Bool) (list0 : List Int) (n1 : Int) : Option Bool :=
  I2 list0 n1 0
def spec_l01Rises.fn (n : Nat) (list0 : List Int) (n1 : Int) : Option Bool := spec_l01Rises.top (spec_l01Rises.l2 n n) list0 n1
def spec_l01Rises.f (list0 : List Int) (n1 : Int) : Option Bool := spec_l01Rises.fn NN list0 n1
end
end Go.Pl

namespace Go.Pl
open Go.Ev
set_option linter.unusedVariables false
noncomputable section
def spec_IsPermit.top (p0 : Int × Int × Int × Int × List Int × Int) : Option Bool :=
  (spec_l01In.f p0.1 0 100000).bind fun r1 =>
  if r1 = true then
    (spec_l01In.f p0.2.1 p0.1 100000).bind fun r2 =>
    if r2 = true then
      (spec_l01In.f p0.2.2.1 0 1000000000).bind fun r3 =>
      if r3 = true then
        (spec_l01In.f p0.2.2.2.1 20 300).bind fun r4 =>
        if r4 = true then
          (spec_l01Rises.f p0.2.2.2.2.1 4).bind fun r5 =>
          if r5 = true then
            (spec_l01In.f p0.2.2.2.2.2 0 3).bind fun r6 =>
            some r6
          else
            some false
        else
          some false
      else
        some false
    else
      some false
  else
    some false
def spec_IsPermit.fn (n : Nat) (p0 : Int × Int × Int × Int × List Int × Int) : Option Bool := spec_IsPermit.top p0
def spec_IsPermit.f (p0 : Int × Int × Int × Int × List Int × Int) : Option Bool := spec_IsPermit.fn NN p0
end
end Go.Pl

namespace Go.Pl
open Go.Ev
set_option linter.unusedVariables false
set_option linter.unusedSimpArgs false
theorem impl_isDay_f (n : Int) : impl_isDay.f n = some (inB n 0 100000) := by
  unfold impl_isDay.f impl_isDay.fn impl_isDay.top
  rw [impl_within_f]; rfl
theorem impl_isCalibre_f (n : Int) : impl_isCalibre.f n = some (inB n 20 300) := by
  unfold impl_isCalibre.f impl_isCalibre.fn impl_isCalibre.top
  rw [impl_within_f]; rfl
theorem impl_allWithin_f (xs : List Int) (lo hi : Int) (h : xs.length ≤ 140737488355328) : impl_allWithin.f xs lo hi = some (xs.all (inB · lo hi)) := by
  have := all_loop (E := fun _ => True) (inB · lo hi) (fun _ => some true) (fun k xs i => impl_allWithin.l2 NN k lo hi xs xs.length i) ?_ ?_ xs (fun _ _ => trivial) h NN (NN_lt (by omega))
  · unfold impl_allWithin.f impl_allWithin.fn impl_allWithin.top
    refine this.trans ?_
    cases xs.all (inB · lo hi) <;> simp
  · intro k p
    simp [impl_allWithin.l2, impl_allWithin.g2]
  · intro k p a r _ c0 c1 cw
    simp only [impl_allWithin.l2, impl_allWithin.g2, c0, c1, cw, and_self, and_true, true_and, decide_true, decide_false, if_true, if_false, mid_get, mid_set, mid_getn, mid_setn, bt_mid, Option.bind_some, Bool.not_true, Bool.not_false, Bool.false_eq_true, Bool.true_eq_false, beq_self_eq_true, bne_self_eq_false, Int.toNat_natCast, impl_within_f]
    cases inB a lo hi <;> simp
/-- strictly rising -/
def risB : List Int → Bool
  | [] => true
  | [_] => true
  | a :: b :: r => decide (a < b) && risB (b :: r)
theorem risB_snoc : ∀ (p : List Int) (a b : Int), risB (p ++ [a, b]) = (risB (p ++ [a]) && decide (a < b)) := by
  intro p
  induction p with
  | nil => intro a b; simp [risB]
  | cons x p ih =>
    intro a b
    cases p with
    | nil => simp [risB]
    | cons y p =>
      have := ih a b
      simp only [List.cons_append] at this ⊢
      simp only [risB, this, Bool.and_assoc]
/-- rises, looked at from its second element on -/
def risF : Int → List Int → Bool
  | _, [] => true
  | a, b :: r => decide (a < b) && risF b r
theorem risB_cons (a : Int) (r : List Int) : risB (a :: r) = risF a r := by
  induction r generalizing a with
  | nil => rfl
  | cons b r ih => simp only [risB, risF, ih]
theorem snoc_getl (p r : List Int) (x a z : Int) : (p ++ [x] ++ a :: r).getD p.length z = x := by simp
theorem impl_IsPermit_loop (f t n c g : Int) : ∀ (r p : List Int) (x : Int) (k : Nat), p.length + r.length + 1 ≤ 140737488355328 → r.length < k →
    impl_IsPermit.l4 NN k ((p.length : Int) + 1) (f, t, n, c, p ++ [x] ++ r, g) = some (risF x r) := by
  intro r
  induction r with
  | nil =>
    intro p x k _ hk
    obtain ⟨k, rfl⟩ : ∃ j, k = j + 1 := ⟨k - 1, by omega⟩
    simp [impl_IsPermit.l4, impl_IsPermit.g4, risF]
  | cons a r ih =>
    intro p x k hb hk
    simp only [List.length_cons] at hb hk
    obtain ⟨k, rfl⟩ : ∃ j, k = j + 1 := ⟨k - 1, by omega⟩
    have hl : ((p ++ [x] ++ a :: r).length : Int) = p.length + r.length + 2 := by simp; omega
    have w1 := w64 (n := (p.length : Int) + 1 - 1) (by omega) (by omega)
    have w2 := w64 (n := (p.length : Int) + 1 + 1) (by omega) (by omega)
    have c1 : (p.length : Int) + 1 < ((p ++ [x] ++ a :: r).length : Int) := by omega
    have c2 : (0 : Int) ≤ (p.length : Int) + 1 - 1 := by omega
    have c3 : (p.length : Int) + 1 - 1 < ((p ++ [x] ++ a :: r).length : Int) := by omega
    have c4 : (0 : Int) ≤ (p.length : Int) + 1 := by omega
    have g1 : (p ++ [x] ++ a :: r).getD ((p.length : Int) + 1).toNat 0 = a := by
      rw [show ((p.length : Int) + 1).toNat = (p ++ [x]).length by simp, mid_getn]
    have g2 : (p ++ [x] ++ a :: r).getD ((p.length : Int) + 1 - 1).toNat 0 = x := by
      rw [show ((p.length : Int) + 1 - 1).toNat = p.length by omega, snoc_getl]
    simp only [impl_IsPermit.l4, impl_IsPermit.g4, w1, w2, c1, c2, c3, c4, g1, g2, and_self, decide_true, if_true, decide_eq_true_eq, risF]
    have := ih (p ++ [x]) a k (by simp; omega) (by omega)
    by_cases h : a ≤ x
    · have h' : ¬ x < a := by omega
      simp [h, h']
    · have h' : x < a := by omega
      simp only [h, h', if_false, decide_true, Bool.true_and]
      rw [← this]
      simp
theorem spec_l01Rises_loop (n : Int) (hn : Rg .i64 (n - 1)) : ∀ (r p : List Int) (x : Int) (k : Nat), p.length + r.length + 1 ≤ 140737488355328 → r.length < k →
    spec_l01Rises.l2 NN k (p ++ [x] ++ r) n ((p.length : Int) + 1) = some (r.all (inB · 0 (n - 1)) && risF x r) := by
  intro r
  induction r with
  | nil =>
    intro p x k _ hk
    obtain ⟨k, rfl⟩ : ∃ j, k = j + 1 := ⟨k - 1, by omega⟩
    simp [spec_l01Rises.l2, spec_l01Rises.g2, risF]
  | cons a r ih =>
    intro p x k hb hk
    simp only [List.length_cons] at hb hk
    obtain ⟨k, rfl⟩ : ∃ j, k = j + 1 := ⟨k - 1, by omega⟩
    have hl : ((p ++ [x] ++ a :: r).length : Int) = p.length + r.length + 2 := by simp; omega
    have w1 := w64 (n := (p.length : Int) + 1 - 1) (by omega) (by omega)
    have w2 := w64 (n := (p.length : Int) + 1 + 1) (by omega) (by omega)
    have hn' := wf64.1 hn
    have w3 := w64 (n := n - 1) (by omega) (by omega)
    have c1 : (p.length : Int) + 1 < ((p ++ [x] ++ a :: r).length : Int) := by omega
    have c2 : (0 : Int) ≤ (p.length : Int) + 1 - 1 := by omega
    have c3 : (p.length : Int) + 1 - 1 < ((p ++ [x] ++ a :: r).length : Int) := by omega
    have c4 : (0 : Int) ≤ (p.length : Int) + 1 := by omega
    have c5 : (0 : Int) < (p.length : Int) + 1 := by omega
    have g1 : (p ++ [x] ++ a :: r).getD ((p.length : Int) + 1).toNat 0 = a := by
      rw [show ((p.length : Int) + 1).toNat = (p ++ [x]).length by simp, mid_getn]
    have g2 : (p ++ [x] ++ a :: r).getD ((p.length : Int) + 1 - 1).toNat 0 = x := by
      rw [show ((p.length : Int) + 1 - 1).toNat = p.length by omega, snoc_getl]
    simp only [spec_l01Rises.l2, spec_l01Rises.g2, w1, w2, w3, c1, c2, c3, c4, c5, g1, g2, and_self, decide_true, if_true, decide_eq_true_eq, risF, spec_l01In_f, Option.bind_some, List.all_cons]
    have := ih (p ++ [x]) a k (by simp; omega) (by omega)
    cases h0 : inB a 0 (n - 1)
    · simp
    by_cases h : a ≤ x
    · have h' : ¬ x < a := by omega
      simp [h, h']
    · have h' : x < a := by omega
      simp only [h, h', if_false, decide_true, Bool.true_and, Bool.not_true, if_true]
      rw [← this]
      simp
theorem spec_l01Rises_f (xs : List Int) (n : Int) (hn : Rg .i64 (n - 1)) (h : xs.length ≤ 140737488355328) : spec_l01Rises.f xs n = some (xs.all (inB · 0 (n - 1)) && risB xs) := by
  unfold spec_l01Rises.f spec_l01Rises.fn spec_l01Rises.top
  obtain ⟨k, hk⟩ : ∃ j, NN = j + 1 := ⟨NN - 1, by have := NNb; omega⟩
  have hkb : 1000000000000000 < k := by rw [NN_eq] at hk; omega
  cases xs with
  | nil => rw [show spec_l01Rises.l2 NN NN = spec_l01Rises.l2 NN (k + 1) by rw [← hk]]; simp [spec_l01Rises.l2, spec_l01Rises.g2, risB]
  | cons a r =>
    simp only [List.length_cons] at h
    have hl := spec_l01Rises_loop n hn r [] a k (by simp; omega) (by omega)
    have hn' := wf64.1 hn
    have w3 := w64 (n := n - 1) (by omega) (by omega)
    have w1 := w64 (n := 0 + 1) (by omega) (by omega)
    have c1 : (0 : Int) < ((a :: r).length : Int) := by simp only [List.length_cons]; omega
    rw [show spec_l01Rises.l2 NN NN = spec_l01Rises.l2 NN (k + 1) by rw [← hk]]
    simp only [spec_l01Rises.l2, spec_l01Rises.g2, c1, w1, w3, spec_l01In_f]
    simp at hl
    simp [risB_cons, hl]
    cases inB a 0 (n - 1) <;> simp
def permB (p : Int × Int × Int × Int × List Int × Int) : Bool :=
  inB p.1 0 100000 && inB p.2.1 p.1 100000 && inB p.2.2.1 0 1000000000 && inB p.2.2.2.1 20 300 && (p.2.2.2.2.1.all (inB · 0 3) && risB p.2.2.2.2.1) && inB p.2.2.2.2.2 0 3
theorem spec_IsPermit_f (p : Int × Int × Int × Int × List Int × Int) (h : p.2.2.2.2.1.length ≤ 140737488355328) : spec_IsPermit.f p = some (permB p) := by
  unfold spec_IsPermit.f spec_IsPermit.fn spec_IsPermit.top permB
  simp only [spec_l01In_f, spec_l01Rises_f _ 4 (wf64.2 (by omega)) h, Option.bind_some, show (4 : Int) - 1 = 3 from rfl]
  cases inB p.1 0 100000 <;> cases inB p.2.1 p.1 100000 <;> cases inB p.2.2.1 0 1000000000 <;> cases inB p.2.2.2.1 20 300 <;> cases (p.2.2.2.2.1.all (inB · 0 3)) <;> cases risB p.2.2.2.2.1 <;> cases inB p.2.2.2.2.2 0 3 <;> rfl
theorem impl_IsPermit_f (p : Int × Int × Int × Int × List Int × Int) (h : p.2.2.2.2.1.length ≤ 140737488355328) : impl_IsPermit.f p = some (permB p) := by
  unfold impl_IsPermit.f impl_IsPermit.fn impl_IsPermit.top permB
  obtain ⟨f, t, n, c, ks, g⟩ := p
  simp only at h
  have hl : impl_IsPermit.l4 NN NN 1 (f, t, n, c, ks, g) = some (risB ks) := by
    cases ks with
    | nil =>
      obtain ⟨k, hk⟩ : ∃ j, NN = j + 1 := ⟨NN - 1, by have := NNb; omega⟩
      rw [show impl_IsPermit.l4 NN NN = impl_IsPermit.l4 NN (k + 1) by rw [← hk]]
      simp [impl_IsPermit.l4, impl_IsPermit.g4, risB]
    | cons a r =>
      simp only [List.length_cons] at h
      have := impl_IsPermit_loop f t n c g r [] a NN (by simp; omega) (NN_lt (by omega))
      simp at this
      rw [risB_cons, ← this]
  simp only [impl_isDay_f, impl_isCalibre_f, impl_within_f, impl_allWithin_f _ _ _ h, Option.bind_some, hl]
  have e : (inB f 0 100000 && inB t f 100000) = (inB f 0 100000 && inB t 0 100000 && !decide (t < f)) := by
    unfold inB
    by_cases h1 : 0 ≤ f <;> by_cases h2 : f ≤ 100000 <;> by_cases h3 : t ≤ 100000 <;> by_cases h4 : f ≤ t <;> by_cases h5 : 0 ≤ t <;> simp [h1, h2, h3, h4, h5] <;> omega
  rw [e]
  cases inB f 0 100000 <;> cases inB t 0 100000 <;> cases decide (t < f) <;> cases inB n 0 1000000000 <;> cases inB c 20 300 <;> cases (ks.all (inB · 0 3)) <;> cases inB g 0 3 <;> simp
theorem IsPermit_core (p : Int × Int × Int × Int × List Int × Int) (h : OkPermit p) : ∃ w, spec_IsPermit.f p = some w ∧ impl_IsPermit.f p = some w ∧ True :=
  have h1 : p.2.2.2.2.1.length ≤ 140737488355328 := Nat.le_trans h.2.2.2.2.1.1 (by omega)
  ⟨_, spec_IsPermit_f p h1, impl_IsPermit_f p h1, trivial⟩
end Go.Pl

namespace Go.Pl
open Go.Ev
set_option linter.unusedVariables false
set_option linter.unusedSimpArgs false
def ltS (a b : ByteArray) : Bool := Op.bytesLess a.toList b.toList
def lineOk (l : ByteArray × Int) : Bool := wordB l.1 && inB l.2 1 1000
/-- lines behind another one -/
def linesF : ByteArray × Int → List (ByteArray × Int) → Bool
  | _, [] => true
  | x, a :: r => lineOk a && ltS x.1 a.1 && linesF a r
def linesL : List (ByteArray × Int) → Bool
  | [] => true
  | a :: r => lineOk a && linesF a r
def linesB (l : List (ByteArray × Int)) : Bool := decide (l.length ≤ 12) && linesL l
def paperB (p : ByteArray × Int × List (ByteArray × Int)) : Bool := wordB p.1 && inB p.2.1 0 100000 && linesB p.2.2
theorem snoc_getl' {α : Type} (p r : List α) (x a z : α) : (p ++ [x] ++ a :: r).getD p.length z = x := by simp
theorem impl_areLines_l : ∀ (r p : List (ByteArray × Int)) (x : ByteArray × Int) (k : Nat), p.length + r.length + 1 ≤ 1000000 → r.length < k → (∀ l ∈ r, Sz l.1) →
    impl_areLines.l4 NN k (p ++ [x] ++ r) (p ++ [x] ++ r) (p ++ [x] ++ r).length ((p.length : Int) + 1) = some (linesF x r) := by
  intro r
  induction r with
  | nil =>
    intro p x k _ hk _
    obtain ⟨k, rfl⟩ : ∃ j, k = j + 1 := ⟨k - 1, by omega⟩
    simp [impl_areLines.l4, impl_areLines.g4, linesF]
  | cons a r ih =>
    intro p x k hb hk hs
    simp only [List.length_cons] at hb hk
    obtain ⟨k, rfl⟩ : ∃ j, k = j + 1 := ⟨k - 1, by omega⟩
    have hl : ((p ++ [x] ++ a :: r).length : Int) = p.length + r.length + 2 := by simp; omega
    have w1 := w64 (n := (p.length : Int) + 1 - 1) (by omega) (by omega)
    have w2 := w64 (n := (p.length : Int) + 1 + 1) (by omega) (by omega)
    have c1 : (p.length : Int) + 1 < ((p ++ [x] ++ a :: r).length : Int) := by omega
    have c2 : (0 : Int) ≤ (p.length : Int) + 1 - 1 := by omega
    have c3 : (p.length : Int) + 1 - 1 < ((p ++ [x] ++ a :: r).length : Int) := by omega
    have c4 : (0 : Int) ≤ (p.length : Int) + 1 := by omega
    have c5 : (0 : Int) < (p.length : Int) + 1 := by omega
    have g1 : ∀ z, (p ++ [x] ++ a :: r).getD ((p.length : Int) + 1).toNat z = a := fun z => by
      rw [show ((p.length : Int) + 1).toNat = (p ++ [x]).length by simp, mid_getn]
    have g2 : ∀ z, (p ++ [x] ++ a :: r).getD ((p.length : Int) + 1 - 1).toNat z = x := fun z => by
      rw [show ((p.length : Int) + 1 - 1).toNat = p.length by omega, snoc_getl']
    have := ih (p ++ [x]) a k (by simp; omega) (by omega) (fun l h => hs l (by simp [h]))
    simp only [impl_areLines.l4, impl_areLines.g4, w1, w2, c1, c2, c3, c4, c5, g1, g2, and_self, and_true, true_and, decide_true, decide_false, if_true, if_false, mid_get, mid_set, mid_getn, mid_setn, bt_mid, Option.bind_some, Bool.not_true, Bool.not_false, Bool.false_eq_true, Bool.true_eq_false, beq_self_eq_true, bne_self_eq_false, Int.toNat_natCast, impl_IsWord_f _ (hs a (by simp)), impl_within_f, linesF, lineOk]
    cases wordB a.1
    · simp
    cases inB a.2 1 1000
    · simp
    show (if (!ltS x.1 a.1) = true then _ else _) = _
    cases ltS x.1 a.1
    · simp
    · simp only [and_self, and_true, true_and, decide_true, decide_false, if_true, if_false, mid_get, mid_set, mid_getn, mid_setn, bt_mid, Option.bind_some, Bool.not_true, Bool.not_false, Bool.false_eq_true, Bool.true_eq_false, beq_self_eq_true, bne_self_eq_false, Int.toNat_natCast, Bool.true_and]
      rw [← this]
      simp
theorem impl_areLines_f (xs : List (ByteArray × Int)) (h : Lm OkLine xs) : impl_areLines.f xs = some (linesB xs) := by
  unfold impl_areLines.f impl_areLines.fn impl_areLines.top linesB
  have hl := h.1
  by_cases h12 : (12 : Int) < (xs.length : Int)
  · have : ¬ xs.length ≤ 12 := by omega
    simp [h12, this]
  have e12 : xs.length ≤ 12 := by omega
  simp only [h12, e12, and_self, and_true, true_and, decide_true, decide_false, if_true, if_false, mid_get, mid_set, mid_getn, mid_setn, bt_mid, Option.bind_some, Bool.not_true, Bool.not_false, Bool.false_eq_true, Bool.true_eq_false, beq_self_eq_true, bne_self_eq_false, Int.toNat_natCast]
  obtain ⟨k, hk⟩ : ∃ j, NN = j + 1 := ⟨NN - 1, by have := NNb; omega⟩
  have hkb : 1000000000000000 < k := by rw [NN_eq] at hk; omega
  rw [show impl_areLines.l4 NN NN = impl_areLines.l4 NN (k + 1) by rw [← hk]]
  cases xs with
  | nil => simp [impl_areLines.l4, impl_areLines.g4, linesL]
  | cons a r =>
    simp only [List.length_cons] at hl
    have := impl_areLines_l r [] a k (by simp; omega) (by omega) (fun l hl => Nat.le_trans (h.2 l (by simp [hl])).1 (by omega))
    have w2 := w64 (n := 0 + 1) (by omega) (by omega)
    have c1 : (0 : Int) < ((a :: r).length : Int) := by simp only [List.length_cons]; omega
    simp only [impl_areLines.l4, impl_areLines.g4, c1, w2, and_self, and_true, true_and, decide_true, decide_false, if_true, if_false, mid_get, mid_set, mid_getn, mid_setn, bt_mid, Option.bind_some, Bool.not_true, Bool.not_false, Bool.false_eq_true, Bool.true_eq_false, beq_self_eq_true, bne_self_eq_false, Int.toNat_natCast, Int.le_refl, impl_IsWord_f _ (Nat.le_trans (h.2 a (by simp)).1 (show 1000000 ≤ 140737488355328 by omega)), impl_within_f, linesL, lineOk, List.getD_cons_zero, Int.toNat_zero]
    simp at this
    cases wordB a.1
    · simp
    cases inB a.2 1 1000
    · simp
    simp [this]
theorem impl_IsPaper_f (p : ByteArray × Int × List (ByteArray × Int)) (h : OkPaper p) : impl_IsPaper.f p = some (paperB p) := by
  unfold impl_IsPaper.f impl_IsPaper.fn impl_IsPaper.top paperB
  rw [impl_IsWord_f _ (Nat.le_trans h.1 (by omega)), impl_isDay_f, impl_areLines_f _ h.2.2]
  cases wordB p.1 <;> cases inB p.2.1 0 100000 <;> rfl
theorem spec_IsPaper_l (v : ByteArray) (d : Int) (hv : Sz v) : ∀ (r p : List (ByteArray × Int)) (x : ByteArray × Int) (k : Nat), p.length + r.length + 1 ≤ 1000000 → r.length < k → (∀ l ∈ r, Sz l.1) →
    spec_IsPaper.l2 NN k ((p.length : Int) + 1) (v, d, p ++ [x] ++ r) = some (linesF x r && (wordB v && inB d 0 100000 && decide ((p ++ [x] ++ r).length ≤ 12))) := by
  intro r
  induction r with
  | nil =>
    intro p x k hb hk _
    obtain ⟨k, rfl⟩ : ∃ j, k = j + 1 := ⟨k - 1, by omega⟩
    have e : decide (((p ++ [x]).length : Int) ≤ 12) = decide ((p ++ [x]).length ≤ 12) := by congr 1; exact propext (by omega)
    have c1 : ¬ (p.length : Int) + 1 < ((p ++ [x]).length : Int) := by simp
    simp only [spec_IsPaper.l2, spec_IsPaper.g2, List.append_nil, c1, and_self, and_true, true_and, decide_true, decide_false, if_true, if_false, mid_get, mid_set, mid_getn, mid_setn, bt_mid, Option.bind_some, Bool.not_true, Bool.not_false, Bool.false_eq_true, Bool.true_eq_false, beq_self_eq_true, bne_self_eq_false, Int.toNat_natCast, spec_IsWord_f v hv, spec_l01In_f, linesF, e]
    cases wordB v <;> cases inB d 0 100000 <;> rfl
  | cons a r ih =>
    intro p x k hb hk hs
    simp only [List.length_cons] at hb hk
    obtain ⟨k, rfl⟩ : ∃ j, k = j + 1 := ⟨k - 1, by omega⟩
    have hl : ((p ++ [x] ++ a :: r).length : Int) = p.length + r.length + 2 := by simp; omega
    have w1 := w64 (n := (p.length : Int) + 1 - 1) (by omega) (by omega)
    have w2 := w64 (n := (p.length : Int) + 1 + 1) (by omega) (by omega)
    have c1 : (p.length : Int) + 1 < ((p ++ [x] ++ a :: r).length : Int) := by omega
    have c2 : (0 : Int) ≤ (p.length : Int) + 1 - 1 := by omega
    have c3 : (p.length : Int) + 1 - 1 < ((p ++ [x] ++ a :: r).length : Int) := by omega
    have c4 : (0 : Int) ≤ (p.length : Int) + 1 := by omega
    have c5 : (0 : Int) < (p.length : Int) + 1 := by omega
    have g1 : ∀ z, (p ++ [x] ++ a :: r).getD ((p.length : Int) + 1).toNat z = a := fun z => by
      rw [show ((p.length : Int) + 1).toNat = (p ++ [x]).length by simp, mid_getn]
    have g2 : ∀ z, (p ++ [x] ++ a :: r).getD ((p.length : Int) + 1 - 1).toNat z = x := fun z => by
      rw [show ((p.length : Int) + 1 - 1).toNat = p.length by omega, snoc_getl']
    have := ih (p ++ [x]) a k (by simp; omega) (by omega) (fun l h => hs l (by simp [h]))
    rw [show p ++ [x] ++ [a] ++ r = p ++ [x] ++ a :: r by simp, snoc_len] at this
    simp only [spec_IsPaper.l2, spec_IsPaper.g2, w1, w2, c1, c2, c3, c4, c5, g1, g2, and_self, and_true, true_and, decide_true, decide_false, if_true, if_false, mid_get, mid_set, mid_getn, mid_setn, bt_mid, Option.bind_some, Bool.not_true, Bool.not_false, Bool.false_eq_true, Bool.true_eq_false, beq_self_eq_true, bne_self_eq_false, Int.toNat_natCast, spec_IsWord_f _ (hs a (by simp)), spec_l01In_f, linesF, lineOk, this]
    cases wordB a.1
    · simp
    cases inB a.2 1 1000
    · simp
    show (if (!ltS x.1 a.1) = true then _ else _) = _
    cases ltS x.1 a.1
    · simp
    · simp
theorem spec_IsPaper_f (p : ByteArray × Int × List (ByteArray × Int)) (h : OkPaper p) : spec_IsPaper.f p = some (paperB p) := by
  obtain ⟨v, d, xs⟩ := p
  unfold spec_IsPaper.f spec_IsPaper.fn spec_IsPaper.top paperB linesB
  have hl : xs.length ≤ 1000000 := h.2.2.1
  have hv : Sz v := Nat.le_trans h.1 (by omega)
  obtain ⟨k, hk⟩ : ∃ j, NN = j + 1 := ⟨NN - 1, by have := NNb; omega⟩
  have hkb : 1000000000000000 < k := by rw [NN_eq] at hk; omega
  rw [show spec_IsPaper.l2 NN NN = spec_IsPaper.l2 NN (k + 1) by rw [← hk]]
  cases xs with
  | nil =>
    simp only [spec_IsPaper.l2, spec_IsPaper.g2, spec_IsWord_f v hv, spec_l01In_f, linesL, and_self, and_true, true_and, decide_true, decide_false, if_true, if_false, mid_get, mid_set, mid_getn, mid_setn, bt_mid, Option.bind_some, Bool.not_true, Bool.not_false, Bool.false_eq_true, Bool.true_eq_false, beq_self_eq_true, bne_self_eq_false, Int.toNat_natCast]
    cases wordB v <;> cases inB d 0 100000 <;> rfl
  | cons a r =>
    simp only [List.length_cons] at hl
    have hxs : Lm OkLine (a :: r) := h.2.2
    have := spec_IsPaper_l v d hv r [] a k (by simp; omega) (by omega) (fun l hl => Nat.le_trans (hxs.2 l (by simp [hl])).1 (by omega))
    have w2 := w64 (n := 0 + 1) (by omega) (by omega)
    have c1 : (0 : Int) < ((a :: r).length : Int) := by simp only [List.length_cons]; omega
    simp only [List.nil_append, List.length_nil, List.cons_append] at this
    rw [show (((0 : Nat) : Int) + 1) = 0 + 1 from rfl] at this
    simp only [spec_IsPaper.l2, spec_IsPaper.g2, c1, w2, and_self, and_true, true_and, decide_true, decide_false, if_true, if_false, mid_get, mid_set, mid_getn, mid_setn, bt_mid, Option.bind_some, Bool.not_true, Bool.not_false, Bool.false_eq_true, Bool.true_eq_false, beq_self_eq_true, bne_self_eq_false, Int.toNat_natCast, Int.le_refl, spec_IsWord_f _ (Nat.le_trans (hxs.2 a (by simp)).1 (show 1000000 ≤ 140737488355328 by omega)), spec_l01In_f, linesL, lineOk, List.getD_cons_zero, Int.toNat_zero]
    cases wordB a.1
    · simp
    cases inB a.2 1 1000
    · simp
    simp only [Int.lt_irrefl, decide_false, and_self, and_true, true_and, decide_true, decide_false, if_true, if_false, mid_get, mid_set, mid_getn, mid_setn, bt_mid, Option.bind_some, Bool.not_true, Bool.not_false, Bool.false_eq_true, Bool.true_eq_false, beq_self_eq_true, bne_self_eq_false, Int.toNat_natCast]
    rw [this]
    cases linesF a r <;> cases wordB v <;> cases inB d 0 100000 <;> simp
/-- how many of an article -/
def cntL (a : ByteArray) : List (ByteArray × Int) → Int
  | [] => 0
  | l :: r => if l.1 = a then l.2 else cntL a r
theorem impl_countIn_f (xs : List (ByteArray × Int)) (a : ByteArray) (h : xs.length ≤ 1000000) : impl_countIn.f xs a = some (cntL a xs) := by
  have := find_loop (E := fun _ => True) (fun l : ByteArray × Int => decide (l.1 = a)) (fun _ l => some l.2) (fun _ => some 0) (fun k xs i => impl_countIn.l2 NN k a xs xs.length i) ?_ ?_ xs (fun _ _ => trivial) (by omega) NN (NN_lt (by omega))
  · refine this.trans ?_
    have key : ∀ (xs : List (ByteArray × Int)) (i : Nat), (firstOf (fun l : ByteArray × Int => decide (l.1 = a)) i xs).elim (some 0) (fun x => some x.2.2) = some (cntL a xs) := by
      intro xs
      induction xs with
      | nil => intro i; rfl
      | cons l r ih =>
        intro i
        by_cases h : l.1 = a
        · simp [firstOf, cntL, h]
        · simp only [firstOf, cntL, h, decide_false, Bool.false_eq_true, if_false]
          exact ih _
    exact key xs 0
  · intro k p
    simp [impl_countIn.l2, impl_countIn.g2]
  · intro k p l r _ c0 c1 c2 cw
    simp only [impl_countIn.l2, impl_countIn.g2, c0, c1, cw, and_self, and_true, true_and, decide_true, decide_false, if_true, if_false, mid_get, mid_set, mid_getn, mid_setn, bt_mid, Option.bind_some, Bool.not_true, Bool.not_false, Bool.false_eq_true, Bool.true_eq_false, beq_self_eq_true, bne_self_eq_false, Int.toNat_natCast, ba_beq]
theorem spec_l29Find_f (p : ByteArray × Int × List (ByteArray × Int)) (a : ByteArray) (h : p.2.2.length ≤ 1000000) : spec_l29Find.f p a = some ((firstOf (fun l : ByteArray × Int => decide (l.1 = a)) 0 p.2.2).elim (-1) (fun x => (x.1 : Int))) := by
  obtain ⟨v, d, xs⟩ := p
  have h : xs.length ≤ 1000000 := h
  have := find_loop (E := fun _ => True) (fun l : ByteArray × Int => decide (l.1 = a)) (fun i _ => some (i : Int)) (fun _ => some (-1)) (fun k xs i => spec_l29Find.l2 NN k a i (v, d, xs)) ?_ ?_ xs (fun _ _ => trivial) (by omega) NN (NN_lt (by omega))
  · refine this.trans ?_
    cases firstOf (fun l : ByteArray × Int => decide (l.1 = a)) 0 xs <;> rfl
  · intro k p
    simp [spec_l29Find.l2, spec_l29Find.g2]
  · intro k p l r _ c0 c1 c2 cw
    simp only [spec_l29Find.l2, spec_l29Find.g2, c0, c1, cw, and_self, and_true, true_and, decide_true, decide_false, if_true, if_false, mid_get, mid_set, mid_getn, mid_setn, bt_mid, Option.bind_some, Bool.not_true, Bool.not_false, Bool.false_eq_true, Bool.true_eq_false, beq_self_eq_true, bne_self_eq_false, Int.toNat_natCast, ba_beq]
/-- what is found: its number and its line -/
theorem firstOf_spec {α : Type} (P : α → Bool) : ∀ (xs : List α) (i j : Nat) (x : α), firstOf P i xs = some (j, x) → i ≤ j ∧ j < i + xs.length ∧ xs[j - i]? = some x ∧ P x = true := by
  intro xs
  induction xs with
  | nil => intro i j x h; cases h
  | cons a r ih =>
    intro i j x h
    simp only [firstOf] at h
    split at h
    · rename_i hp
      cases h
      refine ⟨by omega, by simp, by simp, hp⟩
    · obtain ⟨h1, h2, h3, h4⟩ := ih _ _ _ h
      refine ⟨by omega, by simp; omega, ?_, h4⟩
      rw [show j - i = (j - (i + 1)) + 1 by omega, List.getElem?_cons_succ]; exact h3
theorem cntL_first (a : ByteArray) : ∀ (xs : List (ByteArray × Int)) (i : Nat), cntL a xs = (firstOf (fun l : ByteArray × Int => decide (l.1 = a)) i xs).elim 0 (fun x => x.2.2) := by
  intro xs
  induction xs with
  | nil => intro i; rfl
  | cons l r ih =>
    intro i
    by_cases h : l.1 = a
    · simp [firstOf, cntL, h]
    · simp only [firstOf, cntL, h, decide_false, Bool.false_eq_true, if_false]
      exact ih _
theorem linesF_ok : ∀ (r : List (ByteArray × Int)) (x : ByteArray × Int), linesF x r = true → ∀ l ∈ r, lineOk l = true := by
  intro r
  induction r with
  | nil => intro x _ l hl; cases hl
  | cons a r ih =>
    intro x h l hl
    simp only [linesF, Bool.and_eq_true] at h
    rcases List.mem_cons.1 hl with rfl | hl
    · exact h.1.1
    · exact ih a h.2 l hl
theorem linesB_ok {xs : List (ByteArray × Int)} (h : linesB xs = true) : xs.length ≤ 12 ∧ ∀ l ∈ xs, lineOk l = true := by
  unfold linesB at h
  simp only [Bool.and_eq_true, decide_eq_true_eq] at h
  refine ⟨h.1, ?_⟩
  cases xs with
  | nil => intro l hl; cases hl
  | cons a r =>
    have h2 := h.2
    simp only [linesL, Bool.and_eq_true] at h2
    intro l hl
    rcases List.mem_cons.1 hl with rfl | hl
    · exact h2.1
    · exact linesF_ok r a h2.2 l hl
theorem lineOk_iff {l : ByteArray × Int} : lineOk l = true ↔ wordB l.1 = true ∧ 1 ≤ l.2 ∧ l.2 ≤ 1000 := by
  unfold lineOk; rw [Bool.and_eq_true, inB_iff]
theorem cntL_bd (a : ByteArray) : ∀ (xs : List (ByteArray × Int)), (∀ l ∈ xs, lineOk l = true) → 0 ≤ cntL a xs ∧ cntL a xs ≤ 1000 := by
  intro xs
  induction xs with
  | nil => intro _; simp [cntL]
  | cons l r ih =>
    intro h
    have h1 := lineOk_iff.1 (h l (by simp))
    have h2 := ih fun x hx => h x (by simp [hx])
    simp only [cntL]
    split <;> omega
end Go.Pl

namespace Go.Pl
open Go.Ev
set_option linter.unusedVariables false
set_option linter.unusedSimpArgs false
def missF (bs : List (ByteArray × Int)) (out : List (ByteArray × Int)) (l : ByteArray × Int) : List (ByteArray × Int) := if 0 < l.2 - cntL l.1 bs then out ++ [(l.1, l.2 - cntL l.1 bs)] else out
def missL (ax bs : List (ByteArray × Int)) : List (ByteArray × Int) := ax.foldl (missF bs) []
theorem missF_ok (bs : List (ByteArray × Int)) (hb : ∀ l ∈ bs, lineOk l = true) (out : List (ByteArray × Int)) (l : ByteArray × Int) (hl : lineOk l = true) (n : Nat) (h : out.length ≤ n ∧ ∀ x ∈ out, lineOk x = true) : (missF bs out l).length ≤ n + 1 ∧ ∀ x ∈ missF bs out l, lineOk x = true := by
  have h1 := lineOk_iff.1 hl
  have h2 := cntL_bd l.1 bs hb
  unfold missF
  split
  · refine ⟨by simp; omega, fun x hx => ?_⟩
    rcases List.mem_append.1 hx with h3 | h3
    · exact h.2 x h3
    · rw [List.mem_singleton.1 h3]; exact lineOk_iff.2 ⟨h1.1, by simp only; omega, by simp only; omega⟩
  · exact ⟨by omega, h.2⟩
theorem room24' {α : Type} (out : List α) (x : α) (h : out.length ≤ 2000000) : out.length + [x].length < room 24 := by rw [room24]; simp; omega
theorem impl_Missing_l (v : ByteArray) (d : Int) (ax bs : List (ByteArray × Int)) (ha : ∀ l ∈ ax, lineOk l = true) (hb : ∀ l ∈ bs, lineOk l = true) (hla : ax.length ≤ 12) (hlb : bs.length ≤ 12) :
    ((missL ax bs).length ≤ ax.length ∧ ∀ x ∈ missL ax bs, lineOk x = true) ∧ impl_MissingLines.l5 NN NN ax ax.length 0 (v, d, bs) [] = some (missL ax bs, 0) := by
  have := fold_fix (E := fun l => lineOk l = true) (fun p st => st.length ≤ p.length ∧ ∀ x ∈ st, lineOk x = true) (fun _ => missF bs) (fun st => some (st, (0 : Int))) (fun k i st => impl_MissingLines.l5 NN k ax ax.length i (v, d, bs) st) ax ?_ ?_ [] ha ⟨by simp, by simp⟩ (by omega) NN (NN_lt (by omega))
  · rw [foldi_foldl] at this
    exact this
  · intro k st _
    simp [impl_MissingLines.l5, impl_MissingLines.g5]
  · intro k p l r st hx hl hI c0 c1 c2 cw g
    have h1 := lineOk_iff.1 hl
    have h2 := cntL_bd l.1 bs hb
    have e1 := w64 (n := l.2 - cntL l.1 bs) (by omega) (by omega)
    refine ⟨by rw [List.length_append, List.length_singleton]; exact missF_ok bs hb st l hl p.length hI, ?_⟩
    simp only [impl_MissingLines.l5, impl_MissingLines.g5, c0, c1, cw, and_self, and_true, true_and, decide_true, decide_false, if_true, if_false, mid_get, mid_set, mid_getn, mid_setn, bt_mid, Option.bind_some, Bool.not_true, Bool.not_false, Bool.false_eq_true, Bool.true_eq_false, beq_self_eq_true, bne_self_eq_false, Int.toNat_natCast, g, impl_countIn_f bs l.1 (by omega), e1, decide_eq_true_eq]
    unfold missF
    rw [if_pos (room24' st _ (by omega))]
    split <;> rfl
theorem spec_Missing_l (v w : ByteArray) (d e : Int) (ax bs : List (ByteArray × Int)) (ha : ∀ l ∈ ax, lineOk l = true) (hb : ∀ l ∈ bs, lineOk l = true) (hla : ax.length ≤ 12) (hlb : bs.length ≤ 12) :
    spec_MissingLines.l5 NN NN 0 (w, e, ax) (v, d, bs) [] = some (missL ax bs, 0) := by
  have := (fold_fix (E := fun l => lineOk l = true) (fun p st => st.length ≤ p.length ∧ ∀ x ∈ st, lineOk x = true) (fun _ => missF bs) (fun st => some (st, (0 : Int))) (fun k i st => spec_MissingLines.l5 NN k i (w, e, ax) (v, d, bs) st) ax ?_ ?_ [] ha ⟨by simp, by simp⟩ (by omega) NN (NN_lt (by omega))).2
  · rw [foldi_foldl] at this
    exact this
  · intro k st _
    simp [spec_MissingLines.l5, spec_MissingLines.g5]
  · intro k p l r st hx hl hI c0 c1 c2 cw g
    have h1 := lineOk_iff.1 hl
    have h2 := cntL_bd l.1 bs hb
    have e1 := w64 (n := l.2 - cntL l.1 bs) (by omega) (by omega)
    refine ⟨by rw [List.length_append, List.length_singleton]; exact missF_ok bs hb st l hl p.length hI, ?_⟩
    simp only [spec_MissingLines.l5, spec_MissingLines.g5, c0, c1, cw, and_self, and_true, true_and, decide_true, decide_false, if_true, if_false, mid_get, mid_set, mid_getn, mid_setn, bt_mid, Option.bind_some, Bool.not_true, Bool.not_false, Bool.false_eq_true, Bool.true_eq_false, beq_self_eq_true, bne_self_eq_false, Int.toNat_natCast, g]
    rw [spec_l29Find_f _ _ (by simp only; omega)]
    simp only [Option.bind_some]
    unfold missF
    have hc := cntL_first l.1 bs 0
    cases hf : firstOf (fun x : ByteArray × Int => decide (x.1 = l.1)) 0 bs with
    | none =>
      rw [hf] at hc
      simp only [Option.elim] at hc
      rw [hc]
      simp only [Option.elim, hf]
      have n1 : ¬ (0 : Int) ≤ -1 := by omega
      simp only [n1, and_self, and_true, true_and, decide_true, decide_false, if_true, if_false, mid_get, mid_set, mid_getn, mid_setn, bt_mid, Option.bind_some, Bool.not_true, Bool.not_false, Bool.false_eq_true, Bool.true_eq_false, beq_self_eq_true, bne_self_eq_false, Int.toNat_natCast, Int.sub_zero]
      rw [if_pos (room24' st _ (by omega))]
      simp only [decide_eq_true_eq]
      split <;> rfl
    | some x =>
      obtain ⟨j, y⟩ := x
      obtain ⟨f1, f2, f3, f4⟩ := firstOf_spec _ _ _ _ _ hf
      rw [hf] at hc
      simp only [Option.elim] at hc
      simp only [Option.elim, hf]
      have n1 : (0 : Int) ≤ (j : Int) := by omega
      have n2 : (j : Int) < (bs.length : Int) := by omega
      have g2 : ∀ z, bs.getD j z = y := fun z => by
        rw [List.getD_eq_getElem?_getD, show j = j - 0 by omega, f3]; rfl
      rw [hc] at e1 ⊢
      simp only [n1, n2, and_self, and_true, true_and, decide_true, decide_false, if_true, if_false, mid_get, mid_set, mid_getn, mid_setn, bt_mid, Option.bind_some, Bool.not_true, Bool.not_false, Bool.false_eq_true, Bool.true_eq_false, beq_self_eq_true, bne_self_eq_false, Int.toNat_natCast, g2, e1]
      rw [if_pos (room24' st _ (by omega))]
      simp only [decide_eq_true_eq]
      split <;> rfl
theorem paperB_iff {p : ByteArray × Int × List (ByteArray × Int)} (h : paperB p = true) : wordB p.1 = true ∧ (0 ≤ p.2.1 ∧ p.2.1 ≤ 100000) ∧ linesB p.2.2 = true := by
  unfold paperB at h
  simp only [Bool.and_eq_true, inB_iff] at h
  exact ⟨h.1.1, h.1.2, h.2⟩
theorem lines_ok {xs : List (ByteArray × Int)} (h1 : xs.length ≤ 1000000) (h2 : ∀ l ∈ xs, lineOk l = true) : Lm OkLine xs := ⟨h1, fun l hl => by
  have h3 := lineOk_iff.1 (h2 l hl)
  have := wordB_size h3.1
  exact ⟨by unfold Sm; omega, wf64.2 (by omega)⟩⟩
theorem MissingLines_core (a b : ByteArray × Int × List (ByteArray × Int)) (ha : OkPaper a) (hb : OkPaper b) : ∃ w, spec_MissingLines.f a b = some w ∧ impl_MissingLines.f a b = some w ∧ Lm OkLine w.1 := by
  unfold spec_MissingLines.f spec_MissingLines.fn spec_MissingLines.top impl_MissingLines.f impl_MissingLines.fn impl_MissingLines.top
  rw [spec_IsPaper_f a ha, spec_IsPaper_f b hb, impl_IsPaper_f a ha, impl_IsPaper_f b hb]
  cases h1 : paperB a
  · exact ⟨([], 1), rfl, rfl, by simp, by simp⟩
  cases h2 : paperB b
  · exact ⟨([], 1), rfl, rfl, by simp, by simp⟩
  have p1 := linesB_ok (paperB_iff h1).2.2
  have p2 := linesB_ok (paperB_iff h2).2.2
  obtain ⟨w, e, ax⟩ := a
  obtain ⟨v, d, bs⟩ := b
  have q1 := impl_Missing_l v d ax bs p1.2 p2.2 p1.1 p2.1
  have q2 := spec_Missing_l v w d e ax bs p1.2 p2.2 p1.1 p2.1
  have p11 : ax.length ≤ 12 := p1.1
  exact ⟨(missL ax bs, 0), q2, q1.2, lines_ok (by simp only; omega) q1.1.2⟩
end Go.Pl

namespace Go.Pl
open Go.Ev
set_option linter.unusedVariables false
set_option linter.unusedSimpArgs false
/-- words in order -/
def ltW (a b : ByteArray) : Bool := Op.bytesLess a.toList b.toList
theorem lessL_trans : ∀ (x y z : List UInt8), Op.bytesLess x y = true → Op.bytesLess y z = true → Op.bytesLess x z = true := by
  intro x
  induction x with
  | nil =>
    intro y z h1 h2
    cases z with
    | nil => cases y <;> simp [Op.bytesLess] at h2
    | cons c z => rfl
  | cons a x ih =>
    intro y z h1 h2
    cases y with
    | nil => simp [Op.bytesLess] at h1
    | cons b y =>
      cases z with
      | nil => simp [Op.bytesLess] at h2
      | cons c z =>
        simp only [Op.bytesLess, Bool.or_eq_true, Bool.and_eq_true, decide_eq_true_eq, beq_iff_eq, UInt8.lt_iff_toNat_lt] at h1 h2 ⊢
        rcases h1 with h1 | ⟨rfl, h1⟩
        · rcases h2 with h2 | ⟨rfl, h2⟩
          · left; omega
          · left; exact h1
        · rcases h2 with h2 | ⟨rfl, h2⟩
          · left; exact h2
          · right; exact ⟨rfl, ih y z h1 h2⟩
theorem lessL_irr : ∀ (x : List UInt8), Op.bytesLess x x = false := by
  intro x
  induction x with
  | nil => rfl
  | cons a x ih => simp [Op.bytesLess, ih]
theorem lessL_tot : ∀ (x y : List UInt8), Op.bytesLess x y = true ∨ x = y ∨ Op.bytesLess y x = true := by
  intro x
  induction x with
  | nil => intro y; cases y; exact .inr (.inl rfl); exact .inl rfl
  | cons a x ih =>
    intro y
    cases y with
    | nil => exact .inr (.inr rfl)
    | cons b y =>
      simp only [Op.bytesLess, Bool.or_eq_true, Bool.and_eq_true, decide_eq_true_eq, beq_iff_eq, UInt8.lt_iff_toNat_lt, List.cons.injEq]
      by_cases h : a = b
      · subst h
        rcases ih y with h | h | h
        · exact .inl (.inr ⟨rfl, h⟩)
        · exact .inr (.inl ⟨rfl, h⟩)
        · exact .inr (.inr (.inr ⟨rfl, h⟩))
      · have h' : a.toNat ≠ b.toNat := fun e => h (UInt8.toNat_inj.1 e)
        rcases Nat.lt_or_gt_of_ne h' with h | h
        · exact .inl (.inl h)
        · exact .inr (.inr (.inl h))
theorem ltW_trans {a b c : ByteArray} (h1 : ltW a b = true) (h2 : ltW b c = true) : ltW a c = true := lessL_trans _ _ _ h1 h2
theorem ltW_irr (a : ByteArray) : ltW a a = false := lessL_irr _
theorem ltW_ne {a b : ByteArray} (h : ltW a b = true) : a ≠ b := fun e => by subst e; rw [ltW_irr] at h; cases h
theorem ltW_asym {a b : ByteArray} (h : ltW a b = true) : ltW b a = false := by
  cases h2 : ltW b a
  · rfl
  · exact absurd (ltW_trans h h2) (by rw [ltW_irr]; simp)
theorem ltW_tot (a b : ByteArray) : ltW a b = true ∨ a = b ∨ ltW b a = true := by
  rcases lessL_tot a.toList b.toList with h | h | h
  · exact .inl h
  · exact .inr (.inl (ba_toList.1 h))
  · exact .inr (.inr h)
theorem ltW_not {a b : ByteArray} (h1 : ltW a b = false) (h2 : a ≠ b) : ltW b a = true := by
  rcases ltW_tot a b with h | h | h
  · rw [h1] at h; cases h
  · exact absurd h h2
  · exact h
end Go.Pl

namespace Go.Pl
open Go.Ev
set_option linter.unusedVariables false
noncomputable section
def impl_PutLine.top (p0 : ByteArray × Int × List (ByteArray × Int)) (article1 : ByteArray) (count2 : Int) : Option ((ByteArray × Int × List (ByteArray × Int)) × Int) :=
  (impl_IsPaper.f p0).bind fun r1 =>
  if (!r1) = false then
    (impl_IsWord.f article1).bind fun r2 =>
    if (!r2) = true then
      some ((ByteArray.empty, (0, [])), 1)
    else
      (impl_within.f count2 1 1000).bind fun r3 =>
      if (!r3) = true then
        some ((ByteArray.empty, (0, [])), 2)
      else
        (impl_putLine.f p0.2.2 article1 count2).bind fun r4 =>
        if (decide ((12 : Int) < (r4.length : Int))) = true then
          some ((ByteArray.empty, (0, [])), 3)
        else
          (impl_withLines.f p0 r4).bind fun r5 =>
          some ((r5.1, (r5.2.1, r5.2.2)), 0)
  else
    some ((ByteArray.empty, (0, [])), 1)
def impl_PutLine.fn (n : Nat) (p0 : ByteArray × Int × List (ByteArray × Int)) (article1 : ByteArray) (count2 : Int) : Option ((ByteArray × Int × List (ByteArray × Int)) × Int) := impl_PutLine.top p0 article1 count2
def impl_PutLine.f (p0 : ByteArray × Int × List (ByteArray × Int)) (article1 : ByteArray) (count2 : Int) : Option ((ByteArray × Int × List (ByteArray × Int)) × Int) := impl_PutLine.fn NN p0 article1 count2
end
end Go.Pl

namespace Go.Pl
open Go.Ev
set_option linter.unusedVariables false
noncomputable section
def spec_PutLine.top (p0 : ByteArray × Int × List (ByteArray × Int)) (article1 : ByteArray) (count2 : Int) : Option ((ByteArray × Int × List (ByteArray × Int)) × Int) :=
  (spec_IsPaper.f p0).bind fun r1 =>
  if (!r1) = false then
    (spec_IsWord.f article1).bind fun r2 =>
    if (!r2) = true then
      some ((ByteArray.empty, (0, [])), 1)
    else
      (spec_l01In.f count2 1 1000).bind fun r3 =>
      if (!r3) = true then
        some ((ByteArray.empty, (0, [])), 2)
      else
        (spec_l29Find.f p0 article1).bind fun r4 =>
        if ([] : List (ByteArray × Int)).length + p0.2.2.length < room 24 then
          if (decide ((0 : Int) ≤ r4)) = true then
            if (0 : Int) ≤ r4 ∧ (r4 : Int) < (([] : List (ByteArray × Int)) ++ p0.2.2).length then
              (some ((([] : List (ByteArray × Int)) ++ p0.2.2).set (r4 : Int).toNat (((([] : List (ByteArray × Int)) ++ p0.2.2).getD (r4 : Int).toNat (ByteArray.empty, 0)).1, count2))).bind fun r5 =>
              some ((p0.1, (p0.2.1, r5)), 0)
            else
              none
          else
            (spec_l29Put.f (([] : List (ByteArray × Int)) ++ p0.2.2) article1 count2).bind fun r6 =>
            (spec_IsPaper.f (p0.1, (p0.2.1, r6))).bind fun r7 =>
            if (!r7) = true then
              some ((ByteArray.empty, (0, [])), 3)
            else
              some ((p0.1, (p0.2.1, r6)), 0)
        else
          none
  else
    some ((ByteArray.empty, (0, [])), 1)
def spec_PutLine.fn (n : Nat) (p0 : ByteArray × Int × List (ByteArray × Int)) (article1 : ByteArray) (count2 : Int) : Option ((ByteArray × Int × List (ByteArray × Int)) × Int) := spec_PutLine.top p0 article1 count2
def spec_PutLine.f (p0 : ByteArray × Int × List (ByteArray × Int)) (article1 : ByteArray) (count2 : Int) : Option ((ByteArray × Int × List (ByteArray × Int)) × Int) := spec_PutLine.fn NN p0 article1 count2
end
end Go.Pl

namespace Go.Pl
open Go.Ev
set_option linter.unusedVariables false
set_option linter.unusedSimpArgs false
abbrev Ln := ByteArray × Int
theorem ltS_W (a b : ByteArray) : ltS a b = ltW a b := rfl
/-- strictly rising by the article -/
def Srt (xs : List Ln) : Prop := xs.Pairwise fun a b => ltW a.1 b.1 = true
theorem linesF_pair : ∀ (r : List Ln) (x : Ln), linesF x r = true → Srt (x :: r) := by
  intro r
  induction r with
  | nil => intro x _; exact List.pairwise_singleton _ _
  | cons a r ih =>
    intro x h
    simp only [linesF, Bool.and_eq_true] at h
    have i := ih a h.2
    refine List.pairwise_cons.2 ⟨fun b hb => ?_, i⟩
    rcases List.mem_cons.1 hb with rfl | hb
    · exact h.1.2
    · exact ltW_trans h.1.2 ((List.pairwise_cons.1 i).1 b hb)
theorem linesB_srt {xs : List Ln} (h : linesB xs = true) : Srt xs := by
  unfold linesB at h
  simp only [Bool.and_eq_true] at h
  cases xs with
  | nil => exact List.Pairwise.nil
  | cons a r =>
    simp only [linesL, Bool.and_eq_true] at h
    exact linesF_pair r a h.2.2
theorem srt_linesF : ∀ (r : List Ln) (x : Ln), Srt (x :: r) → (∀ l ∈ r, lineOk l = true) → linesF x r = true := by
  intro r
  induction r with
  | nil => intro x _ _; rfl
  | cons a r ih =>
    intro x h ho
    obtain ⟨h1, h2⟩ := List.pairwise_cons.1 h
    simp only [linesF, Bool.and_eq_true]
    exact ⟨⟨ho a (by simp), h1 a (by simp)⟩, ih a h2 (fun l hl => ho l (by simp [hl]))⟩
theorem linesB_of {xs : List Ln} (h : Srt xs) (ho : ∀ l ∈ xs, lineOk l = true) (hl : xs.length ≤ 12) : linesB xs = true := by
  unfold linesB
  simp only [Bool.and_eq_true, decide_eq_true_eq]
  refine ⟨hl, ?_⟩
  cases xs with
  | nil => rfl
  | cons a r =>
    simp only [linesL, Bool.and_eq_true]
    exact ⟨ho a (by simp), srt_linesF r a h (fun l hl => ho l (by simp [hl]))⟩
/-- no line of an article -/
def remL (a : ByteArray) (xs : List Ln) : List Ln := xs.filter fun l => !decide (l.1 = a)
/-- a line put in at its place -/
def insL (a : ByteArray) (c : Int) : List Ln → List Ln
  | [] => [(a, c)]
  | l :: r => if (ltW a l.1 || decide (a = l.1)) = true then (a, c) :: remL a (l :: r) else l :: insL a c r
def putL (a : ByteArray) (c : Int) (xs : List Ln) : List Ln := if c = 0 then remL a xs else insL a c xs
def stepL (a : ByteArray) (c : Int) (st : List Ln × Bool) (l : Ln) : List Ln × Bool :=
  if (!st.2 && (ltW a l.1 || decide (a = l.1))) = true then ((if l.1 = a then st.1 ++ [(a, c)] else st.1 ++ [(a, c)] ++ [l]), true)
  else ((if l.1 = a then st.1 else st.1 ++ [l]), st.2)
def endL (a : ByteArray) (c : Int) (st : List Ln × Bool) : List Ln := if st.2 = true then st.1 else st.1 ++ [(a, c)]
theorem fold_rem (a : ByteArray) (c : Int) : ∀ (xs out : List Ln), xs.foldl (stepL a c) (out, true) = (out ++ remL a xs, true) := by
  intro xs
  induction xs with
  | nil => intro out; simp [remL]
  | cons l r ih =>
    intro out
    rw [List.foldl_cons]
    by_cases h : l.1 = a
    · simp only [stepL, Bool.not_true, Bool.false_and, Bool.false_eq_true, if_false, h, if_true, ih]
      simp [remL, h]
    · simp only [stepL, Bool.not_true, Bool.false_and, Bool.false_eq_true, if_false, h, ih]
      simp [remL, h]
theorem fold_ins (a : ByteArray) (c : Int) : ∀ (xs out : List Ln), endL a c (xs.foldl (stepL a c) (out, false)) = out ++ insL a c xs := by
  intro xs
  induction xs with
  | nil => intro out; simp [endL, insL]
  | cons l r ih =>
    intro out
    rw [List.foldl_cons]
    by_cases hp : (ltW a l.1 || decide (a = l.1)) = true
    · simp only [stepL, Bool.not_false, Bool.true_and, hp, if_true, insL, fold_rem, endL]
      by_cases h : l.1 = a <;> simp [remL, h]
    · have h : l.1 ≠ a := fun e => hp (by simp [e])
      simp only [stepL, Bool.not_false, Bool.true_and, hp, Bool.false_eq_true, if_false, h, insL, ih, List.append_assoc, List.singleton_append]
theorem fold_put (a : ByteArray) (c : Int) (xs : List Ln) : endL a c (xs.foldl (stepL a c) ([], decide (c = 0))) = putL a c xs := by
  unfold putL
  by_cases h : c = 0
  · simp only [h, decide_true, if_true, fold_rem, endL, List.nil_append]
  · simp only [h, decide_false, if_false, fold_ins, List.nil_append]
theorem stepL_len (a : ByteArray) (c : Int) (st : List Ln × Bool) (l : Ln) : (stepL a c st l).1.length ≤ st.1.length + 2 := by
  unfold stepL
  split <;> split <;> simp <;> omega
theorem impl_putLine_f (xs : List Ln) (a : ByteArray) (c : Int) (h : xs.length ≤ 1000) : impl_putLine.f xs a c = some (putL a c xs) := by
  have := (fold_fix (E := fun _ => True) (fun p (st : List Ln × Bool) => st.1.length ≤ 2 * p.length) (fun _ => stepL a c) (fun st => some (endL a c st)) (fun k i st => impl_putLine.l4 NN k a c st.2 xs xs.length i st.1) xs ?_ ?_ ([], decide (c = 0)) (fun _ _ => trivial) (by simp) (by omega) NN (NN_lt (by omega))).2
  · rw [foldi_foldl, fold_put] at this
    unfold impl_putLine.f impl_putLine.fn impl_putLine.top
    rw [← this]
    rfl
  · intro k st hI
    simp only [impl_putLine.l4, impl_putLine.g4, Int.lt_irrefl, and_self, and_true, true_and, decide_true, decide_false, if_true, if_false, mid_get, mid_set, mid_getn, mid_setn, bt_mid, Option.bind_some, Bool.not_true, Bool.not_false, Bool.false_eq_true, Bool.true_eq_false, beq_self_eq_true, bne_self_eq_false, Int.toNat_natCast]
    rw [if_pos (room24' st.1 _ (by have := hI; omega))]
    unfold endL
    cases st.2 <;> simp
  · intro k p l r st hx hl hI c0 c1 c2 cw g
    have hp : p.length ≤ 1000 := by rw [hx] at h; simp at h; omega
    refine ⟨by have := stepL_len a c st l; rw [List.length_append, List.length_singleton]; omega, ?_⟩
    simp only [impl_putLine.l4, impl_putLine.g4, c0, c1, cw, and_self, and_true, true_and, decide_true, decide_false, if_true, if_false, mid_get, mid_set, mid_getn, mid_setn, bt_mid, Option.bind_some, Bool.not_true, Bool.not_false, Bool.false_eq_true, Bool.true_eq_false, beq_self_eq_true, bne_self_eq_false, Int.toNat_natCast, g]
    have q1 := room24' st.1 (a, c) (by omega)
    have q2 := room24' st.1 l (by omega)
    have q3 := room24' (st.1 ++ [(a, c)]) l (by simp; omega)
    simp only [q1, q2, q3, if_true, ba_beq, stepL]
    rw [show Op.bytesLess a.toList l.1.toList = ltW a l.1 from rfl]
    obtain ⟨out, b⟩ := st
    by_cases h1 : a = l.1
    · cases b <;> cases ltW a l.1 <;> simp [h1]
    · have h2 : ¬ l.1 = a := fun e => h1 e.symm
      cases b <;> cases ltW a l.1 <;> simp [h1, h2]
/-- a line put in, with more of an article -/
def addA (a : ByteArray) (c : Int) : List Ln → List Ln
  | [] => [(a, c)]
  | l :: r => if ltW l.1 a = true then l :: addA a c r else if l.1 = a then (a, c + l.2) :: r else (a, c) :: l :: r
def addC (a : ByteArray) (c : Int) (xs : List Ln) (i : Nat) (l : Ln) : List Ln := if l.1 = a then xs.take i ++ (a, c + l.2) :: xs.drop (i + 1) else xs.take i ++ (a, c) :: xs.drop i
theorem addA_first (a : ByteArray) (c : Int) : ∀ (r p : List Ln), p ++ addA a c r = (firstOf (fun l : Ln => !ltW l.1 a) p.length r).elim (p ++ r ++ [(a, c)]) (fun x => addC a c (p ++ r) x.1 x.2) := by
  intro r
  induction r with
  | nil => intro p; simp [addA, firstOf]
  | cons l r ih =>
    intro p
    have := ih (p ++ [l])
    simp only [addA, firstOf]
    by_cases h : ltW l.1 a = true
    · simp only [h, if_true, Bool.not_true, Bool.false_eq_true, if_false]
      simp only [List.length_append, List.length_singleton, List.append_assoc, List.singleton_append] at this ⊢
      exact this
    · simp only [Bool.not_eq_true] at h
      simp only [h, Bool.false_eq_true, if_false, Bool.not_false, if_true, Option.elim, addC]
      by_cases h2 : l.1 = a <;> simp [h2]
theorem spec_l29Put_f (xs : List Ln) (a : ByteArray) (c : Int) (h : xs.length ≤ 1000) (hc : 0 ≤ c ∧ c ≤ 1000000) (hx : ∀ l ∈ xs, 0 ≤ l.2 ∧ l.2 ≤ 1000000) : spec_l29Put.f xs a c = some (addA a c xs) := by
  have hr : ∀ n : Nat, n ≤ 2000 → n < room 24 := fun n hn => by rw [room24]; omega
  have := find_loop (E := fun l : Ln => 0 ≤ l.2 ∧ l.2 ≤ 1000000) (fun l : Ln => !ltW l.1 a) (fun i l => some (addC a c xs i l)) (fun p => some (p ++ [(a, c)])) (fun k p i => if p = xs then spec_l29Put.l2 NN k p a c i else (firstOf (fun l : Ln => !ltW l.1 a) i.toNat (p.drop i.toNat)).elim (some (p ++ [(a, c)])) (fun x => some (addC a c xs x.1 x.2))) ?_ ?_ xs hx (by omega) NN (NN_lt (by omega))
  · rw [if_pos rfl] at this
    unfold spec_l29Put.f spec_l29Put.fn spec_l29Put.top
    rw [this]
    have h2 := addA_first a c xs []
    simp only [List.nil_append, List.length_nil] at h2
    rw [h2]
    cases firstOf (fun l : Ln => !ltW l.1 a) 0 xs <;> rfl
  · intro k p
    by_cases hp : p = xs
    · subst hp
      rw [if_pos rfl]
      simp only [spec_l29Put.l2, spec_l29Put.g2, Int.lt_irrefl, and_self, and_true, true_and, decide_true, decide_false, if_true, if_false, mid_get, mid_set, mid_getn, mid_setn, bt_mid, Option.bind_some, Bool.not_true, Bool.not_false, Bool.false_eq_true, Bool.true_eq_false, beq_self_eq_true, bne_self_eq_false, Int.toNat_natCast, Int.le_refl]
      have q0 : (0 : Int) ≤ (p.length : Int) := by omega
      simp only [q0, and_self, and_true, true_and, decide_true, decide_false, if_true, if_false, mid_get, mid_set, mid_getn, mid_setn, bt_mid, Option.bind_some, Bool.not_true, Bool.not_false, Bool.false_eq_true, Bool.true_eq_false, beq_self_eq_true, bne_self_eq_false, Int.toNat_natCast, List.take_length, List.drop_length, List.nil_append, List.append_nil]
      rw [if_pos (hr _ (by simp; omega)), if_pos (hr _ (by simp; omega)), if_pos (hr _ (by simp; omega))]
    · rw [if_neg hp]; simp [firstOf]
  · intro k p l r he c0 c1 c2 cw
    by_cases hp : p ++ l :: r = xs
    · rw [if_pos hp, if_pos hp, hp]
      have c1' : (p.length : Int) < (xs.length : Int) := by rw [← hp]; exact c1
      have g : ∀ z, xs.getD p.length z = l := fun z => by rw [← hp, mid_getn]
      have hpl : p.length + 1 ≤ 1000 := by omega
      have c3 : (p.length : Int) ≤ (xs.length : Int) := by omega
      have c4 : (0 : Int) ≤ (p.length : Int) + 1 := by omega
      have c5 : (p.length : Int) + 1 ≤ (xs.length : Int) := by omega
      have e1 := w64 (n := c + l.2) (by omega) (by omega)
      have t1 : ((p.length : Int) + 1).toNat = p.length + 1 := by omega
      simp only [spec_l29Put.l2, spec_l29Put.g2, c0, c1', c3, c4, c5, cw, and_self, and_true, true_and, decide_true, decide_false, if_true, if_false, mid_get, mid_set, mid_getn, mid_setn, bt_mid, Option.bind_some, Bool.not_true, Bool.not_false, Bool.false_eq_true, Bool.true_eq_false, beq_self_eq_true, bne_self_eq_false, Int.toNat_natCast, g, e1, t1]
      rw [show Op.bytesLess l.1.toList a.toList = ltW l.1 a from rfl, ba_beq]
      cases h1 : ltW l.1 a
      · simp only [Bool.false_eq_true, if_false, Bool.not_false, if_true, addC, decide_eq_true_eq]
        by_cases h2 : l.1 = a
        · simp only [h2, if_true, List.nil_append]
          rw [if_pos (hr _ (by simp; omega)), if_pos (hr _ (by simp; omega)), if_pos (hr _ (by simp; omega))]
          simp
        · simp only [h2, if_false, List.nil_append]
          rw [if_pos (hr _ (by simp; omega)), if_pos (hr _ (by simp; omega)), if_pos (hr _ (by simp; omega))]
          simp
      · simp
    · rw [if_neg hp, if_neg hp]
      have t1 : ((p.length : Int) + 1).toNat = p.length + 1 := by omega
      rw [t1, Int.toNat_natCast, List.drop_left, show p ++ l :: r = (p ++ [l]) ++ r by simp, show p.length + 1 = (p ++ [l]).length by simp, List.drop_left]
      simp only [firstOf]
      by_cases h1 : ltW l.1 a = true
      · simp only [h1, Bool.not_true, Bool.false_eq_true, if_false, List.length_append, List.length_singleton]
      · simp only [Bool.not_eq_true] at h1
        simp only [h1, Bool.not_false, if_true, Option.elim]
/-- a list that holds an article -/
theorem first_split {a : ByteArray} : ∀ (xs : List Ln) (i : Nat), (∃ p y r, xs = p ++ y :: r ∧ y.1 = a ∧ (∀ l ∈ p, l.1 ≠ a) ∧ firstOf (fun l : Ln => decide (l.1 = a)) i xs = some (i + p.length, y)) ∨ ((∀ l ∈ xs, l.1 ≠ a) ∧ firstOf (fun l : Ln => decide (l.1 = a)) i xs = none) := by
  intro xs
  induction xs with
  | nil => intro i; exact .inr ⟨by simp, rfl⟩
  | cons l r ih =>
    intro i
    by_cases h : l.1 = a
    · exact .inl ⟨[], l, r, rfl, h, by simp, by simp [firstOf, h]⟩
    · rcases ih (i + 1) with ⟨p, y, q, rfl, h1, h2, h3⟩ | ⟨h1, h2⟩
      · refine .inl ⟨l :: p, y, q, rfl, h1, fun x hx => ?_, ?_⟩
        · rcases List.mem_cons.1 hx with rfl | hx
          · exact h
          · exact h2 x hx
        · simp only [firstOf, h, decide_false, Bool.false_eq_true, if_false, h3, List.length_cons]
          congr 2; omega
      · refine .inr ⟨fun x hx => ?_, by simp only [firstOf, h, decide_false, Bool.false_eq_true, if_false, h2]⟩
        rcases List.mem_cons.1 hx with rfl | hx
        · exact h
        · exact h1 x hx
theorem rem_none {a : ByteArray} {xs : List Ln} (h : ∀ l ∈ xs, l.1 ≠ a) : remL a xs = xs := by
  unfold remL
  rw [List.filter_eq_self]
  intro l hl
  simp [h l hl]
theorem rem_mid {a : ByteArray} {p r : List Ln} {y : Ln} (hy : y.1 = a) (hp : ∀ l ∈ p, l.1 ≠ a) (hr : ∀ l ∈ r, l.1 ≠ a) : remL a (p ++ y :: r) = p ++ r := by
  have h1 := rem_none hp
  have h2 := rem_none hr
  unfold remL at *
  rw [List.filter_append, h1, List.filter_cons, h2]
  simp [hy]
theorem srt_mid {p r : List Ln} {y : Ln} (h : Srt (p ++ y :: r)) : (∀ l ∈ p, ltW l.1 y.1 = true) ∧ (∀ l ∈ r, ltW y.1 l.1 = true) := by
  obtain ⟨h1, h2, h3⟩ := List.pairwise_append.1 h
  exact ⟨fun l hl => h3 l hl y (by simp), fun l hl => (List.pairwise_cons.1 h2).1 l hl⟩
theorem ins_mid {a : ByteArray} (c : Int) {r : List Ln} {y : Ln} (hy : y.1 = a) (hr : ∀ l ∈ r, l.1 ≠ a) : ∀ (p : List Ln), (∀ l ∈ p, ltW l.1 a = true) → insL a c (p ++ y :: r) = p ++ (a, c) :: r := by
  intro p
  induction p with
  | nil =>
    intro _
    simp only [List.nil_append, insL, hy, decide_true, Bool.or_true, if_true]
    congr 1
    exact rem_mid (p := []) hy (by simp) hr
  | cons l p ih =>
    intro hp
    have h1 := hp l (by simp)
    have h2 := ltW_asym h1
    have h3 : ¬ a = l.1 := fun e => ltW_ne h1 e.symm
    simp only [List.cons_append, insL, h2, h3, decide_false, Bool.or_false, Bool.false_eq_true, if_false, ih (fun x hx => hp x (by simp [hx]))]
/-- where an article is not there yet -/
theorem ins_add {a : ByteArray} (c : Int) : ∀ (xs : List Ln), Srt xs → (∀ l ∈ xs, l.1 ≠ a) → insL a c xs = addA a c xs := by
  intro xs
  induction xs with
  | nil => intro _ _; rfl
  | cons l r ih =>
    intro hs h
    obtain ⟨h1, h2⟩ := List.pairwise_cons.1 hs
    have h3 := h l (by simp)
    have h4 : ¬ a = l.1 := fun e => h3 e.symm
    rcases ltW_tot l.1 a with q | q | q
    · simp only [insL, addA, q, ltW_asym q, h4, decide_false, Bool.or_false, Bool.false_eq_true, if_false, if_true, ih h2 (fun x hx => h x (by simp [hx]))]
    · exact absurd q h3
    · simp only [insL, addA, q, ltW_asym q, h3, Bool.true_or, if_true, Bool.false_eq_true, if_false]
      rw [rem_none h]
theorem add_mid {a : ByteArray} (c : Int) {r : List Ln} {y : Ln} (hy : y.1 = a) : ∀ (p : List Ln), (∀ l ∈ p, ltW l.1 a = true) → addA a c (p ++ y :: r) = p ++ (a, c + y.2) :: r := by
  intro p
  induction p with
  | nil => intro _; simp [addA, hy, ltW_irr]
  | cons l p ih => intro hp; simp only [List.cons_append, addA, hp l (by simp), if_true, ih (fun x hx => hp x (by simp [hx]))]
theorem mem_add {a : ByteArray} {c : Int} {x : Ln} : ∀ (xs : List Ln), x ∈ addA a c xs → x = (a, c) ∨ (∃ l ∈ xs, l.1 = a ∧ x = (a, c + l.2)) ∨ x ∈ xs := by
  intro xs
  induction xs with
  | nil => intro h; simp only [addA, List.mem_singleton] at h; exact .inl h
  | cons l r ih =>
    intro h
    simp only [addA] at h
    split at h
    · rcases List.mem_cons.1 h with rfl | h
      · exact .inr (.inr (by simp))
      · rcases ih h with h | ⟨y, h1, h2⟩ | h
        · exact .inl h
        · exact .inr (.inl ⟨y, by simp [h1], h2⟩)
        · exact .inr (.inr (by simp [h]))
    · split at h
      · rename_i he
        rcases List.mem_cons.1 h with rfl | h
        · exact .inr (.inl ⟨l, by simp, he, rfl⟩)
        · exact .inr (.inr (by simp [h]))
      · rcases List.mem_cons.1 h with rfl | h
        · exact .inl rfl
        · exact .inr (.inr h)
theorem add_srt {a : ByteArray} {c : Int} : ∀ (xs : List Ln), Srt xs → Srt (addA a c xs) := by
  intro xs
  induction xs with
  | nil => intro _; exact List.pairwise_singleton _ _
  | cons l r ih =>
    intro hs
    obtain ⟨h1, h2⟩ := List.pairwise_cons.1 hs
    simp only [addA]
    split
    · rename_i h
      refine List.pairwise_cons.2 ⟨fun x hx => ?_, ih h2⟩
      rcases mem_add r hx with rfl | ⟨y, _, h3, rfl⟩ | h3
      · exact h
      · exact h
      · exact h1 x h3
    · rename_i h
      split
      · rename_i he
        exact List.pairwise_cons.2 ⟨fun x hx => by rw [← he]; exact h1 x hx, h2⟩
      · rename_i he
        have hlt : ltW a l.1 = true := ltW_not (by simpa using h) he
        refine List.pairwise_cons.2 ⟨fun x hx => ?_, hs⟩
        rcases List.mem_cons.1 hx with rfl | hx
        · exact hlt
        · exact ltW_trans hlt (h1 x hx)
theorem add_len {a : ByteArray} {c : Int} : ∀ (xs : List Ln), (addA a c xs).length ≤ xs.length + 1 := by
  intro xs
  induction xs with
  | nil => simp [addA]
  | cons l r ih =>
    simp only [addA]
    split
    · simp only [List.length_cons]; omega
    · split <;> simp
end Go.Pl

namespace Go.Pl
open Go.Ev
set_option linter.unusedVariables false
noncomputable section
def impl_CutLine.top (p0 : ByteArray × Int × List (ByteArray × Int)) (article1 : ByteArray) : Option ((ByteArray × Int × List (ByteArray × Int)) × Int) :=
  (impl_IsPaper.f p0).bind fun r1 =>
  if (!r1) = false then
    (impl_IsWord.f article1).bind fun r2 =>
    if (!r2) = true then
      some ((ByteArray.empty, (0, [])), 1)
    else
      (impl_countIn.f p0.2.2 article1).bind fun r3 =>
      if ((r3 : Int) == 0) = true then
        some ((ByteArray.empty, (0, [])), 4)
      else
        (impl_putLine.f p0.2.2 article1 0).bind fun r4 =>
        (impl_withLines.f p0 r4).bind fun r5 =>
        some ((r5.1, (r5.2.1, r5.2.2)), 0)
  else
    some ((ByteArray.empty, (0, [])), 1)
def impl_CutLine.fn (n : Nat) (p0 : ByteArray × Int × List (ByteArray × Int)) (article1 : ByteArray) : Option ((ByteArray × Int × List (ByteArray × Int)) × Int) := impl_CutLine.top p0 article1
def impl_CutLine.f (p0 : ByteArray × Int × List (ByteArray × Int)) (article1 : ByteArray) : Option ((ByteArray × Int × List (ByteArray × Int)) × Int) := impl_CutLine.fn NN p0 article1
end
end Go.Pl

namespace Go.Pl
open Go.Ev
set_option linter.unusedVariables false
noncomputable section
def spec_CutLine.top (p0 : ByteArray × Int × List (ByteArray × Int)) (article1 : ByteArray) : Option ((ByteArray × Int × List (ByteArray × Int)) × Int) :=
  (spec_IsPaper.f p0).bind fun r1 =>
  if (!r1) = false then
    (spec_IsWord.f article1).bind fun r2 =>
    if (!r2) = true then
      some ((ByteArray.empty, (0, [])), 1)
    else
      (spec_l29Find.f p0 article1).bind fun r3 =>
      if (decide ((r3 : Int) < 0)) = true then
        some ((ByteArray.empty, (0, [])), 4)
      else
        agree (
          agree (
            agree (
              agree (
                if (0 : Int) ≤ r3 ∧ (r3 : Int) ≤ p0.2.2.length then
                  agree (
                    if ([] : List (ByteArray × Int)).length + (p0.2.2.take (r3 : Int).toNat).length < room 24 then
                      if (0 : Int) ≤ (IntKind.i64.wrap (r3 + 1)) ∧ ((IntKind.i64.wrap (r3 + 1)) : Int) ≤ p0.2.2.length then
                        if (([] : List (ByteArray × Int)) ++ (p0.2.2.take (r3 : Int).toNat)).length + (p0.2.2.drop ((IntKind.i64.wrap (r3 + 1)) : Int).toNat).length < room 24 then
                          some ((p0.1, (p0.2.1, (([] : List (ByteArray × Int)) ++ (p0.2.2.take (r3 : Int).toNat)) ++ (p0.2.2.drop ((IntKind.i64.wrap (r3 + 1)) : Int).toNat))), 0)
                        else
                          none
                      else
                        none
                    else
                      none
                  ) (
                    if (0 : Int) ≤ (IntKind.i64.wrap (r3 + 1)) ∧ ((IntKind.i64.wrap (r3 + 1)) : Int) ≤ p0.2.2.length then
                      if ([] : List (ByteArray × Int)).length + (p0.2.2.take (r3 : Int).toNat).length < room 24 then
                        if (([] : List (ByteArray × Int)) ++ (p0.2.2.take (r3 : Int).toNat)).length + (p0.2.2.drop ((IntKind.i64.wrap (r3 + 1)) : Int).toNat).length < room 24 then
                          some ((p0.1, (p0.2.1, (([] : List (ByteArray × Int)) ++ (p0.2.2.take (r3 : Int).toNat)) ++ (p0.2.2.drop ((IntKind.i64.wrap (r3 + 1)) : Int).toNat))), 0)
                        else
                          none
                      else
                        none
                    else
                      none
                  )
                else
                  none
              ) (
                if (0 : Int) ≤ (IntKind.i64.wrap (r3 + 1)) ∧ ((IntKind.i64.wrap (r3 + 1)) : Int) ≤ p0.2.2.length then
                  if (0 : Int) ≤ r3 ∧ (r3 : Int) ≤ p0.2.2.length then
                    if ([] : List (ByteArray × Int)).length + (p0.2.2.take (r3 : Int).toNat).length < room 24 then
                      if (([] : List (ByteArray × Int)) ++ (p0.2.2.take (r3 : Int).toNat)).length + (p0.2.2.drop ((IntKind.i64.wrap (r3 + 1)) : Int).toNat).length < room 24 then
                        some ((p0.1, (p0.2.1, (([] : List (ByteArray × Int)) ++ (p0.2.2.take (r3 : Int).toNat)) ++ (p0.2.2.drop ((IntKind.i64.wrap (r3 + 1)) : Int).toNat))), 0)
                      else
                        none
                    else
                      none
                  else
                    none
                else
                  none
              )
            ) (
              agree (
                if (0 : Int) ≤ r3 ∧ (r3 : Int) ≤ p0.2.2.length then
                  agree (
                    agree (
                      if ([] : List (ByteArray × Int)).length + (p0.2.2.take (r3 : Int).toNat).length < room 24 then
                        if (0 : Int) ≤ (IntKind.i64.wrap (r3 + 1)) ∧ ((IntKind.i64.wrap (r3 + 1)) : Int) ≤ p0.2.2.length then
                          if (([] : List (ByteArray × Int)) ++ (p0.2.2.take (r3 : Int).toNat)).length + (p0.2.2.drop ((IntKind.i64.wrap (r3 + 1)) : Int).toNat).length < room 24 then
                            some ((p0.1, (p0.2.1, (([] : List (ByteArray × Int)) ++ (p0.2.2.take (r3 : Int).toNat)) ++ (p0.2.2.drop ((IntKind.i64.wrap (r3 + 1)) : Int).toNat))), 0)
                          else
                            none
                        else
                          none
                      else
                        none
                    ) (
                      if (0 : Int) ≤ (IntKind.i64.wrap (r3 + 1)) ∧ ((IntKind.i64.wrap (r3 + 1)) : Int) ≤ p0.2.2.length then
                        if ([] : List (ByteArray × Int)).length + (p0.2.2.take (r3 : Int).toNat).length < room 24 then
                          if (([] : List (ByteArray × Int)) ++ (p0.2.2.take (r3 : Int).toNat)).length + (p0.2.2.drop ((IntKind.i64.wrap (r3 + 1)) : Int).toNat).length < room 24 then
                            some ((p0.1, (p0.2.1, (([] : List (ByteArray × Int)) ++ (p0.2.2.take (r3 : Int).toNat)) ++ (p0.2.2.drop ((IntKind.i64.wrap (r3 + 1)) : Int).toNat))), 0)
                          else
                            none
                        else
                          none
                      else
                        none
                    )
                  ) (
                    if (0 : Int) ≤ (IntKind.i64.wrap (r3 + 1)) ∧ ((IntKind.i64.wrap (r3 + 1)) : Int) ≤ p0.2.2.length then
                      if ([] : List (ByteArray × Int)).length + (p0.2.2.take (r3 : Int).toNat).length < room 24 then
                        if (([] : List (ByteArray × Int)) ++ (p0.2.2.take (r3 : Int).toNat)).length + (p0.2.2.drop ((IntKind.i64.wrap (r3 + 1)) : Int).toNat).length < room 24 then
                          some ((p0.1, (p0.2.1, (([] : List (ByteArray × Int)) ++ (p0.2.2.take (r3 : Int).toNat)) ++ (p0.2.2.drop ((IntKind.i64.wrap (r3 + 1)) : Int).toNat))), 0)
                        else
                          none
                      else
                        none
                    else
                      none
                  )
                else
                  none
              ) (
                if (0 : Int) ≤ (IntKind.i64.wrap (r3 + 1)) ∧ ((IntKind.i64.wrap (r3 + 1)) : Int) ≤ p0.2.2.length then
                  if (0 : Int) ≤ r3 ∧ (r3 : Int) ≤ p0.2.2.length then
                    if ([] : List (ByteArray × Int)).length + (p0.2.2.take (r3 : Int).toNat).length < room 24 then
                      if (([] : List (ByteArray × Int)) ++ (p0.2.2.take (r3 : Int).toNat)).length + (p0.2.2.drop ((IntKind.i64.wrap (r3 + 1)) : Int).toNat).length < room 24 then
                        some ((p0.1, (p0.2.1, (([] : List (ByteArray × Int)) ++ (p0.2.2.take (r3 : Int).toNat)) ++ (p0.2.2.drop ((IntKind.i64.wrap (r3 + 1)) : Int).toNat))), 0)
                      else
                        none
                    else
                      none
                  else
                    none
                else
                  none
              )
            )
          ) (
            agree (
              agree (
                agree (
                  if (0 : Int) ≤ r3 ∧ (r3 : Int) ≤ p0.2.2.length then
                    agree (
                      if ([] : List (ByteArray × Int)).length + (p0.2.2.take (r3 : Int).toNat).length < room 24 then
                        if (0 : Int) ≤ (IntKind.i64.wrap (r3 + 1)) ∧ ((IntKind.i64.wrap (r3 + 1)) : Int) ≤ p0.2.2.length then
                          if (([] : List (ByteArray × Int)) ++ (p0.2.2.take (r3 : Int).toNat)).length + (p0.2.2.drop ((IntKind.i64.wrap (r3 + 1)) : Int).toNat).length < room 24 then
                            some ((p0.1, (p0.2.1, (([] : List (ByteArray × Int)) ++ (p0.2.2.take (r3 : Int).toNat)) ++ (p0.2.2.drop ((IntKind.i64.wrap (r3 + 1)) : Int).toNat))), 0)
                          else
                            none
                        else
                          none
                      else
                        none
                    ) (
                      if (0 : Int) ≤ (IntKind.i64.wrap (r3 + 1)) ∧ ((IntKind.i64.wrap (r3 + 1)) : Int) ≤ p0.2.2.length then
                        if ([] : List (ByteArray × Int)).length + (p0.2.2.take (r3 : Int).toNat).length < room 24 then
                          if (([] : List (ByteArray × Int)) ++ (p0.2.2.take (r3 : Int).toNat)).length + (p0.2.2.drop ((IntKind.i64.wrap (r3 + 1)) : Int).toNat).length < room 24 then
                            some ((p0.1, (p0.2.1, (([] : List (ByteArray × Int)) ++ (p0.2.2.take (r3 : Int).toNat)) ++ (p0.2.2.drop ((IntKind.i64.wrap (r3 + 1)) : Int).toNat))), 0)
                          else
                            none
                        else
                          none
                      else
                        none
                    )
                  else
                    none
                ) (
                  if (0 : Int) ≤ (IntKind.i64.wrap (r3 + 1)) ∧ ((IntKind.i64.wrap (r3 + 1)) : Int) ≤ p0.2.2.length then
                    if (0 : Int) ≤ r3 ∧ (r3 : Int) ≤ p0.2.2.length then
                      if ([] : List (ByteArray × Int)).length + (p0.2.2.take (r3 : Int).toNat).length < room 24 then
                        if (([] : List (ByteArray × Int)) ++ (p0.2.2.take (r3 : Int).toNat)).length + (p0.2.2.drop ((IntKind.i64.wrap (r3 + 1)) : Int).toNat).length < room 24 then
                          some ((p0.1, (p0.2.1, (([] : List (ByteArray × Int)) ++ (p0.2.2.take (r3 : Int).toNat)) ++ (p0.2.2.drop ((IntKind.i64.wrap (r3 + 1)) : Int).toNat))), 0)
                        else
                          none
                      else
                        none
                    else
                      none
                  else
                    none
                )
              ) (
                agree (
                  if (0 : Int) ≤ r3 ∧ (r3 : Int) ≤ p0.2.2.length then
                    agree (
                      agree (
                        if ([] : List (ByteArray × Int)).length + (p0.2.2.take (r3 : Int).toNat).length < room 24 then
                          if (0 : Int) ≤ (IntKind.i64.wrap (r3 + 1)) ∧ ((IntKind.i64.wrap (r3 + 1)) : Int) ≤ p0.2.2.length then
                            if (([] : List (ByteArray × Int)) ++ (p0.2.2.take (r3 : Int).toNat)).length + (p0.2.2.drop ((IntKind.i64.wrap (r3 + 1)) : Int).toNat).length < room 24 then
                              some ((p0.1, (p0.2.1, (([] : List (ByteArray × Int)) ++ (p0.2.2.take (r3 : Int).toNat)) ++ (p0.2.2.drop ((IntKind.i64.wrap (r3 + 1)) : Int).toNat))), 0)
                            else
                              none
                          else
                            none
                        else
                          none
                      ) (
                        if (0 : Int) ≤ (IntKind.i64.wrap (r3 + 1)) ∧ ((IntKind.i64.wrap (r3 + 1)) : Int) ≤ p0.2.2.length then
                          if ([] : List (ByteArray × Int)).length + (p0.2.2.take (r3 : Int).toNat).length < room 24 then
                            if (([] : List (ByteArray × Int)) ++ (p0.2.2.take (r3 : Int).toNat)).length + (p0.2.2.drop ((IntKind.i64.wrap (r3 + 1)) : Int).toNat).length < room 24 then
                              some ((p0.1, (p0.2.1, (([] : List (ByteArray × Int)) ++ (p0.2.2.take (r3 : Int).toNat)) ++ (p0.2.2.drop ((IntKind.i64.wrap (r3 + 1)) : Int).toNat))), 0)
                            else
                              none
                          else
                            none
                        else
                          none
                      )
                    ) (
                      agree (
                        if ([] : List (ByteArray × Int)).length + (p0.2.2.take (r3 : Int).toNat).length < room 24 then
                          if (0 : Int) ≤ (IntKind.i64.wrap (r3 + 1)) ∧ ((IntKind.i64.wrap (r3 + 1)) : Int) ≤ p0.2.2.length then
                            if (([] : List (ByteArray × Int)) ++ (p0.2.2.take (r3 : Int).toNat)).length + (p0.2.2.drop ((IntKind.i64.wrap (r3 + 1)) : Int).toNat).length < room 24 then
                              some ((p0.1, (p0.2.1, (([] : List (ByteArray × Int)) ++ (p0.2.2.take (r3 : Int).toNat)) ++ (p0.2.2.drop ((IntKind.i64.wrap (r3 + 1)) : Int).toNat))), 0)
                            else
                              none
                          else
                            none
                        else
                          none
                      ) (
                        if (0 : Int) ≤ (IntKind.i64.wrap (r3 + 1)) ∧ ((IntKind.i64.wrap (r3 + 1)) : Int) ≤ p0.2.2.length then
                          if ([] : List (ByteArray × Int)).length + (p0.2.2.take (r3 : Int).toNat).length < room 24 then
                            if (([] : List (ByteArray × Int)) ++ (p0.2.2.take (r3 : Int).toNat)).length + (p0.2.2.drop ((IntKind.i64.wrap (r3 + 1)) : Int).toNat).length < room 24 then
                              some ((p0.1, (p0.2.1, (([] : List (ByteArray × Int)) ++ (p0.2.2.take (r3 : Int).toNat)) ++ (p0.2.2.drop ((IntKind.i64.wrap (r3 + 1)) : Int).toNat))), 0)
                            else
                              none
                          else
                            none
                        else
                          none
                      )
                    )
                  else
                    none
                ) (
                  if (0 : Int) ≤ (IntKind.i64.wrap (r3 + 1)) ∧ ((IntKind.i64.wrap (r3 + 1)) : Int) ≤ p0.2.2.length then
                    if (0 : Int) ≤ r3 ∧ (r3 : Int) ≤ p0.2.2.length then
                      if ([] : List (ByteArray × Int)).length + (p0.2.2.take (r3 : Int).toNat).length < room 24 then
                        if (([] : List (ByteArray × Int)) ++ (p0.2.2.take (r3 : Int).toNat)).length + (p0.2.2.drop ((IntKind.i64.wrap (r3 + 1)) : Int).toNat).length < room 24 then
                          some ((p0.1, (p0.2.1, (([] : List (ByteArray × Int)) ++ (p0.2.2.take (r3 : Int).toNat)) ++ (p0.2.2.drop ((IntKind.i64.wrap (r3 + 1)) : Int).toNat))), 0)
                        else
                          none
                      else
                        none
                    else
                      none
                  else
                    none
                )
              )
            ) (
              agree (
                if (0 : Int) ≤ r3 ∧ (r3 : Int) ≤ p0.2.2.length then
                  agree (
                    agree (
                      agree (
                        if ([] : List (ByteArray × Int)).length + (p0.2.2.take (r3 : Int).toNat).length < room 24 then
                          if (0 : Int) ≤ (IntKind.i64.wrap (r3 + 1)) ∧ ((IntKind.i64.wrap (r3 + 1)) : Int) ≤ p0.2.2.length then
                            if (([] : List (ByteArray × Int)) ++ (p0.2.2.take (r3 : Int).toNat)).length + (p0.2.2.drop ((IntKind.i64.wrap (r3 + 1)) : Int).toNat).length < room 24 then
                              some ((p0.1, (p0.2.1, (([] : List (ByteArray × Int)) ++ (p0.2.2.take (r3 : Int).toNat)) ++ (p0.2.2.drop ((IntKind.i64.wrap (r3 + 1)) : Int).toNat))), 0)
                            else
                              none
                          else
                            none
                        else
                          none
                      ) (
                        if (0 : Int) ≤ (IntKind.i64.wrap (r3 + 1)) ∧ ((IntKind.i64.wrap (r3 + 1)) : Int) ≤ p0.2.2.length then
                          if ([] : List (ByteArray × Int)).length + (p0.2.2.take (r3 : Int).toNat).length < room 24 then
                            if (([] : List (ByteArray × Int)) ++ (p0.2.2.take (r3 : Int).toNat)).length + (p0.2.2.drop ((IntKind.i64.wrap (r3 + 1)) : Int).toNat).length < room 24 then
                              some ((p0.1, (p0.2.1, (([] : List (ByteArray × Int)) ++ (p0.2.2.take (r3 : Int).toNat)) ++ (p0.2.2.drop ((IntKind.i64.wrap (r3 + 1)) : Int).toNat))), 0)
                            else
                              none
                          else
                            none
                        else
                          none
                      )
                    ) (
                      if (0 : Int) ≤ (IntKind.i64.wrap (r3 + 1)) ∧ ((IntKind.i64.wrap (r3 + 1)) : Int) ≤ p0.2.2.length then
                        if ([] : List (ByteArray × Int)).length + (p0.2.2.take (r3 : Int).toNat).length < room 24 then
                          if (([] : List (ByteArray × Int)) ++ (p0.2.2.take (r3 : Int).toNat)).length + (p0.2.2.drop ((IntKind.i64.wrap (r3 + 1)) : Int).toNat).length < room 24 then
                            some ((p0.1, (p0.2.1, (([] : List (ByteArray × Int)) ++ (p0.2.2.take (r3 : Int).toNat)) ++ (p0.2.2.drop ((IntKind.i64.wrap (r3 + 1)) : Int).toNat))), 0)
                          else
                            none
                        else
                          none
                      else
                        none
                    )
                  ) (
                    agree (
                      agree (
                        agree (
                          if ([] : List (ByteArray × Int)).length + (p0.2.2.take (r3 : Int).toNat).length < room 24 then
                            if (0 : Int) ≤ (IntKind.i64.wrap (r3 + 1)) ∧ ((IntKind.i64.wrap (r3 + 1)) : Int) ≤ p0.2.2.length then
                              if (([] : List (ByteArray × Int)) ++ (p0.2.2.take (r3 : Int).toNat)).length + (p0.2.2.drop ((IntKind.i64.wrap (r3 + 1)) : Int).toNat).length < room 24 then
                                some ((p0.1, (p0.2.1, (([] : List (ByteArray × Int)) ++ (p0.2.2.take (r3 : Int).toNat)) ++ (p0.2.2.drop ((IntKind.i64.wrap (r3 + 1)) : Int).toNat))), 0)
                              else
                                none
                            else
                              none
                          else
                            none
                        ) (
                          if (0 : Int) ≤ (IntKind.i64.wrap (r3 + 1)) ∧ ((IntKind.i64.wrap (r3 + 1)) : Int) ≤ p0.2.2.length then
                            if ([] : List (ByteArray × Int)).length + (p0.2.2.take (r3 : Int).toNat).length < room 24 then
                              if (([] : List (ByteArray × Int)) ++ (p0.2.2.take (r3 : Int).toNat)).length + (p0.2.2.drop ((IntKind.i64.wrap (r3 + 1)) : Int).toNat).length < room 24 then
                                some ((p0.1, (p0.2.1, (([] : List (ByteArray × Int)) ++ (p0.2.2.take (r3 : Int).toNat)) ++ (p0.2.2.drop ((IntKind.i64.wrap (r3 + 1)) : Int).toNat))), 0)
                              else
                                none
                            else
                              none
                          else
                            none
                        )
                      ) (
                        agree (
                          if ([] : List (ByteArray × Int)).length + (p0.2.2.take (r3 : Int).toNat).length < room 24 then
                            if (0 : Int) ≤ (IntKind.i64.wrap (r3 + 1)) ∧ ((IntKind.i64.wrap (r3 + 1)) : Int) ≤ p0.2.2.length then
                              if (([] : List (ByteArray × Int)) ++ (p0.2.2.take (r3 : Int).toNat)).length + (p0.2.2.drop ((IntKind.i64.wrap (r3 + 1)) : Int).toNat).length < room 24 then
                                some ((p0.1, (p0.2.1, (([] : List (ByteArray × Int)) ++ (p0.2.2.take (r3 : Int).toNat)) ++ (p0.2.2.drop ((IntKind.i64.wrap (r3 + 1)) : Int).toNat))), 0)
                              else
                                none
                            else
                              none
                          else
                            none
                        ) (
                          if (0 : Int) ≤ (IntKind.i64.wrap (r3 + 1)) ∧ ((IntKind.i64.wrap (r3 + 1)) : Int) ≤ p0.2.2.length then
                            if ([] : List (ByteArray × Int)).length + (p0.2.2.take (r3 : Int).toNat).length < room 24 then
                              if (([] : List (ByteArray × Int)) ++ (p0.2.2.take (r3 : Int).toNat)).length + (p0.2.2.drop ((IntKind.i64.wrap (r3 + 1)) : Int).toNat).length < room 24 then
                                some ((p0.1, (p0.2.1, (([] : List (ByteArray × Int)) ++ (p0.2.2.take (r3 : Int).toNat)) ++ (p0.2.2.drop ((IntKind.i64.wrap (r3 + 1)) : Int).toNat))), 0)
                              else
                                none
                            else
                              none
                          else
                            none
                        )
                      )
                    ) (
                      if (0 : Int) ≤ (IntKind.i64.wrap (r3 + 1)) ∧ ((IntKind.i64.wrap (r3 + 1)) : Int) ≤ p0.2.2.length then
                        if ([] : List (ByteArray × Int)).length + (p0.2.2.take (r3 : Int).toNat).length < room 24 then
                          if (([] : List (ByteArray × Int)) ++ (p0.2.2.take (r3 : Int).toNat)).length + (p0.2.2.drop ((IntKind.i64.wrap (r3 + 1)) : Int).toNat).length < room 24 then
                            some ((p0.1, (p0.2.1, (([] : List (ByteArray × Int)) ++ (p0.2.2.take (r3 : Int).toNat)) ++ (p0.2.2.drop ((IntKind.i64.wrap (r3 + 1)) : Int).toNat))), 0)
                          else
                            none
                        else
                          none
                      else
                        none
                    )
                  )
                else
                  none
              ) (
                if (0 : Int) ≤ (IntKind.i64.wrap (r3 + 1)) ∧ ((IntKind.i64.wrap (r3 + 1)) : Int) ≤ p0.2.2.length then
                  if (0 : Int) ≤ r3 ∧ (r3 : Int) ≤ p0.2.2.length then
                    if ([] : List (ByteArray × Int)).length + (p0.2.2.take (r3 : Int).toNat).length < room 24 then
                      if (([] : List (ByteArray × Int)) ++ (p0.2.2.take (r3 : Int).toNat)).length + (p0.2.2.drop ((IntKind.i64.wrap (r3 + 1)) : Int).toNat).length < room 24 then
                        some ((p0.1, (p0.2.1, (([] : List (ByteArray × Int)) ++ (p0.2.2.take (r3 : Int).toNat)) ++ (p0.2.2.drop ((IntKind.i64.wrap (r3 + 1)) : Int).toNat))), 0)
                      else
                        none
                    else
                      none
                  else
                    none
                else
                  none
              )
            )
          )
        ) (
          agree (
            agree (
              agree (
                agree (
                  if (0 : Int) ≤ r3 ∧ (r3 : Int) ≤ p0.2.2.length then
                    agree (
                      if ([] : List (ByteArray × Int)).length + (p0.2.2.take (r3 : Int).toNat).length < room 24 then
                        if (0 : Int) ≤ (IntKind.i64.wrap (r3 + 1)) ∧ ((IntKind.i64.wrap (r3 + 1)) : Int) ≤ p0.2.2.length then
                          if (([] : List (ByteArray × Int)) ++ (p0.2.2.take (r3 : Int).toNat)).length + (p0.2.2.drop ((IntKind.i64.wrap (r3 + 1)) : Int).toNat).length < room 24 then
                            some ((p0.1, (p0.2.1, (([] : List (ByteArray × Int)) ++ (p0.2.2.take (r3 : Int).toNat)) ++ (p0.2.2.drop ((IntKind.i64.wrap (r3 + 1)) : Int).toNat))), 0)
                          else
                            none
                        else
                          none
                      else
                        none
                    ) (
                      if (0 : Int) ≤ (IntKind.i64.wrap (r3 + 1)) ∧ ((IntKind.i64.wrap (r3 + 1)) : Int) ≤ p0.2.2.length then
                        if ([] : List (ByteArray × Int)).length + (p0.2.2.take (r3 : Int).toNat).length < room 24 then
                          if (([] : List (ByteArray × Int)) ++ (p0.2.2.take (r3 : Int).toNat)).length + (p0.2.2.drop ((IntKind.i64.wrap (r3 + 1)) : Int).toNat).length < room 24 then
                            some ((p0.1, (p0.2.1, (([] : List (ByteArray × Int)) ++ (p0.2.2.take (r3 : Int).toNat)) ++ (p0.2.2.drop ((IntKind.i64.wrap (r3 + 1)) : Int).toNat))), 0)
                          else
                            none
                        else
                          none
                      else
                        none
                    )
                  else
                    none
                ) (
                  if (0 : Int) ≤ (IntKind.i64.wrap (r3 + 1)) ∧ ((IntKind.i64.wrap (r3 + 1)) : Int) ≤ p0.2.2.length then
                    if (0 : Int) ≤ r3 ∧ (r3 : Int) ≤ p0.2.2.length then
                      if ([] : List (ByteArray × Int)).length + (p0.2.2.take (r3 : Int).toNat).length < room 24 then
                        if (([] : List (ByteArray × Int)) ++ (p0.2.2.take (r3 : Int).toNat)).length + (p0.2.2.drop ((IntKind.i64.wrap (r3 + 1)) : Int).toNat).length < room 24 then
                          some ((p0.1, (p0.2.1, (([] : List (ByteArray × Int)) ++ (p0.2.2.take (r3 : Int).toNat)) ++ (p0.2.2.drop ((IntKind.i64.wrap (r3 + 1)) : Int).toNat))), 0)
                        else
                          none
                      else
                        none
                    else
                      none
                  else
                    none
                )
              ) (
                agree (
                  if (0 : Int) ≤ r3 ∧ (r3 : Int) ≤ p0.2.2.length then
                    agree (
                      agree (
                        if ([] : List (ByteArray × Int)).length + (p0.2.2.take (r3 : Int).toNat).length < room 24 then
                          if (0 : Int) ≤ (IntKind.i64.wrap (r3 + 1)) ∧ ((IntKind.i64.wrap (r3 + 1)) : Int) ≤ p0.2.2.length then
                            if (([] : List (ByteArray × Int)) ++ (p0.2.2.take (r3 : Int).toNat)).length + (p0.2.2.drop ((IntKind.i64.wrap (r3 + 1)) : Int).toNat).length < room 24 then
                              some ((p0.1, (p0.2.1, (([] : List (ByteArray × Int)) ++ (p0.2.2.take (r3 : Int).toNat)) ++ (p0.2.2.drop ((IntKind.i64.wrap (r3 + 1)) : Int).toNat))), 0)
                            else
                              none
                          else
                            none
                        else
                          none
                      ) (
                        if (0 : Int) ≤ (IntKind.i64.wrap (r3 + 1)) ∧ ((IntKind.i64.wrap (r3 + 1)) : Int) ≤ p0.2.2.length then
                          if ([] : List (ByteArray × Int)).length + (p0.2.2.take (r3 : Int).toNat).length < room 24 then
                            if (([] : List (ByteArray × Int)) ++ (p0.2.2.take (r3 : Int).toNat)).length + (p0.2.2.drop ((IntKind.i64.wrap (r3 + 1)) : Int).toNat).length < room 24 then
                              some ((p0.1, (p0.2.1, (([] : List (ByteArray × Int)) ++ (p0.2.2.take (r3 : Int).toNat)) ++ (p0.2.2.drop ((IntKind.i64.wrap (r3 + 1)) : Int).toNat))), 0)
                            else
                              none
                          else
                            none
                        else
                          none
                      )
                    ) (
                      if (0 : Int) ≤ (IntKind.i64.wrap (r3 + 1)) ∧ ((IntKind.i64.wrap (r3 + 1)) : Int) ≤ p0.2.2.length then
                        if ([] : List (ByteArray × Int)).length + (p0.2.2.take (r3 : Int).toNat).length < room 24 then
                          if (([] : List (ByteArray × Int)) ++ (p0.2.2.take (r3 : Int).toNat)).length + (p0.2.2.drop ((IntKind.i64.wrap (r3 + 1)) : Int).toNat).length < room 24 then
                            some ((p0.1, (p0.2.1, (([] : List (ByteArray × Int)) ++ (p0.2.2.take (r3 : Int).toNat)) ++ (p0.2.2.drop ((IntKind.i64.wrap (r3 + 1)) : Int).toNat))), 0)
                          else
                            none
                        else
                          none
                      else
                        none
                    )
                  else
                    none
                ) (
                  if (0 : Int) ≤ (IntKind.i64.wrap (r3 + 1)) ∧ ((IntKind.i64.wrap (r3 + 1)) : Int) ≤ p0.2.2.length then
                    if (0 : Int) ≤ r3 ∧ (r3 : Int) ≤ p0.2.2.length then
                      if ([] : List (ByteArray × Int)).length + (p0.2.2.take (r3 : Int).toNat).length < room 24 then
                        if (([] : List (ByteArray × Int)) ++ (p0.2.2.take (r3 : Int).toNat)).length + (p0.2.2.drop ((IntKind.i64.wrap (r3 + 1)) : Int).toNat).length < room 24 then
                          some ((p0.1, (p0.2.1, (([] : List (ByteArray × Int)) ++ (p0.2.2.take (r3 : Int).toNat)) ++ (p0.2.2.drop ((IntKind.i64.wrap (r3 + 1)) : Int).toNat))), 0)
                        else
                          none
                      else
                        none
                    else
                      none
                  else
                    none
                )
              )
            ) (
              agree (
                agree (
                  agree (
                    if (0 : Int) ≤ r3 ∧ (r3 : Int) ≤ p0.2.2.length then
                      agree (
                        if ([] : List (ByteArray × Int)).length + (p0.2.2.take (r3 : Int).toNat).length < room 24 then
                          if (0 : Int) ≤ (IntKind.i64.wrap (r3 + 1)) ∧ ((IntKind.i64.wrap (r3 + 1)) : Int) ≤ p0.2.2.length then
                            if (([] : List (ByteArray × Int)) ++ (p0.2.2.take (r3 : Int).toNat)).length + (p0.2.2.drop ((IntKind.i64.wrap (r3 + 1)) : Int).toNat).length < room 24 then
                              some ((p0.1, (p0.2.1, (([] : List (ByteArray × Int)) ++ (p0.2.2.take (r3 : Int).toNat)) ++ (p0.2.2.drop ((IntKind.i64.wrap (r3 + 1)) : Int).toNat))), 0)
                            else
                              none
                          else
                            none
                        else
                          none
                      ) (
                        if (0 : Int) ≤ (IntKind.i64.wrap (r3 + 1)) ∧ ((IntKind.i64.wrap (r3 + 1)) : Int) ≤ p0.2.2.length then
                          if ([] : List (ByteArray × Int)).length + (p0.2.2.take (r3 : Int).toNat).length < room 24 then
                            if (([] : List (ByteArray × Int)) ++ (p0.2.2.take (r3 : Int).toNat)).length + (p0.2.2.drop ((IntKind.i64.wrap (r3 + 1)) : Int).toNat).length < room 24 then
                              some ((p0.1, (p0.2.1, (([] : List (ByteArray × Int)) ++ (p0.2.2.take (r3 : Int).toNat)) ++ (p0.2.2.drop ((IntKind.i64.wrap (r3 + 1)) : Int).toNat))), 0)
                            else
                              none
                          else
                            none
                        else
                          none
                      )
                    else
                      none
                  ) (
                    if (0 : Int) ≤ (IntKind.i64.wrap (r3 + 1)) ∧ ((IntKind.i64.wrap (r3 + 1)) : Int) ≤ p0.2.2.length then
                      if (0 : Int) ≤ r3 ∧ (r3 : Int) ≤ p0.2.2.length then
                        if ([] : List (ByteArray × Int)).length + (p0.2.2.take (r3 : Int).toNat).length < room 24 then
                          if (([] : List (ByteArray × Int)) ++ (p0.2.2.take (r3 : Int).toNat)).length + (p0.2.2.drop ((IntKind.i64.wrap (r3 + 1)) : Int).toNat).length < room 24 then
                            some ((p0.1, (p0.2.1, (([] : List (ByteArray × Int)) ++ (p0.2.2.take (r3 : Int).toNat)) ++ (p0.2.2.drop ((IntKind.i64.wrap (r3 + 1)) : Int).toNat))), 0)
                          else
                            none
                        else
                          none
                      else
                        none
                    else
                      none
                  )
                ) (
                  agree (
                    if (0 : Int) ≤ r3 ∧ (r3 : Int) ≤ p0.2.2.length then
                      agree (
                        agree (
                          if ([] : List (ByteArray × Int)).length + (p0.2.2.take (r3 : Int).toNat).length < room 24 then
                            if (0 : Int) ≤ (IntKind.i64.wrap (r3 + 1)) ∧ ((IntKind.i64.wrap (r3 + 1)) : Int) ≤ p0.2.2.length then
                              if (([] : List (ByteArray × Int)) ++ (p0.2.2.take (r3 : Int).toNat)).length + (p0.2.2.drop ((IntKind.i64.wrap (r3 + 1)) : Int).toNat).length < room 24 then
                                some ((p0.1, (p0.2.1, (([] : List (ByteArray × Int)) ++ (p0.2.2.take (r3 : Int).toNat)) ++ (p0.2.2.drop ((IntKind.i64.wrap (r3 + 1)) : Int).toNat))), 0)
                              else
                                none
                            else
                              none
                          else
                            none
                        ) (
                          if (0 : Int) ≤ (IntKind.i64.wrap (r3 + 1)) ∧ ((IntKind.i64.wrap (r3 + 1)) : Int) ≤ p0.2.2.length then
                            if ([] : List (ByteArray × Int)).length + (p0.2.2.take (r3 : Int).toNat).length < room 24 then
                              if (([] : List (ByteArray × Int)) ++ (p0.2.2.take (r3 : Int).toNat)).length + (p0.2.2.drop ((IntKind.i64.wrap (r3 + 1)) : Int).toNat).length < room 24 then
                                some ((p0.1, (p0.2.1, (([] : List (ByteArray × Int)) ++ (p0.2.2.take (r3 : Int).toNat)) ++ (p0.2.2.drop ((IntKind.i64.wrap (r3 + 1)) : Int).toNat))), 0)
                              else
                                none
                            else
                              none
                          else
                            none
                        )
                      ) (
                        agree (
                          if ([] : List (ByteArray × Int)).length + (p0.2.2.take (r3 : Int).toNat).length < room 24 then
                            if (0 : Int) ≤ (IntKind.i64.wrap (r3 + 1)) ∧ ((IntKind.i64.wrap (r3 + 1)) : Int) ≤ p0.2.2.length then
                              if (([] : List (ByteArray × Int)) ++ (p0.2.2.take (r3 : Int).toNat)).length + (p0.2.2.drop ((IntKind.i64.wrap (r3 + 1)) : Int).toNat).length < room 24 then
                                some ((p0.1, (p0.2.1, (([] : List (ByteArray × Int)) ++ (p0.2.2.take (r3 : Int).toNat)) ++ (p0.2.2.drop ((IntKind.i64.wrap (r3 + 1)) : Int).toNat))), 0)
                              else
                                none
                            else
                              none
                          else
                            none
                        ) (
                          if (0 : Int) ≤ (IntKind.i64.wrap (r3 + 1)) ∧ ((IntKind.i64.wrap (r3 + 1)) : Int) ≤ p0.2.2.length then
                            if ([] : List (ByteArray × Int)).length + (p0.2.2.take (r3 : Int).toNat).length < room 24 then
                              if (([] : List (ByteArray × Int)) ++ (p0.2.2.take (r3 : Int).toNat)).length + (p0.2.2.drop ((IntKind.i64.wrap (r3 + 1)) : Int).toNat).length < room 24 then
                                some ((p0.1, (p0.2.1, (([] : List (ByteArray × Int)) ++ (p0.2.2.take (r3 : Int).toNat)) ++ (p0.2.2.drop ((IntKind.i64.wrap (r3 + 1)) : Int).toNat))), 0)
                              else
                                none
                            else
                              none
                          else
                            none
                        )
                      )
                    else
                      none
                  ) (
                    if (0 : Int) ≤ (IntKind.i64.wrap (r3 + 1)) ∧ ((IntKind.i64.wrap (r3 + 1)) : Int) ≤ p0.2.2.length then
                      if (0 : Int) ≤ r3 ∧ (r3 : Int) ≤ p0.2.2.length then
                        if ([] : List (ByteArray × Int)).length + (p0.2.2.take (r3 : Int).toNat).length < room 24 then
                          if (([] : List (ByteArray × Int)) ++ (p0.2.2.take (r3 : Int).toNat)).length + (p0.2.2.drop ((IntKind.i64.wrap (r3 + 1)) : Int).toNat).length < room 24 then
                            some ((p0.1, (p0.2.1, (([] : List (ByteArray × Int)) ++ (p0.2.2.take (r3 : Int).toNat)) ++ (p0.2.2.drop ((IntKind.i64.wrap (r3 + 1)) : Int).toNat))), 0)
                          else
                            none
                        else
                          none
                      else
                        none
                    else
                      none
                  )
                )
              ) (
                agree (
                  if (0 : Int) ≤ r3 ∧ (r3 : Int) ≤ p0.2.2.length then
                    agree (
                      agree (
                        agree (
                          if ([] : List (ByteArray × Int)).length + (p0.2.2.take (r3 : Int).toNat).length < room 24 then
                            if (0 : Int) ≤ (IntKind.i64.wrap (r3 + 1)) ∧ ((IntKind.i64.wrap (r3 + 1)) : Int) ≤ p0.2.2.length then
                              if (([] : List (ByteArray × Int)) ++ (p0.2.2.take (r3 : Int).toNat)).length + (p0.2.2.drop ((IntKind.i64.wrap (r3 + 1)) : Int).toNat).length < room 24 then
                                some ((p0.1, (p0.2.1, (([] : List (ByteArray × Int)) ++ (p0.2.2.take (r3 : Int).toNat)) ++ (p0.2.2.drop ((IntKind.i64.wrap (r3 + 1)) : Int).toNat))), 0)
                              else
                                none
                            else
                              none
                          else
                            none
                        ) (
                          if (0 : Int) ≤ (IntKind.i64.wrap (r3 + 1)) ∧ ((IntKind.i64.wrap (r3 + 1)) : Int) ≤ p0.2.2.length then
                            if ([] : List (ByteArray × Int)).length + (p0.2.2.take (r3 : Int).toNat).length < room 24 then
                              if (([] : List (ByteArray × Int)) ++ (p0.2.2.take (r3 : Int).toNat)).length + (p0.2.2.drop ((IntKind.i64.wrap (r3 + 1)) : Int).toNat).length < room 24 then
                                some ((p0.1, (p0.2.1, (([] : List (ByteArray × Int)) ++ (p0.2.2.take (r3 : Int).toNat)) ++ (p0.2.2.drop ((IntKind.i64.wrap (r3 + 1)) : Int).toNat))), 0)
                              else
                                none
                            else
                              none
                          else
                            none
                        )
                      ) (
                        if (0 : Int) ≤ (IntKind.i64.wrap (r3 + 1)) ∧ ((IntKind.i64.wrap (r3 + 1)) : Int) ≤ p0.2.2.length then
                          if ([] : List (ByteArray × Int)).length + (p0.2.2.take (r3 : Int).toNat).length < room 24 then
                            if (([] : List (ByteArray × Int)) ++ (p0.2.2.take (r3 : Int).toNat)).length + (p0.2.2.drop ((IntKind.i64.wrap (r3 + 1)) : Int).toNat).length < room 24 then
                              some ((p0.1, (p0.2.1, (([] : List (ByteArray × Int)) ++ (p0.2.2.take (r3 : Int).toNat)) ++ (p0.2.2.drop ((IntKind.i64.wrap (r3 + 1)) : Int).toNat))), 0)
                            else
                              none
                          else
                            none
                        else
                          none
                      )
                    ) (
                      agree (
                        agree (
                          agree (
                            if ([] : List (ByteArray × Int)).length + (p0.2.2.take (r3 : Int).toNat).length < room 24 then
                              if (0 : Int) ≤ (IntKind.i64.wrap (r3 + 1)) ∧ ((IntKind.i64.wrap (r3 + 1)) : Int) ≤ p0.2.2.length then
                                if (([] : List (ByteArray × Int)) ++ (p0.2.2.take (r3 : Int).toNat)).length + (p0.2.2.drop ((IntKind.i64.wrap (r3 + 1)) : Int).toNat).length < room 24 then
                                  some ((p0.1, (p0.2.1, (([] : List (ByteArray × Int)) ++ (p0.2.2.take (r3 : Int).toNat)) ++ (p0.2.2.drop ((IntKind.i64.wrap (r3 + 1)) : Int).toNat))), 0)
                                else
                                  none
                              else
                                none
                            else
                              none
                          ) (
                            if (0 : Int) ≤ (IntKind.i64.wrap (r3 + 1)) ∧ ((IntKind.i64.wrap (r3 + 1)) : Int) ≤ p0.2.2.length then
                              if ([] : List (ByteArray × Int)).length + (p0.2.2.take (r3 : Int).toNat).length < room 24 then
                                if (([] : List (ByteArray × Int)) ++ (p0.2.2.take (r3 : Int).toNat)).length + (p0.2.2.drop ((IntKind.i64.wrap (r3 + 1)) : Int).toNat).length < room 24 then
                                  some ((p0.1, (p0.2.1, (([] : List (ByteArray × Int)) ++ (p0.2.2.take (r3 : Int).toNat)) ++ (p0.2.2.drop ((IntKind.i64.wrap (r3 + 1)) : Int).toNat))), 0)
                                else
                                  none
                              else
                                none
                            else
                              none
                          )
                        ) (
                          agree (
                            if ([] : List (ByteArray × Int)).length + (p0.2.2.take (r3 : Int).toNat).length < room 24 then
                              if (0 : Int) ≤ (IntKind.i64.wrap (r3 + 1)) ∧ ((IntKind.i64.wrap (r3 + 1)) : Int) ≤ p0.2.2.length then
                                if (([] : List (ByteArray × Int)) ++ (p0.2.2.take (r3 : Int).toNat)).length + (p0.2.2.drop ((IntKind.i64.wrap (r3 + 1)) : Int).toNat).length < room 24 then
                                  some ((p0.1, (p0.2.1, (([] : List (ByteArray × Int)) ++ (p0.2.2.take (r3 : Int).toNat)) ++ (p0.2.2.drop ((IntKind.i64.wrap (r3 + 1)) : Int).toNat))), 0)
                                else
                                  none
                              else
                                none
                            else
                              none
                          ) (
                            if (0 : Int) ≤ (IntKind.i64.wrap (r3 + 1)) ∧ ((IntKind.i64.wrap (r3 + 1)) : Int) ≤ p0.2.2.length then
                              if ([] : List (ByteArray × Int)).length + (p0.2.2.take (r3 : Int).toNat).length < room 24 then
                                if (([] : List (ByteArray × Int)) ++ (p0.2.2.take (r3 : Int).toNat)).length + (p0.2.2.drop ((IntKind.i64.wrap (r3 + 1)) : Int).toNat).length < room 24 then
                                  some ((p0.1, (p0.2.1, (([] : List (ByteArray × Int)) ++ (p0.2.2.take (r3 : Int).toNat)) ++ (p0.2.2.drop ((IntKind.i64.wrap (r3 + 1)) : Int).toNat))), 0)
                                else
                                  none
                              else
                                none
                            else
                              none
                          )
                        )
                      ) (
                        if (0 : Int) ≤ (IntKind.i64.wrap (r3 + 1)) ∧ ((IntKind.i64.wrap (r3 + 1)) : Int) ≤ p0.2.2.length then
                          if ([] : List (ByteArray × Int)).length + (p0.2.2.take (r3 : Int).toNat).length < room 24 then
                            if (([] : List (ByteArray × Int)) ++ (p0.2.2.take (r3 : Int).toNat)).length + (p0.2.2.drop ((IntKind.i64.wrap (r3 + 1)) : Int).toNat).length < room 24 then
                              some ((p0.1, (p0.2.1, (([] : List (ByteArray × Int)) ++ (p0.2.2.take (r3 : Int).toNat)) ++ (p0.2.2.drop ((IntKind.i64.wrap (r3 + 1)) : Int).toNat))), 0)
                            else
                              none
                          else
                            none
                        else
                          none
                      )
                    )
                  else
                    none
                ) (
                  if (0 : Int) ≤ (IntKind.i64.wrap (r3 + 1)) ∧ ((IntKind.i64.wrap (r3 + 1)) : Int) ≤ p0.2.2.length then
                    if (0 : Int) ≤ r3 ∧ (r3 : Int) ≤ p0.2.2.length then
                      if ([] : List (ByteArray × Int)).length + (p0.2.2.take (r3 : Int).toNat).length < room 24 then
                        if (([] : List (ByteArray × Int)) ++ (p0.2.2.take (r3 : Int).toNat)).length + (p0.2.2.drop ((IntKind.i64.wrap (r3 + 1)) : Int).toNat).length < room 24 then
                          some ((p0.1, (p0.2.1, (([] : List (ByteArray × Int)) ++ (p0.2.2.take (r3 : Int).toNat)) ++ (p0.2.2.drop ((IntKind.i64.wrap (r3 + 1)) : Int).toNat))), 0)
                        else
                          none
                      else
                        none
                    else
                      none
                  else
                    none
                )
              )
            )
          ) (
            agree (
              agree (
                agree (
                  agree (
                    if (0 : Int) ≤ r3 ∧ (r3 : Int) ≤ p0.2.2.length then
                      agree (
                        if ([] : List (ByteArray × Int)).length + (p0.2.2.take (r3 : Int).toNat).length < room 24 then
                          if (0 : Int) ≤ (IntKind.i64.wrap (r3 + 1)) ∧ ((IntKind.i64.wrap (r3 + 1)) : Int) ≤ p0.2.2.length then
                            if (([] : List (ByteArray × Int)) ++ (p0.2.2.take (r3 : Int).toNat)).length + (p0.2.2.drop ((IntKind.i64.wrap (r3 + 1)) : Int).toNat).length < room 24 then
                              some ((p0.1, (p0.2.1, (([] : List (ByteArray × Int)) ++ (p0.2.2.take (r3 : Int).toNat)) ++ (p0.2.2.drop ((IntKind.i64.wrap (r3 + 1)) : Int).toNat))), 0)
                            else
                              none
                          else
                            none
                        else
                          none
                      ) (
                        if (0 : Int) ≤ (IntKind.i64.wrap (r3 + 1)) ∧ ((IntKind.i64.wrap (r3 + 1)) : Int) ≤ p0.2.2.length then
                          if ([] : List (ByteArray × Int)).length + (p0.2.2.take (r3 : Int).toNat).length < room 24 then
                            if (([] : List (ByteArray × Int)) ++ (p0.2.2.take (r3 : Int).toNat)).length + (p0.2.2.drop ((IntKind.i64.wrap (r3 + 1)) : Int).toNat).length < room 24 then
                              some ((p0.1, (p0.2.1, (([] : List (ByteArray × Int)) ++ (p0.2.2.take (r3 : Int).toNat)) ++ (p0.2.2.drop ((IntKind.i64.wrap (r3 + 1)) : Int).toNat))), 0)
                            else
                              none
                          else
                            none
                        else
                          none
                      )
                    else
                      none
                  ) (
                    if (0 : Int) ≤ (IntKind.i64.wrap (r3 + 1)) ∧ ((IntKind.i64.wrap (r3 + 1)) : Int) ≤ p0.2.2.length then
                      if (0 : Int) ≤ r3 ∧ (r3 : Int) ≤ p0.2.2.length then
                        if ([] : List (ByteArray × Int)).length + (p0.2.2.take (r3 : Int).toNat).length < room 24 then
                          if (([] : List (ByteArray × Int)) ++ (p0.2.2.take (r3 : Int).toNat)).length + (p0.2.2.drop ((IntKind.i64.wrap (r3 + 1)) : Int).toNat).length < room 24 then
                            some ((p0.1, (p0.2.1, (([] : List (ByteArray × Int)) ++ (p0.2.2.take (r3 : Int).toNat)) ++ (p0.2.2.drop ((IntKind.i64.wrap (r3 + 1)) : Int).toNat))), 0)
                          else
                            none
                        else
                          none
                      else
                        none
                    else
                      none
                  )
                ) (
                  agree (
                    if (0 : Int) ≤ r3 ∧ (r3 : Int) ≤ p0.2.2.length then
                      agree (
                        agree (
                          if ([] : List (ByteArray × Int)).length + (p0.2.2.take (r3 : Int).toNat).length < room 24 then
                            if (0 : Int) ≤ (IntKind.i64.wrap (r3 + 1)) ∧ ((IntKind.i64.wrap (r3 + 1)) : Int) ≤ p0.2.2.length then
                              if (([] : List (ByteArray × Int)) ++ (p0.2.2.take (r3 : Int).toNat)).length + (p0.2.2.drop ((IntKind.i64.wrap (r3 + 1)) : Int).toNat).length < room 24 then
                                some ((p0.1, (p0.2.1, (([] : List (ByteArray × Int)) ++ (p0.2.2.take (r3 : Int).toNat)) ++ (p0.2.2.drop ((IntKind.i64.wrap (r3 + 1)) : Int).toNat))), 0)
                              else
                                none
                            else
                              none
                          else
                            none
                        ) (
                          if (0 : Int) ≤ (IntKind.i64.wrap (r3 + 1)) ∧ ((IntKind.i64.wrap (r3 + 1)) : Int) ≤ p0.2.2.length then
                            if ([] : List (ByteArray × Int)).length + (p0.2.2.take (r3 : Int).toNat).length < room 24 then
                              if (([] : List (ByteArray × Int)) ++ (p0.2.2.take (r3 : Int).toNat)).length + (p0.2.2.drop ((IntKind.i64.wrap (r3 + 1)) : Int).toNat).length < room 24 then
                                some ((p0.1, (p0.2.1, (([] : List (ByteArray × Int)) ++ (p0.2.2.take (r3 : Int).toNat)) ++ (p0.2.2.drop ((IntKind.i64.wrap (r3 + 1)) : Int).toNat))), 0)
                              else
                                none
                            else
                              none
                          else
                            none
                        )
                      ) (
                        agree (
                          if ([] : List (ByteArray × Int)).length + (p0.2.2.take (r3 : Int).toNat).length < room 24 then
                            if (0 : Int) ≤ (IntKind.i64.wrap (r3 + 1)) ∧ ((IntKind.i64.wrap (r3 + 1)) : Int) ≤ p0.2.2.length then
                              if (([] : List (ByteArray × Int)) ++ (p0.2.2.take (r3 : Int).toNat)).length + (p0.2.2.drop ((IntKind.i64.wrap (r3 + 1)) : Int).toNat).length < room 24 then
                                some ((p0.1, (p0.2.1, (([] : List (ByteArray × Int)) ++ (p0.2.2.take (r3 : Int).toNat)) ++ (p0.2.2.drop ((IntKind.i64.wrap (r3 + 1)) : Int).toNat))), 0)
                              else
                                none
                            else
                              none
                          else
                            none
                        ) (
                          if (0 : Int) ≤ (IntKind.i64.wrap (r3 + 1)) ∧ ((IntKind.i64.wrap (r3 + 1)) : Int) ≤ p0.2.2.length then
                            if ([] : List (ByteArray × Int)).length + (p0.2.2.take (r3 : Int).toNat).length < room 24 then
                              if (([] : List (ByteArray × Int)) ++ (p0.2.2.take (r3 : Int).toNat)).length + (p0.2.2.drop ((IntKind.i64.wrap (r3 + 1)) : Int).toNat).length < room 24 then
                                some ((p0.1, (p0.2.1, (([] : List (ByteArray × Int)) ++ (p0.2.2.take (r3 : Int).toNat)) ++ (p0.2.2.drop ((IntKind.i64.wrap (r3 + 1)) : Int).toNat))), 0)
                              else
                                none
                            else
                              none
                          else
                            none
                        )
                      )
                    else
                      none
                  ) (
                    if (0 : Int) ≤ (IntKind.i64.wrap (r3 + 1)) ∧ ((IntKind.i64.wrap (r3 + 1)) : Int) ≤ p0.2.2.length then
                      if (0 : Int) ≤ r3 ∧ (r3 : Int) ≤ p0.2.2.length then
                        if ([] : List (ByteArray × Int)).length + (p0.2.2.take (r3 : Int).toNat).length < room 24 then
                          if (([] : List (ByteArray × Int)) ++ (p0.2.2.take (r3 : Int).toNat)).length + (p0.2.2.drop ((IntKind.i64.wrap (r3 + 1)) : Int).toNat).length < room 24 then
                            some ((p0.1, (p0.2.1, (([] : List (ByteArray × Int)) ++ (p0.2.2.take (r3 : Int).toNat)) ++ (p0.2.2.drop ((IntKind.i64.wrap (r3 + 1)) : Int).toNat))), 0)
                          else
                            none
                        else
                          none
                      else
                        none
                    else
                      none
                  )
                )
              ) (
                agree (
                  agree (
                    agree (
                      if (0 : Int) ≤ r3 ∧ (r3 : Int) ≤ p0.2.2.length then
                        agree (
                          if ([] : List (ByteArray × Int)).length + (p0.2.2.take (r3 : Int).toNat).length < room 24 then
                            if (0 : Int) ≤ (IntKind.i64.wrap (r3 + 1)) ∧ ((IntKind.i64.wrap (r3 + 1)) : Int) ≤ p0.2.2.length then
                              if (([] : List (ByteArray × Int)) ++ (p0.2.2.take (r3 : Int).toNat)).length + (p0.2.2.drop ((IntKind.i64.wrap (r3 + 1)) : Int).toNat).length < room 24 then
                                some ((p0.1, (p0.2.1, (([] : List (ByteArray × Int)) ++ (p0.2.2.take (r3 : Int).toNat)) ++ (p0.2.2.drop ((IntKind.i64.wrap (r3 + 1)) : Int).toNat))), 0)
                              else
                                none
                            else
                              none
                          else
                            none
                        ) (
                          if (0 : Int) ≤ (IntKind.i64.wrap (r3 + 1)) ∧ ((IntKind.i64.wrap (r3 + 1)) : Int) ≤ p0.2.2.length then
                            if ([] : List (ByteArray × Int)).length + (p0.2.2.take (r3 : Int).toNat).length < room 24 then
                              if (([] : List (ByteArray × Int)) ++ (p0.2.2.take (r3 : Int).toNat)).length + (p0.2.2.drop ((IntKind.i64.wrap (r3 + 1)) : Int).toNat).length < room 24 then
                                some ((p0.1, (p0.2.1, (([] : List (ByteArray × Int)) ++ (p0.2.2.take (r3 : Int).toNat)) ++ (p0.2.2.drop ((IntKind.i64.wrap (r3 + 1)) : Int).toNat))), 0)
                              else
                                none
                            else
                              none
                          else
                            none
                        )
                      else
                        none
                    ) (
                      if (0 : Int) ≤ (IntKind.i64.wrap (r3 + 1)) ∧ ((IntKind.i64.wrap (r3 + 1)) : Int) ≤ p0.2.2.length then
                        if (0 : Int) ≤ r3 ∧ (r3 : Int) ≤ p0.2.2.length then
                          if ([] : List (ByteArray × Int)).length + (p0.2.2.take (r3 : Int).toNat).length < room 24 then
                            if (([] : List (ByteArray × Int)) ++ (p0.2.2.take (r3 : Int).toNat)).length + (p0.2.2.drop ((IntKind.i64.wrap (r3 + 1)) : Int).toNat).length < room 24 then
                              some ((p0.1, (p0.2.1, (([] : List (ByteArray × Int)) ++ (p0.2.2.take (r3 : Int).toNat)) ++ (p0.2.2.drop ((IntKind.i64.wrap (r3 + 1)) : Int).toNat))), 0)
                            else
                              none
                          else
                            none
                        else
                          none
                      else
                        none
                    )
                  ) (
                    agree (
                      if (0 : Int) ≤ r3 ∧ (r3 : Int) ≤ p0.2.2.length then
                        agree (
                          agree (
                            if ([] : List (ByteArray × Int)).length + (p0.2.2.take (r3 : Int).toNat).length < room 24 then
                              if (0 : Int) ≤ (IntKind.i64.wrap (r3 + 1)) ∧ ((IntKind.i64.wrap (r3 + 1)) : Int) ≤ p0.2.2.length then
                                if (([] : List (ByteArray × Int)) ++ (p0.2.2.take (r3 : Int).toNat)).length + (p0.2.2.drop ((IntKind.i64.wrap (r3 + 1)) : Int).toNat).length < room 24 then
                                  some ((p0.1, (p0.2.1, (([] : List (ByteArray × Int)) ++ (p0.2.2.take (r3 : Int).toNat)) ++ (p0.2.2.drop ((IntKind.i64.wrap (r3 + 1)) : Int).toNat))), 0)
                                else
                                  none
                              else
                                none
                            else
                              none
                          ) (
                            if (0 : Int) ≤ (IntKind.i64.wrap (r3 + 1)) ∧ ((IntKind.i64.wrap (r3 + 1)) : Int) ≤ p0.2.2.length then
                              if ([] : List (ByteArray × Int)).length + (p0.2.2.take (r3 : Int).toNat).length < room 24 then
                                if (([] : List (ByteArray × Int)) ++ (p0.2.2.take (r3 : Int).toNat)).length + (p0.2.2.drop ((IntKind.i64.wrap (r3 + 1)) : Int).toNat).length < room 24 then
                                  some ((p0.1, (p0.2.1, (([] : List (ByteArray × Int)) ++ (p0.2.2.take (r3 : Int).toNat)) ++ (p0.2.2.drop ((IntKind.i64.wrap (r3 + 1)) : Int).toNat))), 0)
                                else
                                  none
                              else
                                none
                            else
                              none
                          )
                        ) (
                          agree (
                            if ([] : List (ByteArray × Int)).length + (p0.2.2.take (r3 : Int).toNat).length < room 24 then
                              if (0 : Int) ≤ (IntKind.i64.wrap (r3 + 1)) ∧ ((IntKind.i64.wrap (r3 + 1)) : Int) ≤ p0.2.2.length then
                                if (([] : List (ByteArray × Int)) ++ (p0.2.2.take (r3 : Int).toNat)).length + (p0.2.2.drop ((IntKind.i64.wrap (r3 + 1)) : Int).toNat).length < room 24 then
                                  some ((p0.1, (p0.2.1, (([] : List (ByteArray × Int)) ++ (p0.2.2.take (r3 : Int).toNat)) ++ (p0.2.2.drop ((IntKind.i64.wrap (r3 + 1)) : Int).toNat))), 0)
                                else
                                  none
                              else
                                none
                            else
                              none
                          ) (
                            if (0 : Int) ≤ (IntKind.i64.wrap (r3 + 1)) ∧ ((IntKind.i64.wrap (r3 + 1)) : Int) ≤ p0.2.2.length then
                              if ([] : List (ByteArray × Int)).length + (p0.2.2.take (r3 : Int).toNat).length < room 24 then
                                if (([] : List (ByteArray × Int)) ++ (p0.2.2.take (r3 : Int).toNat)).length + (p0.2.2.drop ((IntKind.i64.wrap (r3 + 1)) : Int).toNat).length < room 24 then
                                  some ((p0.1, (p0.2.1, (([] : List (ByteArray × Int)) ++ (p0.2.2.take (r3 : Int).toNat)) ++ (p0.2.2.drop ((IntKind.i64.wrap (r3 + 1)) : Int).toNat))), 0)
                                else
                                  none
                              else
                                none
                            else
                              none
                          )
                        )
                      else
                        none
                    ) (
                      if (0 : Int) ≤ (IntKind.i64.wrap (r3 + 1)) ∧ ((IntKind.i64.wrap (r3 + 1)) : Int) ≤ p0.2.2.length then
                        if (0 : Int) ≤ r3 ∧ (r3 : Int) ≤ p0.2.2.length then
                          if ([] : List (ByteArray × Int)).length + (p0.2.2.take (r3 : Int).toNat).length < room 24 then
                            if (([] : List (ByteArray × Int)) ++ (p0.2.2.take (r3 : Int).toNat)).length + (p0.2.2.drop ((IntKind.i64.wrap (r3 + 1)) : Int).toNat).length < room 24 then
                              some ((p0.1, (p0.2.1, (([] : List (ByteArray × Int)) ++ (p0.2.2.take (r3 : Int).toNat)) ++ (p0.2.2.drop ((IntKind.i64.wrap (r3 + 1)) : Int).toNat))), 0)
                            else
                              none
                          else
                            none
                        else
                          none
                      else
                        none
                    )
                  )
                ) (
                  agree (
                    if (0 : Int) ≤ r3 ∧ (r3 : Int) ≤ p0.2.2.length then
                      agree (
                        agree (
                          agree (
                            if ([] : List (ByteArray × Int)).length + (p0.2.2.take (r3 : Int).toNat).length < room 24 then
                              if (0 : Int) ≤ (IntKind.i64.wrap (r3 + 1)) ∧ ((IntKind.i64.wrap (r3 + 1)) : Int) ≤ p0.2.2.length then
                                if (([] : List (ByteArray × Int)) ++ (p0.2.2.take (r3 : Int).toNat)).length + (p0.2.2.drop ((IntKind.i64.wrap (r3 + 1)) : Int).toNat).length < room 24 then
                                  some ((p0.1, (p0.2.1, (([] : List (ByteArray × Int)) ++ (p0.2.2.take (r3 : Int).toNat)) ++ (p0.2.2.drop ((IntKind.i64.wrap (r3 + 1)) : Int).toNat))), 0)
                                else
                                  none
                              else
                                none
                            else
                              none
                          ) (
                            if (0 : Int) ≤ (IntKind.i64.wrap (r3 + 1)) ∧ ((IntKind.i64.wrap (r3 + 1)) : Int) ≤ p0.2.2.length then
                              if ([] : List (ByteArray × Int)).length + (p0.2.2.take (r3 : Int).toNat).length < room 24 then
                                if (([] : List (ByteArray × Int)) ++ (p0.2.2.take (r3 : Int).toNat)).length + (p0.2.2.drop ((IntKind.i64.wrap (r3 + 1)) : Int).toNat).length < room 24 then
                                  some ((p0.1, (p0.2.1, (([] : List (ByteArray × Int)) ++ (p0.2.2.take (r3 : Int).toNat)) ++ (p0.2.2.drop ((IntKind.i64.wrap (r3 + 1)) : Int).toNat))), 0)
                                else
                                  none
                              else
                                none
                            else
                              none
                          )
                        ) (
                          agree (
                            if ([] : List (ByteArray × Int)).length + (p0.2.2.take (r3 : Int).toNat).length < room 24 then
                              if (0 : Int) ≤ (IntKind.i64.wrap (r3 + 1)) ∧ ((IntKind.i64.wrap (r3 + 1)) : Int) ≤ p0.2.2.length then
                                if (([] : List (ByteArray × Int)) ++ (p0.2.2.take (r3 : Int).toNat)).length + (p0.2.2.drop ((IntKind.i64.wrap (r3 + 1)) : Int).toNat).length < room 24 then
                                  some ((p0.1, (p0.2.1, (([] : List (ByteArray × Int)) ++ (p0.2.2.take (r3 : Int).toNat)) ++ (p0.2.2.drop ((IntKind.i64.wrap (r3 + 1)) : Int).toNat))), 0)
                                else
                                  none
                              else
                                none
                            else
                              none
                          ) (
                            if (0 : Int) ≤ (IntKind.i64.wrap (r3 + 1)) ∧ ((IntKind.i64.wrap (r3 + 1)) : Int) ≤ p0.2.2.length then
                              if ([] : List (ByteArray × Int)).length + (p0.2.2.take (r3 : Int).toNat).length < room 24 then
                                if (([] : List (ByteArray × Int)) ++ (p0.2.2.take (r3 : Int).toNat)).length + (p0.2.2.drop ((IntKind.i64.wrap (r3 + 1)) : Int).toNat).length < room 24 then
                                  some ((p0.1, (p0.2.1, (([] : List (ByteArray × Int)) ++ (p0.2.2.take (r3 : Int).toNat)) ++ (p0.2.2.drop ((IntKind.i64.wrap (r3 + 1)) : Int).toNat))), 0)
                                else
                                  none
                              else
                                none
                            else
                              none
                          )
                        )
                      ) (
                        agree (
                          agree (
                            agree (
                              if ([] : List (ByteArray × Int)).length + (p0.2.2.take (r3 : Int).toNat).length < room 24 then
                                if (0 : Int) ≤ (IntKind.i64.wrap (r3 + 1)) ∧ ((IntKind.i64.wrap (r3 + 1)) : Int) ≤ p0.2.2.length then
                                  if (([] : List (ByteArray × Int)) ++ (p0.2.2.take (r3 : Int).toNat)).length + (p0.2.2.drop ((IntKind.i64.wrap (r3 + 1)) : Int).toNat).length < room 24 then
                                    some ((p0.1, (p0.2.1, (([] : List (ByteArray × Int)) ++ (p0.2.2.take (r3 : Int).toNat)) ++ (p0.2.2.drop ((IntKind.i64.wrap (r3 + 1)) : Int).toNat))), 0)
                                  else
                                    none
                                else
                                  none
                              else
                                none
                            ) (
                              if (0 : Int) ≤ (IntKind.i64.wrap (r3 + 1)) ∧ ((IntKind.i64.wrap (r3 + 1)) : Int) ≤ p0.2.2.length then
                                if ([] : List (ByteArray × Int)).length + (p0.2.2.take (r3 : Int).toNat).length < room 24 then
                                  if (([] : List (ByteArray × Int)) ++ (p0.2.2.take (r3 : Int).toNat)).length + (p0.2.2.drop ((IntKind.i64.wrap (r3 + 1)) : Int).toNat).length < room 24 then
                                    some ((p0.1, (p0.2.1, (([] : List (ByteArray × Int)) ++ (p0.2.2.take (r3 : Int).toNat)) ++ (p0.2.2.drop ((IntKind.i64.wrap (r3 + 1)) : Int).toNat))), 0)
                                  else
                                    none
                                else
                                  none
                              else
                                none
                            )
                          ) (
                            agree (
                              if ([] : List (ByteArray × Int)).length + (p0.2.2.take (r3 : Int).toNat).length < room 24 then
                                if (0 : Int) ≤ (IntKind.i64.wrap (r3 + 1)) ∧ ((IntKind.i64.wrap (r3 + 1)) : Int) ≤ p0.2.2.length then
                                  if (([] : List (ByteArray × Int)) ++ (p0.2.2.take (r3 : Int).toNat)).length + (p0.2.2.drop ((IntKind.i64.wrap (r3 + 1)) : Int).toNat).length < room 24 then
                                    some ((p0.1, (p0.2.1, (([] : List (ByteArray × Int)) ++ (p0.2.2.take (r3 : Int).toNat)) ++ (p0.2.2.drop ((IntKind.i64.wrap (r3 + 1)) : Int).toNat))), 0)
                                  else
                                    none
                                else
                                  none
                              else
                                none
                            ) (
                              if (0 : Int) ≤ (IntKind.i64.wrap (r3 + 1)) ∧ ((IntKind.i64.wrap (r3 + 1)) : Int) ≤ p0.2.2.length then
                                if ([] : List (ByteArray × Int)).length + (p0.2.2.take (r3 : Int).toNat).length < room 24 then
                                  if (([] : List (ByteArray × Int)) ++ (p0.2.2.take (r3 : Int).toNat)).length + (p0.2.2.drop ((IntKind.i64.wrap (r3 + 1)) : Int).toNat).length < room 24 then
                                    some ((p0.1, (p0.2.1, (([] : List (ByteArray × Int)) ++ (p0.2.2.take (r3 : Int).toNat)) ++ (p0.2.2.drop ((IntKind.i64.wrap (r3 + 1)) : Int).toNat))), 0)
                                  else
                                    none
                                else
                                  none
                              else
                                none
                            )
                          )
                        ) (
                          agree (
                            if ([] : List (ByteArray × Int)).length + (p0.2.2.take (r3 : Int).toNat).length < room 24 then
                              if (0 : Int) ≤ (IntKind.i64.wrap (r3 + 1)) ∧ ((IntKind.i64.wrap (r3 + 1)) : Int) ≤ p0.2.2.length then
                                if (([] : List (ByteArray × Int)) ++ (p0.2.2.take (r3 : Int).toNat)).length + (p0.2.2.drop ((IntKind.i64.wrap (r3 + 1)) : Int).toNat).length < room 24 then
                                  some ((p0.1, (p0.2.1, (([] : List (ByteArray × Int)) ++ (p0.2.2.take (r3 : Int).toNat)) ++ (p0.2.2.drop ((IntKind.i64.wrap (r3 + 1)) : Int).toNat))), 0)
                                else
                                  none
                              else
                                none
                            else
                              none
                          ) (
                            if (0 : Int) ≤ (IntKind.i64.wrap (r3 + 1)) ∧ ((IntKind.i64.wrap (r3 + 1)) : Int) ≤ p0.2.2.length then
                              if ([] : List (ByteArray × Int)).length + (p0.2.2.take (r3 : Int).toNat).length < room 24 then
                                if (([] : List (ByteArray × Int)) ++ (p0.2.2.take (r3 : Int).toNat)).length + (p0.2.2.drop ((IntKind.i64.wrap (r3 + 1)) : Int).toNat).length < room 24 then
                                  some ((p0.1, (p0.2.1, (([] : List (ByteArray × Int)) ++ (p0.2.2.take (r3 : Int).toNat)) ++ (p0.2.2.drop ((IntKind.i64.wrap (r3 + 1)) : Int).toNat))), 0)
                                else
                                  none
                              else
                                none
                            else
                              none
                          )
                        )
                      )
                    else
                      none
                  ) (
                    if (0 : Int) ≤ (IntKind.i64.wrap (r3 + 1)) ∧ ((IntKind.i64.wrap (r3 + 1)) : Int) ≤ p0.2.2.length then
                      if (0 : Int) ≤ r3 ∧ (r3 : Int) ≤ p0.2.2.length then
                        if ([] : List (ByteArray × Int)).length + (p0.2.2.take (r3 : Int).toNat).length < room 24 then
                          if (([] : List (ByteArray × Int)) ++ (p0.2.2.take (r3 : Int).toNat)).length + (p0.2.2.drop ((IntKind.i64.wrap (r3 + 1)) : Int).toNat).length < room 24 then
                            some ((p0.1, (p0.2.1, (([] : List (ByteArray × Int)) ++ (p0.2.2.take (r3 : Int).toNat)) ++ (p0.2.2.drop ((IntKind.i64.wrap (r3 + 1)) : Int).toNat))), 0)
                          else
                            none
                        else
                          none
                      else
                        none
                    else
                      none
                  )
                )
              )
            ) (
              agree (
                if (0 : Int) ≤ r3 ∧ (r3 : Int) ≤ p0.2.2.length then
                  agree (
                    agree (
                      agree (
                        agree (
                          if ([] : List (ByteArray × Int)).length + (p0.2.2.take (r3 : Int).toNat).length < room 24 then
                            if (0 : Int) ≤ (IntKind.i64.wrap (r3 + 1)) ∧ ((IntKind.i64.wrap (r3 + 1)) : Int) ≤ p0.2.2.length then
                              if (([] : List (ByteArray × Int)) ++ (p0.2.2.take (r3 : Int).toNat)).length + (p0.2.2.drop ((IntKind.i64.wrap (r3 + 1)) : Int).toNat).length < room 24 then
                                some ((p0.1, (p0.2.1, (([] : List (ByteArray × Int)) ++ (p0.2.2.take (r3 : Int).toNat)) ++ (p0.2.2.drop ((IntKind.i64.wrap (r3 + 1)) : Int).toNat))), 0)
                              else
                                none
                            else
                              none
                          else
                            none
                        ) (
                          if (0 : Int) ≤ (IntKind.i64.wrap (r3 + 1)) ∧ ((IntKind.i64.wrap (r3 + 1)) : Int) ≤ p0.2.2.length then
                            if ([] : List (ByteArray × Int)).length + (p0.2.2.take (r3 : Int).toNat).length < room 24 then
                              if (([] : List (ByteArray × Int)) ++ (p0.2.2.take (r3 : Int).toNat)).length + (p0.2.2.drop ((IntKind.i64.wrap (r3 + 1)) : Int).toNat).length < room 24 then
                                some ((p0.1, (p0.2.1, (([] : List (ByteArray × Int)) ++ (p0.2.2.take (r3 : Int).toNat)) ++ (p0.2.2.drop ((IntKind.i64.wrap (r3 + 1)) : Int).toNat))), 0)
                              else
                                none
                            else
                              none
                          else
                            none
                        )
                      ) (
                        if (0 : Int) ≤ (IntKind.i64.wrap (r3 + 1)) ∧ ((IntKind.i64.wrap (r3 + 1)) : Int) ≤ p0.2.2.length then
                          if ([] : List (ByteArray × Int)).length + (p0.2.2.take (r3 : Int).toNat).length < room 24 then
                            if (([] : List (ByteArray × Int)) ++ (p0.2.2.take (r3 : Int).toNat)).length + (p0.2.2.drop ((IntKind.i64.wrap (r3 + 1)) : Int).toNat).length < room 24 then
                              some ((p0.1, (p0.2.1, (([] : List (ByteArray × Int)) ++ (p0.2.2.take (r3 : Int).toNat)) ++ (p0.2.2.drop ((IntKind.i64.wrap (r3 + 1)) : Int).toNat))), 0)
                            else
                              none
                          else
                            none
                        else
                          none
                      )
                    ) (
                      agree (
                        agree (
                          agree (
                            if ([] : List (ByteArray × Int)).length + (p0.2.2.take (r3 : Int).toNat).length < room 24 then
                              if (0 : Int) ≤ (IntKind.i64.wrap (r3 + 1)) ∧ ((IntKind.i64.wrap (r3 + 1)) : Int) ≤ p0.2.2.length then
                                if (([] : List (ByteArray × Int)) ++ (p0.2.2.take (r3 : Int).toNat)).length + (p0.2.2.drop ((IntKind.i64.wrap (r3 + 1)) : Int).toNat).length < room 24 then
                                  some ((p0.1, (p0.2.1, (([] : List (ByteArray × Int)) ++ (p0.2.2.take (r3 : Int).toNat)) ++ (p0.2.2.drop ((IntKind.i64.wrap (r3 + 1)) : Int).toNat))), 0)
                                else
                                  none
                              else
                                none
                            else
                              none
                          ) (
                            if (0 : Int) ≤ (IntKind.i64.wrap (r3 + 1)) ∧ ((IntKind.i64.wrap (r3 + 1)) : Int) ≤ p0.2.2.length then
                              if ([] : List (ByteArray × Int)).length + (p0.2.2.take (r3 : Int).toNat).length < room 24 then
                                if (([] : List (ByteArray × Int)) ++ (p0.2.2.take (r3 : Int).toNat)).length + (p0.2.2.drop ((IntKind.i64.wrap (r3 + 1)) : Int).toNat).length < room 24 then
                                  some ((p0.1, (p0.2.1, (([] : List (ByteArray × Int)) ++ (p0.2.2.take (r3 : Int).toNat)) ++ (p0.2.2.drop ((IntKind.i64.wrap (r3 + 1)) : Int).toNat))), 0)
                                else
                                  none
                              else
                                none
                            else
                              none
                          )
                        ) (
                          agree (
                            if ([] : List (ByteArray × Int)).length + (p0.2.2.take (r3 : Int).toNat).length < room 24 then
                              if (0 : Int) ≤ (IntKind.i64.wrap (r3 + 1)) ∧ ((IntKind.i64.wrap (r3 + 1)) : Int) ≤ p0.2.2.length then
                                if (([] : List (ByteArray × Int)) ++ (p0.2.2.take (r3 : Int).toNat)).length + (p0.2.2.drop ((IntKind.i64.wrap (r3 + 1)) : Int).toNat).length < room 24 then
                                  some ((p0.1, (p0.2.1, (([] : List (ByteArray × Int)) ++ (p0.2.2.take (r3 : Int).toNat)) ++ (p0.2.2.drop ((IntKind.i64.wrap (r3 + 1)) : Int).toNat))), 0)
                                else
                                  none
                              else
                                none
                            else
                              none
                          ) (
                            if (0 : Int) ≤ (IntKind.i64.wrap (r3 + 1)) ∧ ((IntKind.i64.wrap (r3 + 1)) : Int) ≤ p0.2.2.length then
                              if ([] : List (ByteArray × Int)).length + (p0.2.2.take (r3 : Int).toNat).length < room 24 then
                                if (([] : List (ByteArray × Int)) ++ (p0.2.2.take (r3 : Int).toNat)).length + (p0.2.2.drop ((IntKind.i64.wrap (r3 + 1)) : Int).toNat).length < room 24 then
                                  some ((p0.1, (p0.2.1, (([] : List (ByteArray × Int)) ++ (p0.2.2.take (r3 : Int).toNat)) ++ (p0.2.2.drop ((IntKind.i64.wrap (r3 + 1)) : Int).toNat))), 0)
                                else
                                  none
                              else
                                none
                            else
                              none
                          )
                        )
                      ) (
                        if (0 : Int) ≤ (IntKind.i64.wrap (r3 + 1)) ∧ ((IntKind.i64.wrap (r3 + 1)) : Int) ≤ p0.2.2.length then
                          if ([] : List (ByteArray × Int)).length + (p0.2.2.take (r3 : Int).toNat).length < room 24 then
                            if (([] : List (ByteArray × Int)) ++ (p0.2.2.take (r3 : Int).toNat)).length + (p0.2.2.drop ((IntKind.i64.wrap (r3 + 1)) : Int).toNat).length < room 24 then
                              some ((p0.1, (p0.2.1, (([] : List (ByteArray × Int)) ++ (p0.2.2.take (r3 : Int).toNat)) ++ (p0.2.2.drop ((IntKind.i64.wrap (r3 + 1)) : Int).toNat))), 0)
                            else
                              none
                          else
                            none
                        else
                          none
                      )
                    )
                  ) (
                    agree (
                      agree (
                        agree (
                          agree (
                            if ([] : List (ByteArray × Int)).length + (p0.2.2.take (r3 : Int).toNat).length < room 24 then
                              if (0 : Int) ≤ (IntKind.i64.wrap (r3 + 1)) ∧ ((IntKind.i64.wrap (r3 + 1)) : Int) ≤ p0.2.2.length then
                                if (([] : List (ByteArray × Int)) ++ (p0.2.2.take (r3 : Int).toNat)).length + (p0.2.2.drop ((IntKind.i64.wrap (r3 + 1)) : Int).toNat).length < room 24 then
                                  some ((p0.1, (p0.2.1, (([] : List (ByteArray × Int)) ++ (p0.2.2.take (r3 : Int).toNat)) ++ (p0.2.2.drop ((IntKind.i64.wrap (r3 + 1)) : Int).toNat))), 0)
                                else
                                  none
                              else
                                none
                            else
                              none
                          ) (
                            if (0 : Int) ≤ (IntKind.i64.wrap (r3 + 1)) ∧ ((IntKind.i64.wrap (r3 + 1)) : Int) ≤ p0.2.2.length then
                              if ([] : List (ByteArray × Int)).length + (p0.2.2.take (r3 : Int).toNat).length < room 24 then
                                if (([] : List (ByteArray × Int)) ++ (p0.2.2.take (r3 : Int).toNat)).length + (p0.2.2.drop ((IntKind.i64.wrap (r3 + 1)) : Int).toNat).length < room 24 then
                                  some ((p0.1, (p0.2.1, (([] : List (ByteArray × Int)) ++ (p0.2.2.take (r3 : Int).toNat)) ++ (p0.2.2.drop ((IntKind.i64.wrap (r3 + 1)) : Int).toNat))), 0)
                                else
                                  none
                              else
                                none
                            else
                              none
                          )
                        ) (
                          if (0 : Int) ≤ (IntKind.i64.wrap (r3 + 1)) ∧ ((IntKind.i64.wrap (r3 + 1)) : Int) ≤ p0.2.2.length then
                            if ([] : List (ByteArray × Int)).length + (p0.2.2.take (r3 : Int).toNat).length < room 24 then
                              if (([] : List (ByteArray × Int)) ++ (p0.2.2.take (r3 : Int).toNat)).length + (p0.2.2.drop ((IntKind.i64.wrap (r3 + 1)) : Int).toNat).length < room 24 then
                                some ((p0.1, (p0.2.1, (([] : List (ByteArray × Int)) ++ (p0.2.2.take (r3 : Int).toNat)) ++ (p0.2.2.drop ((IntKind.i64.wrap (r3 + 1)) : Int).toNat))), 0)
                              else
                                none
                            else
                              none
                          else
                            none
                        )
                      ) (
                        agree (
                          agree (
                            agree (
                              if ([] : List (ByteArray × Int)).length + (p0.2.2.take (r3 : Int).toNat).length < room 24 then
                                if (0 : Int) ≤ (IntKind.i64.wrap (r3 + 1)) ∧ ((IntKind.i64.wrap (r3 + 1)) : Int) ≤ p0.2.2.length then
                                  if (([] : List (ByteArray × Int)) ++ (p0.2.2.take (r3 : Int).toNat)).length + (p0.2.2.drop ((IntKind.i64.wrap (r3 + 1)) : Int).toNat).length < room 24 then
                                    some ((p0.1, (p0.2.1, (([] : List (ByteArray × Int)) ++ (p0.2.2.take (r3 : Int).toNat)) ++ (p0.2.2.drop ((IntKind.i64.wrap (r3 + 1)) : Int).toNat))), 0)
                                  else
                                    none
                                else
                                  none
                              else
                                none
                            ) (
                              if (0 : Int) ≤ (IntKind.i64.wrap (r3 + 1)) ∧ ((IntKind.i64.wrap (r3 + 1)) : Int) ≤ p0.2.2.length then
                                if ([] : List (ByteArray × Int)).length + (p0.2.2.take (r3 : Int).toNat).length < room 24 then
                                  if (([] : List (ByteArray × Int)) ++ (p0.2.2.take (r3 : Int).toNat)).length + (p0.2.2.drop ((IntKind.i64.wrap (r3 + 1)) : Int).toNat).length < room 24 then
                                    some ((p0.1, (p0.2.1, (([] : List (ByteArray × Int)) ++ (p0.2.2.take (r3 : Int).toNat)) ++ (p0.2.2.drop ((IntKind.i64.wrap (r3 + 1)) : Int).toNat))), 0)
                                  else
                                    none
                                else
                                  none
                              else
                                none
                            )
                          ) (
                            agree (
                              if ([] : List (ByteArray × Int)).length + (p0.2.2.take (r3 : Int).toNat).length < room 24 then
                                if (0 : Int) ≤ (IntKind.i64.wrap (r3 + 1)) ∧ ((IntKind.i64.wrap (r3 + 1)) : Int) ≤ p0.2.2.length then
                                  if (([] : List (ByteArray × Int)) ++ (p0.2.2.take (r3 : Int).toNat)).length + (p0.2.2.drop ((IntKind.i64.wrap (r3 + 1)) : Int).toNat).length < room 24 then
                                    some ((p0.1, (p0.2.1, (([] : List (ByteArray × Int)) ++ (p0.2.2.take (r3 : Int).toNat)) ++ (p0.2.2.drop ((IntKind.i64.wrap (r3 + 1)) : Int).toNat))), 0)
                                  else
                                    none
                                else
                                  none
                              else
                                none
                            ) (
                              if (0 : Int) ≤ (IntKind.i64.wrap (r3 + 1)) ∧ ((IntKind.i64.wrap (r3 + 1)) : Int) ≤ p0.2.2.length then
                                if ([] : List (ByteArray × Int)).length + (p0.2.2.take (r3 : Int).toNat).length < room 24 then
                                  if (([] : List (ByteArray × Int)) ++ (p0.2.2.take (r3 : Int).toNat)).length + (p0.2.2.drop ((IntKind.i64.wrap (r3 + 1)) : Int).toNat).length < room 24 then
                                    some ((p0.1, (p0.2.1, (([] : List (ByteArray × Int)) ++ (p0.2.2.take (r3 : Int).toNat)) ++ (p0.2.2.drop ((IntKind.i64.wrap (r3 + 1)) : Int).toNat))), 0)
                                  else
                                    none
                                else
                                  none
                              else
                                none
                            )
                          )
                        ) (
                          if (0 : Int) ≤ (IntKind.i64.wrap (r3 + 1)) ∧ ((IntKind.i64.wrap (r3 + 1)) : Int) ≤ p0.2.2.length then
                            if ([] : List (ByteArray × Int)).length + (p0.2.2.take (r3 : Int).toNat).length < room 24 then
                              if (([] : List (ByteArray × Int)) ++ (p0.2.2.take (r3 : Int).toNat)).length + (p0.2.2.drop ((IntKind.i64.wrap (r3 + 1)) : Int).toNat).length < room 24 then
                                some ((p0.1, (p0.2.1, (([] : List (ByteArray × Int)) ++ (p0.2.2.take (r3 : Int).toNat)) ++ (p0.2.2.drop ((IntKind.i64.wrap (r3 + 1)) : Int).toNat))), 0)
                              else
                                none
                            else
                              none
                          else
                            none
                        )
                      )
                    ) (
                      agree (
                        agree (
                          agree (
                            agree (
                              if ([] : List (ByteArray × Int)).length + (p0.2.2.take (r3 : Int).toNat).length < room 24 then
                                if (0 : Int) ≤ (IntKind.i64.wrap (r3 + 1)) ∧ ((IntKind.i64.wrap (r3 + 1)) : Int) ≤ p0.2.2.length then
                                  if (([] : List (ByteArray × Int)) ++ (p0.2.2.take (r3 : Int).toNat)).length + (p0.2.2.drop ((IntKind.i64.wrap (r3 + 1)) : Int).toNat).length < room 24 then
                                    some ((p0.1, (p0.2.1, (([] : List (ByteArray × Int)) ++ (p0.2.2.take (r3 : Int).toNat)) ++ (p0.2.2.drop ((IntKind.i64.wrap (r3 + 1)) : Int).toNat))), 0)
                                  else
                                    none
                                else
                                  none
                              else
                                none
                            ) (
                              if (0 : Int) ≤ (IntKind.i64.wrap (r3 + 1)) ∧ ((IntKind.i64.wrap (r3 + 1)) : Int) ≤ p0.2.2.length then
                                if ([] : List (ByteArray × Int)).length + (p0.2.2.take (r3 : Int).toNat).length < room 24 then
                                  if (([] : List (ByteArray × Int)) ++ (p0.2.2.take (r3 : Int).toNat)).length + (p0.2.2.drop ((IntKind.i64.wrap (r3 + 1)) : Int).toNat).length < room 24 then
                                    some ((p0.1, (p0.2.1, (([] : List (ByteArray × Int)) ++ (p0.2.2.take (r3 : Int).toNat)) ++ (p0.2.2.drop ((IntKind.i64.wrap (r3 + 1)) : Int).toNat))), 0)
                                  else
                                    none
                                else
                                  none
                              else
                                none
                            )
                          ) (
                            agree (
                              if ([] : List (ByteArray × Int)).length + (p0.2.2.take (r3 : Int).toNat).length < room 24 then
                                if (0 : Int) ≤ (IntKind.i64.wrap (r3 + 1)) ∧ ((IntKind.i64.wrap (r3 + 1)) : Int) ≤ p0.2.2.length then
                                  if (([] : List (ByteArray × Int)) ++ (p0.2.2.take (r3 : Int).toNat)).length + (p0.2.2.drop ((IntKind.i64.wrap (r3 + 1)) : Int).toNat).length < room 24 then
                                    some ((p0.1, (p0.2.1, (([] : List (ByteArray × Int)) ++ (p0.2.2.take (r3 : Int).toNat)) ++ (p0.2.2.drop ((IntKind.i64.wrap (r3 + 1)) : Int).toNat))), 0)
                                  else
                                    none
                                else
                                  none
                              else
                                none
                            ) (
                              if (0 : Int) ≤ (IntKind.i64.wrap (r3 + 1)) ∧ ((IntKind.i64.wrap (r3 + 1)) : Int) ≤ p0.2.2.length then
                                if ([] : List (ByteArray × Int)).length + (p0.2.2.take (r3 : Int).toNat).length < room 24 then
                                  if (([] : List (ByteArray × Int)) ++ (p0.2.2.take (r3 : Int).toNat)).length + (p0.2.2.drop ((IntKind.i64.wrap (r3 + 1)) : Int).toNat).length < room 24 then
                                    some ((p0.1, (p0.2.1, (([] : List (ByteArray × Int)) ++ (p0.2.2.take (r3 : Int).toNat)) ++ (p0.2.2.drop ((IntKind.i64.wrap (r3 + 1)) : Int).toNat))), 0)
                                  else
                                    none
                                else
                                  none
                              else
                                none
                            )
                          )
                        ) (
                          agree (
                            agree (
                              agree (
                                if ([] : List (ByteArray × Int)).length + (p0.2.2.take (r3 : Int).toNat).length < room 24 then
                                  if (0 : Int) ≤ (IntKind.i64.wrap (r3 + 1)) ∧ ((IntKind.i64.wrap (r3 + 1)) : Int) ≤ p0.2.2.length then
                                    if (([] : List (ByteArray × Int)) ++ (p0.2.2.take (r3 : Int).toNat)).length + (p0.2.2.drop ((IntKind.i64.wrap (r3 + 1)) : Int).toNat).length < room 24 then
                                      some ((p0.1, (p0.2.1, (([] : List (ByteArray × Int)) ++ (p0.2.2.take (r3 : Int).toNat)) ++ (p0.2.2.drop ((IntKind.i64.wrap (r3 + 1)) : Int).toNat))), 0)
                                    else
                                      none
                                  else
                                    none
                                else
                                  none
                              ) (
                                if (0 : Int) ≤ (IntKind.i64.wrap (r3 + 1)) ∧ ((IntKind.i64.wrap (r3 + 1)) : Int) ≤ p0.2.2.length then
                                  if ([] : List (ByteArray × Int)).length + (p0.2.2.take (r3 : Int).toNat).length < room 24 then
                                    if (([] : List (ByteArray × Int)) ++ (p0.2.2.take (r3 : Int).toNat)).length + (p0.2.2.drop ((IntKind.i64.wrap (r3 + 1)) : Int).toNat).length < room 24 then
                                      some ((p0.1, (p0.2.1, (([] : List (ByteArray × Int)) ++ (p0.2.2.take (r3 : Int).toNat)) ++ (p0.2.2.drop ((IntKind.i64.wrap (r3 + 1)) : Int).toNat))), 0)
                                    else
                                      none
                                  else
                                    none
                                else
                                  none
                              )
                            ) (
                              agree (
                                if ([] : List (ByteArray × Int)).length + (p0.2.2.take (r3 : Int).toNat).length < room 24 then
                                  if (0 : Int) ≤ (IntKind.i64.wrap (r3 + 1)) ∧ ((IntKind.i64.wrap (r3 + 1)) : Int) ≤ p0.2.2.length then
                                    if (([] : List (ByteArray × Int)) ++ (p0.2.2.take (r3 : Int).toNat)).length + (p0.2.2.drop ((IntKind.i64.wrap (r3 + 1)) : Int).toNat).length < room 24 then
                                      some ((p0.1, (p0.2.1, (([] : List (ByteArray × Int)) ++ (p0.2.2.take (r3 : Int).toNat)) ++ (p0.2.2.drop ((IntKind.i64.wrap (r3 + 1)) : Int).toNat))), 0)
                                    else
                                      none
                                  else
                                    none
                                else
                                  none
                              ) (
                                if (0 : Int) ≤ (IntKind.i64.wrap (r3 + 1)) ∧ ((IntKind.i64.wrap (r3 + 1)) : Int) ≤ p0.2.2.length then
                                  if ([] : List (ByteArray × Int)).length + (p0.2.2.take (r3 : Int).toNat).length < room 24 then
                                    if (([] : List (ByteArray × Int)) ++ (p0.2.2.take (r3 : Int).toNat)).length + (p0.2.2.drop ((IntKind.i64.wrap (r3 + 1)) : Int).toNat).length < room 24 then
                                      some ((p0.1, (p0.2.1, (([] : List (ByteArray × Int)) ++ (p0.2.2.take (r3 : Int).toNat)) ++ (p0.2.2.drop ((IntKind.i64.wrap (r3 + 1)) : Int).toNat))), 0)
                                    else
                                      none
                                  else
                                    none
                                else
                                  none
                              )
                            )
                          ) (
                            agree (
                              if ([] : List (ByteArray × Int)).length + (p0.2.2.take (r3 : Int).toNat).length < room 24 then
                                if (0 : Int) ≤ (IntKind.i64.wrap (r3 + 1)) ∧ ((IntKind.i64.wrap (r3 + 1)) : Int) ≤ p0.2.2.length then
                                  if (([] : List (ByteArray × Int)) ++ (p0.2.2.take (r3 : Int).toNat)).length + (p0.2.2.drop ((IntKind.i64.wrap (r3 + 1)) : Int).toNat).length < room 24 then
                                    some ((p0.1, (p0.2.1, (([] : List (ByteArray × Int)) ++ (p0.2.2.take (r3 : Int).toNat)) ++ (p0.2.2.drop ((IntKind.i64.wrap (r3 + 1)) : Int).toNat))), 0)
                                  else
                                    none
                                else
                                  none
                              else
                                none
                            ) (
                              if (0 : Int) ≤ (IntKind.i64.wrap (r3 + 1)) ∧ ((IntKind.i64.wrap (r3 + 1)) : Int) ≤ p0.2.2.length then
                                if ([] : List (ByteArray × Int)).length + (p0.2.2.take (r3 : Int).toNat).length < room 24 then
                                  if (([] : List (ByteArray × Int)) ++ (p0.2.2.take (r3 : Int).toNat)).length + (p0.2.2.drop ((IntKind.i64.wrap (r3 + 1)) : Int).toNat).length < room 24 then
                                    some ((p0.1, (p0.2.1, (([] : List (ByteArray × Int)) ++ (p0.2.2.take (r3 : Int).toNat)) ++ (p0.2.2.drop ((IntKind.i64.wrap (r3 + 1)) : Int).toNat))), 0)
                                  else
                                    none
                                else
                                  none
                              else
                                none
                            )
                          )
                        )
                      ) (
                        if (0 : Int) ≤ (IntKind.i64.wrap (r3 + 1)) ∧ ((IntKind.i64.wrap (r3 + 1)) : Int) ≤ p0.2.2.length then
                          if ([] : List (ByteArray × Int)).length + (p0.2.2.take (r3 : Int).toNat).length < room 24 then
                            if (([] : List (ByteArray × Int)) ++ (p0.2.2.take (r3 : Int).toNat)).length + (p0.2.2.drop ((IntKind.i64.wrap (r3 + 1)) : Int).toNat).length < room 24 then
                              some ((p0.1, (p0.2.1, (([] : List (ByteArray × Int)) ++ (p0.2.2.take (r3 : Int).toNat)) ++ (p0.2.2.drop ((IntKind.i64.wrap (r3 + 1)) : Int).toNat))), 0)
                            else
                              none
                          else
                            none
                        else
                          none
                      )
                    )
                  )
                else
                  none
              ) (
                if (0 : Int) ≤ (IntKind.i64.wrap (r3 + 1)) ∧ ((IntKind.i64.wrap (r3 + 1)) : Int) ≤ p0.2.2.length then
                  if (0 : Int) ≤ r3 ∧ (r3 : Int) ≤ p0.2.2.length then
                    if ([] : List (ByteArray × Int)).length + (p0.2.2.take (r3 : Int).toNat).length < room 24 then
                      if (([] : List (ByteArray × Int)) ++ (p0.2.2.take (r3 : Int).toNat)).length + (p0.2.2.drop ((IntKind.i64.wrap (r3 + 1)) : Int).toNat).length < room 24 then
                        some ((p0.1, (p0.2.1, (([] : List (ByteArray × Int)) ++ (p0.2.2.take (r3 : Int).toNat)) ++ (p0.2.2.drop ((IntKind.i64.wrap (r3 + 1)) : Int).toNat))), 0)
                      else
                        none
                    else
                      none
                  else
                    none
                else
                  none
              )
            )
          )
        )
  else
    some ((ByteArray.empty, (0, [])), 1)
def spec_CutLine.fn (n : Nat) (p0 : ByteArray × Int × List (ByteArray × Int)) (article1 : ByteArray) : Option ((ByteArray × Int × List (ByteArray × Int)) × Int) := spec_CutLine.top p0 article1
def spec_CutLine.f (p0 : ByteArray × Int × List (ByteArray × Int)) (article1 : ByteArray) : Option ((ByteArray × Int × List (ByteArray × Int)) × Int) := spec_CutLine.fn NN p0 article1
end
end Go.Pl

namespace Go.Pl
open Go.Ev
set_option linter.unusedVariables false
set_option linter.unusedSimpArgs false
abbrev Pap := ByteArray × Int × List Ln
theorem impl_withLines_f (p : Pap) (ls : List Ln) : impl_withLines.f p ls = some (p.1, p.2.1, ls) := rfl
theorem room24n {n : Nat} (h : n ≤ 2000) : n < room 24 := by rw [room24]; omega
theorem find_idx (p : Pap) (a : ByteArray) (h : p.2.2.length ≤ 1000000) :
    (∃ q y r, p.2.2 = q ++ y :: r ∧ y.1 = a ∧ (∀ l ∈ q, l.1 ≠ a) ∧ spec_l29Find.f p a = some (q.length : Int)) ∨ ((∀ l ∈ p.2.2, l.1 ≠ a) ∧ spec_l29Find.f p a = some (-1)) := by
  rcases first_split (a := a) p.2.2 0 with ⟨q, y, r, h1, h2, h3, h4⟩ | ⟨h1, h2⟩
  · exact .inl ⟨q, y, r, h1, h2, h3, by rw [spec_l29Find_f p a h, h4]; simp⟩
  · exact .inr ⟨h1, by rw [spec_l29Find_f p a h, h2]; rfl⟩
theorem ok_line {a : ByteArray} {c : Int} (h : wordB a = true) (hc : -1000000 ≤ c ∧ c ≤ 1000000) : OkLine (a, c) := by
  have := wordB_size h
  exact ⟨by unfold Sm; simp only; omega, wf64.2 (by simp only; omega)⟩
theorem ok_zero : OkPaper (ByteArray.empty, ((0 : Int), ([] : List Ln))) := ⟨by unfold Sm; decide, wf64.2 (by simp), by simp, by simp⟩
theorem ok_paper {p : Pap} (hp : OkPaper p) {ls : List Ln} (h1 : ls.length ≤ 1000) (h2 : ∀ l ∈ ls, OkLine l) : OkPaper (p.1, p.2.1, ls) := ⟨hp.1, hp.2.1, by simp only; omega, h2⟩
theorem put_found {ls q r : List Ln} {y : Ln} {a : ByteArray} {c : Int} (hc : c ≠ 0) (hs : Srt ls) (h1 : ls = q ++ y :: r) (h2 : y.1 = a) : putL a c ls = q ++ (a, c) :: r ∧ ls.set q.length (y.1, c) = q ++ (a, c) :: r := by
  subst h1
  obtain ⟨k1, k2⟩ := srt_mid hs
  refine ⟨?_, by simp [h2]⟩
  unfold putL
  rw [if_neg hc]
  exact ins_mid c h2 (fun l hl e => by have := k2 l hl; rw [h2, e, ltW_irr] at this; cases this) q (fun l hl => by rw [← h2]; exact k1 l hl)
theorem put_new {ls : List Ln} {a : ByteArray} {c : Int} (hc : c ≠ 0) (hs : Srt ls) (h : ∀ l ∈ ls, l.1 ≠ a) : putL a c ls = addA a c ls := by
  unfold putL
  rw [if_neg hc]
  exact ins_add c ls hs h
theorem line_ok_lm {l : Ln} (h : lineOk l = true) : OkLine l := by
  have h3 := lineOk_iff.1 h
  have := wordB_size h3.1
  exact ⟨by unfold Sm; omega, wf64.2 (by omega)⟩
theorem add_ok {a : ByteArray} {c : Int} {xs : List Ln} (ha : wordB a = true) (hc : 1 ≤ c ∧ c ≤ 1000) (h : ∀ l ∈ xs, l.1 ≠ a) (hx : ∀ l ∈ xs, lineOk l = true) : ∀ l ∈ addA a c xs, lineOk l = true := by
  intro l hl
  rcases mem_add xs hl with rfl | ⟨y, h1, h2, _⟩ | h1
  · exact lineOk_iff.2 ⟨ha, hc⟩
  · exact absurd h2 (h y h1)
  · exact hx l h1
theorem PutLine_core (p : Pap) (a : ByteArray) (c : Int) (hp : OkPaper p) (ha : Sm a) (hcc : Rg .i64 c) : ∃ w, spec_PutLine.f p a c = some w ∧ impl_PutLine.f p a c = some w ∧ OkPaper w.1 := by
  unfold spec_PutLine.f spec_PutLine.fn spec_PutLine.top impl_PutLine.f impl_PutLine.fn impl_PutLine.top
  have ha' : a.size ≤ 140737488355328 := Nat.le_trans ha (by omega)
  rw [spec_IsPaper_f p hp, impl_IsPaper_f p hp, spec_IsWord_f a ha', impl_IsWord_f a ha', spec_l01In_f, impl_within_f]
  cases h1 : paperB p
  · exact ⟨_, rfl, rfl, ok_zero⟩
  cases h2 : wordB a
  · exact ⟨_, rfl, rfl, ok_zero⟩
  cases h3 : inB c 1 1000
  · exact ⟨_, rfl, rfl, ok_zero⟩
  have hc := inB_iff.1 h3
  have hc0 : c ≠ 0 := by omega
  have hl := (paperB_iff h1).2.2
  obtain ⟨q1, q2⟩ := linesB_ok hl
  have hs := linesB_srt hl
  have r1 := room24n (n := p.2.2.length) (by omega)
  simp only [Option.bind_some, Bool.not_true, Bool.false_eq_true, if_false, if_true, List.nil_append, List.length_nil, Nat.zero_add, r1]
  rw [impl_putLine_f _ _ _ (by omega)]
  rcases find_idx p a (by omega) with ⟨q, y, r, e1, e2, e3, e4⟩ | ⟨e1, e2⟩
  · obtain ⟨f1, f2⟩ := put_found (c := c) hc0 hs e1 e2
    have hql : q.length + r.length + 1 = p.2.2.length := by rw [e1]; simp; omega
    have n1 : (0 : Int) ≤ (q.length : Int) := by omega
    have n2 : (q.length : Int) < (p.2.2.length : Int) := by omega
    have n3 : ¬ (12 : Int) < ((putL a c p.2.2).length : Int) := by rw [f1]; simp; omega
    have g : ∀ z, p.2.2.getD q.length z = y := fun z => by rw [e1, mid_getn]
    rw [e4]
    simp only [Option.bind_some, n1, n2, n3, and_self, decide_true, decide_false, Bool.false_eq_true, if_true, if_false, impl_withLines_f, Int.toNat_natCast, g, f2]
    refine ⟨_, rfl, by rw [f1], ok_paper hp (by simp; omega) fun l hl => ?_⟩
    rcases List.mem_append.1 hl with h | h
    · exact line_ok_lm (q2 l (by rw [e1]; simp [h]))
    · rcases List.mem_cons.1 h with rfl | h
      · exact ok_line h2 (by omega)
      · exact line_ok_lm (q2 l (by rw [e1]; simp [h]))
  · have f1 := put_new (c := c) hc0 hs e1
    have hlen := add_len (a := a) (c := c) p.2.2
    have hok := add_ok h2 hc e1 q2
    have n1 : ¬ (0 : Int) ≤ -1 := by omega
    have hpo : OkPaper (p.1, p.2.1, addA a c p.2.2) := ok_paper hp (by omega) fun l hl => line_ok_lm (hok l hl)
    rw [e2]
    simp only [Option.bind_some, n1, decide_false, Bool.false_eq_true, if_false, f1]
    rw [spec_l29Put_f _ _ _ (by omega) (by omega) (fun l hl => by have := (lineOk_iff.1 (q2 l hl)).2; omega)]
    simp only [Option.bind_some, impl_withLines_f]
    rw [spec_IsPaper_f _ hpo]
    have hpb : paperB (p.1, p.2.1, addA a c p.2.2) = decide ((addA a c p.2.2).length ≤ 12) := by
      obtain ⟨k1, k2, _⟩ := paperB_iff h1
      unfold paperB
      simp only [k1, inB_iff.2 k2, Bool.true_and]
      by_cases h : (addA a c p.2.2).length ≤ 12
      · rw [linesB_of (add_srt _ hs) hok h]; simp [h]
      · unfold linesB; simp [h]
    rw [hpb]
    by_cases h : (addA a c p.2.2).length ≤ 12
    · have h' : ¬ (12 : Int) < ((addA a c p.2.2).length : Int) := by omega
      refine ⟨((p.1, p.2.1, addA a c p.2.2), 0), by simp [h], by simp [h'], hpo⟩
    · have h' : (12 : Int) < ((addA a c p.2.2).length : Int) := by omega
      refine ⟨((ByteArray.empty, 0, []), 3), by simp [h], by simp [h'], ok_zero⟩
theorem cnt_none {a : ByteArray} : ∀ {xs : List Ln}, (∀ l ∈ xs, l.1 ≠ a) → cntL a xs = 0 := by
  intro xs
  induction xs with
  | nil => intro _; rfl
  | cons l r ih => intro h; simp only [cntL, h l (by simp), if_false]; exact ih fun x hx => h x (by simp [hx])
theorem cnt_mid {a : ByteArray} {r : List Ln} {y : Ln} (hy : y.1 = a) : ∀ {q : List Ln}, (∀ l ∈ q, l.1 ≠ a) → cntL a (q ++ y :: r) = y.2 := by
  intro q
  induction q with
  | nil => intro _; simp [cntL, hy]
  | cons l q ih => intro h; simp only [List.cons_append, cntL, h l (by simp), if_false]; exact ih fun x hx => h x (by simp [hx])
theorem CutLine_core (p : Pap) (a : ByteArray) (hp : OkPaper p) (ha : Sm a) : ∃ w, spec_CutLine.f p a = some w ∧ impl_CutLine.f p a = some w ∧ OkPaper w.1 := by
  unfold spec_CutLine.f spec_CutLine.fn spec_CutLine.top impl_CutLine.f impl_CutLine.fn impl_CutLine.top
  have ha' : a.size ≤ 140737488355328 := Nat.le_trans ha (by omega)
  rw [spec_IsPaper_f p hp, impl_IsPaper_f p hp, spec_IsWord_f a ha', impl_IsWord_f a ha']
  cases h1 : paperB p
  · exact ⟨_, rfl, rfl, ok_zero⟩
  cases h2 : wordB a
  · exact ⟨_, rfl, rfl, ok_zero⟩
  have hl := (paperB_iff h1).2.2
  obtain ⟨q1, q2⟩ := linesB_ok hl
  have hs := linesB_srt hl
  simp only [Option.bind_some, Bool.not_true, Bool.false_eq_true, if_false, if_true]
  rw [impl_putLine_f _ _ _ (by omega), impl_countIn_f _ _ (by omega)]
  rcases find_idx p a (by omega) with ⟨q, y, r, e1, e2, e3, e4⟩ | ⟨e1, e2⟩
  · have hql : q.length + r.length + 1 = p.2.2.length := by rw [e1]; simp; omega
    have n1 : (0 : Int) ≤ (q.length : Int) := by omega
    have n2 : (q.length : Int) ≤ (p.2.2.length : Int) := by omega
    have n3 : ¬ (q.length : Int) < 0 := by omega
    have n4 : (0 : Int) ≤ (q.length : Int) + 1 := by omega
    have n5 : (q.length : Int) + 1 ≤ (p.2.2.length : Int) := by omega
    have t1 : ((q.length : Int) + 1).toNat = q.length + 1 := by omega
    have w1 := w64 (n := (q.length : Int) + 1) (by omega) (by omega)
    have hy := lineOk_iff.1 (q2 y (by rw [e1]; simp))
    have hcnt : cntL a p.2.2 = y.2 := by rw [e1]; exact cnt_mid e2 e3
    have hn : ¬ y.2 = 0 := by omega
    rw [e1] at hs
    obtain ⟨k1, k2⟩ := srt_mid hs
    have hrem : putL a 0 p.2.2 = q ++ r := by
      unfold putL
      rw [if_pos rfl, e1]
      exact rem_mid e2 e3 (fun l hl e => by have := k2 l hl; rw [e2, e, ltW_irr] at this; cases this)
    have htk : p.2.2.take q.length = q := by rw [e1]; simp
    have hdr : p.2.2.drop (q.length + 1) = r := by rw [e1]; simp
    have r1 := room24n (n := 0 + q.length) (by omega)
    have r2 := room24n (n := q.length + r.length) (by omega)
    rw [e4]
    simp only [Option.bind_some, n1, n2, n3, n4, n5, w1, t1, Int.toNat_natCast, and_self, decide_false, Bool.false_eq_true, if_false, if_true, htk, hdr, List.nil_append, List.length_nil, r1, r2, agree_self, hcnt, hrem, impl_withLines_f]
    refine ⟨_, rfl, by simp [hn], ok_paper hp (by simp; omega) fun l hl => ?_⟩
    rcases List.mem_append.1 hl with h | h
    · exact line_ok_lm (q2 l (by rw [e1]; simp [h]))
    · exact line_ok_lm (q2 l (by rw [e1]; simp [h]))
  · have n1 : (-1 : Int) < 0 := by omega
    rw [e2, cnt_none e1]
    exact ⟨_, rfl, rfl, ok_zero⟩
end Go.Pl

namespace Go.Pl
open Go.Ev
set_option linter.unusedVariables false
set_option linter.unusedSimpArgs false
/-- what the merging of lines comes to -/
def mrgL (ax bs : List Ln) : List Ln := bs.foldl (fun st l => addA l.1 l.2 st) ax
/-- lines whose words are words, of counts up to a bound -/
def WOk (B : Int) (l : Ln) : Prop := wordB l.1 = true ∧ 1 ≤ l.2 ∧ l.2 ≤ B
theorem wok_of {xs : List Ln} (h : ∀ l ∈ xs, lineOk l = true) : ∀ l ∈ xs, WOk 1000 l := fun l hl => lineOk_iff.1 (h l hl)
theorem add_wok {a : ByteArray} {c B : Int} {xs : List Ln} (hB : 0 ≤ B) (ha : wordB a = true) (hc : 1 ≤ c ∧ c ≤ 1000) (hx : ∀ l ∈ xs, WOk B l) : ∀ l ∈ addA a c xs, WOk (B + 1000) l := by
  intro l hl
  rcases mem_add xs hl with rfl | ⟨y, h1, _, rfl⟩ | h1
  · exact ⟨ha, hc.1, by simp only; omega⟩
  · have := hx y h1; exact ⟨ha, by have := this.2; simp only; omega, by have := this.2; simp only; omega⟩
  · have := hx l h1; exact ⟨this.1, this.2.1, by have := this.2.2; omega⟩
theorem cnt_add_ne {a x : ByteArray} {c : Int} (h : x ≠ a) : ∀ (xs : List Ln), cntL x (addA a c xs) = cntL x xs := by
  intro xs
  induction xs with
  | nil => simp only [addA, cntL, fun e : a = x => h e.symm, if_false]; rw [if_neg (fun e => h e.symm)]
  | cons l r ih =>
    simp only [addA]
    split
    · simp only [cntL, ih]
    · split
      · rename_i _ he
        simp only [cntL]
        rw [if_neg (fun e => h e.symm), if_neg (fun e => h (e.symm.trans he))]
      · simp only [cntL]
        rw [if_neg (fun e => h e.symm)]
theorem cnt_add_eq {a : ByteArray} {c : Int} : ∀ (xs : List Ln), Srt xs → cntL a (addA a c xs) = c + cntL a xs := by
  intro xs
  induction xs with
  | nil => intro _; simp [addA, cntL]
  | cons l r ih =>
    intro hs
    obtain ⟨h1, h2⟩ := List.pairwise_cons.1 hs
    simp only [addA]
    split
    · rename_i h
      have hne := ltW_ne h
      simp only [cntL, hne, if_false, ih h2]
    · rename_i h
      split
      · rename_i he
        simp only [cntL, he, if_true]
      · rename_i he
        have hlt : ltW a l.1 = true := ltW_not (by simpa using h) he
        have hn : cntL a r = 0 := cnt_none fun x hx => (ltW_ne (ltW_trans hlt (h1 x hx))).symm
        simp only [cntL, he, if_true, if_false, hn]
        omega
/-- put with the sum is add -/
theorem put_add {a : ByteArray} {c : Int} {xs : List Ln} (hs : Srt xs) (hc : c + cntL a xs ≠ 0) : putL a (c + cntL a xs) xs = addA a c xs := by
  rcases first_split (a := a) xs 0 with ⟨q, y, r, h1, h2, h3, _⟩ | ⟨h1, _⟩
  · subst h1
    obtain ⟨k1, k2⟩ := srt_mid hs
    rw [cnt_mid h2 h3] at hc ⊢
    unfold putL
    rw [if_neg hc, ins_mid _ h2 (fun l hl e => by have := k2 l hl; rw [h2, e, ltW_irr] at this; cases this) q (fun l hl => by rw [← h2]; exact k1 l hl)]
    rw [add_mid c h2 q (fun l hl => by rw [← h2]; exact k1 l hl)]
  · rw [cnt_none h1] at hc ⊢
    rw [Int.add_zero] at hc ⊢
    exact put_new hc hs h1
/-- how it stands while b's lines are taken in -/
structure MI (ax p st : List Ln) : Prop where
  srt : Srt st
  len : st.length ≤ ax.length + p.length
  ok : ∀ l ∈ st, WOk (1000 + 1000 * p.length) l
  cnt : ∀ x, (∀ l ∈ p, l.1 ≠ x) → cntL x st = cntL x ax
theorem mi_step {ax p st : List Ln} {l : Ln} (h : MI ax p st) (hl : lineOk l = true) : MI ax (p ++ [l]) (addA l.1 l.2 st) where
  srt := add_srt _ h.srt
  len := by have := add_len (a := l.1) (c := l.2) st; have := h.len; simp; omega
  ok := fun x hx => by
    have h1 := lineOk_iff.1 hl
    have := add_wok (B := 1000 + 1000 * p.length) (by omega) h1.1 h1.2 h.ok x hx
    exact ⟨this.1, this.2.1, by have := this.2.2; simp only [List.length_append, List.length_singleton]; omega⟩
  cnt := fun x hx => by
    rw [cnt_add_ne (fun e => hx l (by simp) e.symm)]
    exact h.cnt x fun y hy => hx y (by simp [hy])
theorem mi_zero {ax : List Ln} (hs : Srt ax) (ho : ∀ l ∈ ax, lineOk l = true) : MI ax [] ax := ⟨hs, by simp, fun l hl => by have := wok_of ho l hl; exact ⟨this.1, this.2.1, by have := this.2.2; simp only [List.length_nil]; omega⟩, fun _ _ => rfl⟩
def mrgR (a : Pap) (ls : List Ln) : Pap × Int := if linesB ls = true then ((a.1, a.2.1, ls), 0) else ((ByteArray.empty, 0, []), 3)
theorem mi_lm {ax p st : List Ln} (h : MI ax p st) (h1 : ax.length ≤ 12) (h2 : p.length ≤ 12) : Lm OkLine st := ⟨by have := h.len; omega, fun l hl => by
  have := h.ok l hl
  exact ok_line this.1 (by have := this.2; omega)⟩
theorem Merge_l (a b : Pap) (hpa : OkPaper a) (h1 : paperB a = true) (h2 : paperB b = true) :
    MI a.2.2 b.2.2 (mrgL a.2.2 b.2.2) ∧ impl_MergePapers.l5 NN NN b.2.2 b.2.2.length 0 a ByteArray.empty 0 a.2.2 [] = some (mrgR a (mrgL a.2.2 b.2.2)) ∧ spec_MergePapers.l5 NN NN 0 b ByteArray.empty 0 a.1 a.2.1 [] a.2.2 = some (mrgR a (mrgL a.2.2 b.2.2)) := by
  obtain ⟨a1, a2, a3⟩ := paperB_iff h1
  obtain ⟨b1, b2, b3⟩ := paperB_iff h2
  obtain ⟨qa1, qa2⟩ := linesB_ok a3
  obtain ⟨qb1, qb2⟩ := linesB_ok b3
  have hsa := linesB_srt a3
  have hsb := linesB_srt b3
  have hm0 := mi_zero hsa qa2
  have fin : ∀ st, MI a.2.2 b.2.2 st → impl_areLines.f st = some (linesB st) ∧ spec_IsPaper.f (a.1, a.2.1, st) = some (linesB st) := fun st h => by
    have hlm := mi_lm h qa1 qb1
    refine ⟨impl_areLines_f st hlm, ?_⟩
    rw [spec_IsPaper_f (a.1, a.2.1, st) ⟨hpa.1, hpa.2.1, hlm⟩]
    unfold paperB
    simp only [a1, inB_iff.2 a2, Bool.true_and]
  have e1 := fold_fix (E := fun l : Ln => lineOk l = true) (fun p st => MI a.2.2 p st) (fun _ st l => addA l.1 l.2 st) (fun st => some (mrgR a st)) (fun k i st => impl_MergePapers.l5 NN k b.2.2 b.2.2.length i a ByteArray.empty 0 st []) b.2.2 ?_ ?_ a.2.2 qb2 hm0 (by omega) NN (NN_lt (by omega))
  have e2 := fold_fix (E := fun l : Ln => lineOk l = true) (fun p st => MI a.2.2 p st) (fun _ st l => addA l.1 l.2 st) (fun st => some (mrgR a st)) (fun k i st => spec_MergePapers.l5 NN k i b ByteArray.empty 0 a.1 a.2.1 [] st) b.2.2 ?_ ?_ a.2.2 qb2 hm0 (by omega) NN (NN_lt (by omega))
  · rw [foldi_foldl] at e1 e2
    exact ⟨e1.1, e1.2, e2.2⟩
  · intro k st hI
    obtain ⟨f1, f2⟩ := fin st hI
    simp only [spec_MergePapers.l5, spec_MergePapers.g5, Int.lt_irrefl, and_self, and_true, true_and, decide_true, decide_false, if_true, if_false, mid_get, mid_set, mid_getn, mid_setn, bt_mid, Option.bind_some, Bool.not_true, Bool.not_false, Bool.false_eq_true, Bool.true_eq_false, beq_self_eq_true, bne_self_eq_false, Int.toNat_natCast, f2]
    unfold mrgR
    cases linesB st <;> rfl
  · intro k p l r st hx hl hI c0 c1 c2 cw g
    refine ⟨mi_step hI hl, ?_⟩
    have hpl : p.length ≤ 12 := by rw [hx] at qb1; simp at qb1; omega
    have hlo := lineOk_iff.1 hl
    have := hI.len
    simp only [spec_MergePapers.l5, spec_MergePapers.g5, c0, c1, cw, and_self, and_true, true_and, decide_true, decide_false, if_true, if_false, mid_get, mid_set, mid_getn, mid_setn, bt_mid, Option.bind_some, Bool.not_true, Bool.not_false, Bool.false_eq_true, Bool.true_eq_false, beq_self_eq_true, bne_self_eq_false, Int.toNat_natCast, g]
    rw [spec_l29Put_f _ _ _ (by omega) (by omega) (fun x hx => by have := (hI.ok x hx).2; omega)]
    rfl
  · intro k st hI
    obtain ⟨f1, f2⟩ := fin st hI
    simp only [impl_MergePapers.l5, impl_MergePapers.g5, Int.lt_irrefl, and_self, and_true, true_and, decide_true, decide_false, if_true, if_false, mid_get, mid_set, mid_getn, mid_setn, bt_mid, Option.bind_some, Bool.not_true, Bool.not_false, Bool.false_eq_true, Bool.true_eq_false, beq_self_eq_true, bne_self_eq_false, Int.toNat_natCast, f1, impl_withLines_f]
    unfold mrgR
    cases linesB st <;> rfl
  · intro k p l r st hx hl hI c0 c1 c2 cw g
    refine ⟨mi_step hI hl, ?_⟩
    have hpl : p.length ≤ 12 := by rw [hx] at qb1; simp at qb1; omega
    have hlo := lineOk_iff.1 hl
    have := hI.len
    have hcb := cntL_bd l.1 a.2.2 qa2
    have w1 := w64 (n := l.2 + cntL l.1 a.2.2) (by omega) (by omega)
    have hcs : cntL l.1 st = cntL l.1 a.2.2 := hI.cnt l.1 fun x hxp e => by
      rw [hx] at hsb
      have := (srt_mid hsb).1 x hxp
      rw [e, ltW_irr] at this; cases this
    simp only [impl_MergePapers.l5, impl_MergePapers.g5, c0, c1, cw, and_self, and_true, true_and, decide_true, decide_false, if_true, if_false, mid_get, mid_set, mid_getn, mid_setn, bt_mid, Option.bind_some, Bool.not_true, Bool.not_false, Bool.false_eq_true, Bool.true_eq_false, beq_self_eq_true, bne_self_eq_false, Int.toNat_natCast, g, impl_countIn_f _ _ (show a.2.2.length ≤ 1000000 by omega), w1]
    rw [impl_putLine_f _ _ _ (by omega), ← hcs, put_add hI.srt (by rw [hcs]; omega)]
    rfl
theorem MergePapers_both (a b : Pap) (ha : OkPaper a) (hb : OkPaper b) :
    spec_MergePapers.f a b = some (if paperB a = true ∧ paperB b = true then mrgR a (mrgL a.2.2 b.2.2) else ((ByteArray.empty, 0, []), 1)) ∧ impl_MergePapers.f a b = some (if paperB a = true ∧ paperB b = true then mrgR a (mrgL a.2.2 b.2.2) else ((ByteArray.empty, 0, []), 1)) := by
  unfold spec_MergePapers.f spec_MergePapers.fn spec_MergePapers.top impl_MergePapers.f impl_MergePapers.fn impl_MergePapers.top
  rw [spec_IsPaper_f a ha, spec_IsPaper_f b hb, impl_IsPaper_f a ha, impl_IsPaper_f b hb]
  cases h1 : paperB a
  · exact ⟨rfl, rfl⟩
  cases h2 : paperB b
  · exact ⟨rfl, rfl⟩
  obtain ⟨_, e1, e2⟩ := Merge_l a b ha h1 h2
  obtain ⟨qa1, _⟩ := linesB_ok (paperB_iff h1).2.2
  have r1 := room24n (n := 0 + a.2.2.length) (by omega)
  simp only [Option.bind_some, Bool.not_true, Bool.false_eq_true, if_false, if_true, List.nil_append, List.length_nil, r1, e1, e2, and_self]
theorem mrgR_ok (a b : Pap) (ha : OkPaper a) (h1 : paperB a = true) (h2 : paperB b = true) : OkPaper (mrgR a (mrgL a.2.2 b.2.2)).1 := by
  unfold mrgR
  split
  · obtain ⟨e0, _, _⟩ := Merge_l a b ha h1 h2
    exact ⟨ha.1, ha.2.1, mi_lm e0 (linesB_ok (paperB_iff h1).2.2).1 (linesB_ok (paperB_iff h2).2.2).1⟩
  · exact ok_zero
theorem MergePapers_core (a b : Pap) (ha : OkPaper a) (hb : OkPaper b) : ∃ w, spec_MergePapers.f a b = some w ∧ impl_MergePapers.f a b = some w ∧ OkPaper w.1 := by
  obtain ⟨e1, e2⟩ := MergePapers_both a b ha hb
  refine ⟨_, e1, e2, ?_⟩
  split
  · rename_i h; exact mrgR_ok a b ha h.1 h.2
  · exact ok_zero
end Go.Pl

namespace Go.Pl
open Go.Ev
set_option linter.unusedVariables false
set_option linter.unusedSimpArgs false
theorem srt_ext : ∀ (xs ys : List Ln), Srt xs → Srt ys → (∀ x, x ∈ xs ↔ x ∈ ys) → xs = ys := by
  intro xs
  induction xs with
  | nil =>
    intro ys _ _ h
    cases ys with
    | nil => rfl
    | cons y ys => exact absurd ((h y).2 (by simp)) (by simp)
  | cons x xs ih =>
    intro ys hx hy h
    obtain ⟨x1, x2⟩ := List.pairwise_cons.1 hx
    cases ys with
    | nil => exact absurd ((h x).1 (by simp)) (by simp)
    | cons y ys =>
      obtain ⟨y1, y2⟩ := List.pairwise_cons.1 hy
      have e : x = y := by
        rcases List.mem_cons.1 ((h x).1 (by simp)) with e | e
        · exact e
        · rcases List.mem_cons.1 ((h y).2 (by simp)) with e2 | e2
          · exact e2.symm
          · have q1 := y1 x e
            have q2 := x1 y e2
            rw [ltW_asym q1] at q2; cases q2
      subst e
      rw [ih ys x2 y2 fun z => ⟨fun hz => ?_, fun hz => ?_⟩]
      · rcases List.mem_cons.1 ((h z).1 (by simp [hz])) with e | e
        · subst e; exact absurd (x1 z hz) (by rw [ltW_irr]; simp)
        · exact e
      · rcases List.mem_cons.1 ((h z).2 (by simp [hz])) with e | e
        · subst e; exact absurd (y1 z hz) (by rw [ltW_irr]; simp)
        · exact e
theorem cnt_mem {xs : List Ln} (hs : Srt xs) : ∀ {l : Ln}, l ∈ xs → cntL l.1 xs = l.2 := by
  intro l hl
  obtain ⟨q, r, rfl⟩ := List.append_of_mem hl
  exact cnt_mid rfl fun x hx => ltW_ne ((srt_mid hs).1 x hx)
theorem cnt_pos {a : ByteArray} : ∀ {xs : List Ln}, cntL a xs ≠ 0 → (a, cntL a xs) ∈ xs := by
  intro xs
  induction xs with
  | nil => intro h; exact absurd rfl h
  | cons l r ih =>
    intro h
    simp only [cntL] at h ⊢
    by_cases e : l.1 = a
    · simp only [e, if_true]
      rw [← e]; simp
    · simp only [e, if_false] at h ⊢
      exact List.mem_cons_of_mem _ (ih h)
theorem mem_miss {ax bs : List Ln} {x : Ln} : x ∈ missL ax bs ↔ ∃ l ∈ ax, 0 < l.2 - cntL l.1 bs ∧ x = (l.1, l.2 - cntL l.1 bs) := by
  have key : ∀ (r out : List Ln), x ∈ r.foldl (missF bs) out ↔ x ∈ out ∨ ∃ l ∈ r, 0 < l.2 - cntL l.1 bs ∧ x = (l.1, l.2 - cntL l.1 bs) := by
    intro r
    induction r with
    | nil => intro out; simp
    | cons l r ih =>
      intro out
      rw [List.foldl_cons, ih]
      unfold missF
      by_cases h : 0 < l.2 - cntL l.1 bs
      · rw [if_pos h]
        simp only [List.mem_append, List.mem_singleton, List.mem_cons, List.not_mem_nil, or_false, exists_eq_or_imp, h, true_and]
        constructor
        · rintro ((h1 | h1) | h1)
          · exact .inl h1
          · exact .inr (.inl h1)
          · exact .inr (.inr h1)
        · rintro (h1 | h1 | h1)
          · exact .inl (.inl h1)
          · exact .inl (.inr h1)
          · exact .inr h1
      · rw [if_neg h]
        simp only [List.mem_cons, exists_eq_or_imp, h, false_and, false_or]
  have := key ax []
  simpa [missL] using this
theorem miss_srt {ax bs : List Ln} (hs : Srt ax) : Srt (missL ax bs) := by
  have key : ∀ (r out : List Ln), Srt out → Srt r → (∀ x ∈ out, ∀ l ∈ r, ltW x.1 l.1 = true) → Srt (r.foldl (missF bs) out) := by
    intro r
    induction r with
    | nil => intro out h _ _; exact h
    | cons l r ih =>
      intro out h1 h2 h3
      obtain ⟨k1, k2⟩ := List.pairwise_cons.1 h2
      rw [List.foldl_cons]
      refine ih _ ?_ k2 ?_
      · unfold missF
        split
        · refine List.pairwise_append.2 ⟨h1, List.pairwise_singleton _ _, fun x hx y hy => ?_⟩
          rw [List.mem_singleton.1 hy]; exact h3 x hx l (by simp)
        · exact h1
      · intro x hx y hy
        unfold missF at hx
        split at hx
        · rcases List.mem_append.1 hx with h | h
          · exact h3 x h y (by simp [hy])
          · rw [List.mem_singleton.1 h]; exact k1 y hy
        · exact h3 x hx y (by simp [hy])
  exact key ax [] List.Pairwise.nil hs (by simp)
theorem cnt_mrg {x : ByteArray} : ∀ (bs st : List Ln), Srt bs → Srt st → cntL x (mrgL st bs) = cntL x st + cntL x bs := by
  intro bs
  induction bs with
  | nil => intro st _ _; simp [mrgL, cntL]
  | cons l r ih =>
    intro st hb hs
    obtain ⟨k1, k2⟩ := List.pairwise_cons.1 hb
    have h1 := ih (addA l.1 l.2 st) k2 (add_srt _ hs)
    show cntL x (mrgL (addA l.1 l.2 st) r) = _
    rw [h1]
    simp only [cntL]
    by_cases e : l.1 = x
    · subst e
      rw [cnt_add_eq st hs, if_pos rfl, cnt_none fun y hy => (ltW_ne (k1 y hy)).symm]
      omega
    · rw [cnt_add_ne (fun e2 => e e2.symm), if_neg e]
theorem miss_same {xs : List Ln} (hs : Srt xs) : missL xs xs = [] := by
  cases h : missL xs xs with
  | nil => rfl
  | cons y ys =>
    obtain ⟨l, h1, h2, _⟩ := mem_miss.1 (h ▸ List.mem_cons_self : y ∈ missL xs xs)
    rw [cnt_mem hs h1] at h2; omega
/-- what the merged lines have more -/
theorem miss_diff {M A B : List Ln} (hM : Srt M) (hB : Srt B) (hb : ∀ l ∈ B, 1 ≤ l.2) (hA : ∀ x, 0 ≤ cntL x A) (hc : ∀ x, cntL x M = cntL x A + cntL x B) : missL M A = B := by
  refine srt_ext _ _ (miss_srt hM) hB fun x => ?_
  rw [mem_miss]
  constructor
  · rintro ⟨l, h1, h2, rfl⟩
    have e := cnt_mem hM h1
    rw [hc] at e
    have e2 : l.2 - cntL l.1 A = cntL l.1 B := by omega
    rw [e2] at h2 ⊢
    exact cnt_pos (by omega)
  · intro hx
    have e := cnt_mem hB hx
    have h1 := hb x hx
    have h2 := hA x.1
    have h4 := hc x.1
    have h0 : cntL x.1 M ≠ 0 := by omega
    have h3 : cntL x.1 M - cntL x.1 A = x.2 := by omega
    exact ⟨(x.1, cntL x.1 M), cnt_pos h0, by simp only [h3]; omega, by simp only [h3]⟩
theorem miss_none {M A : List Ln} (hA : Srt A) (h : ∀ x, cntL x A ≤ cntL x M) : missL A M = [] := by
  cases e : missL A M with
  | nil => rfl
  | cons y ys =>
    obtain ⟨l, h1, h2, _⟩ := mem_miss.1 (e ▸ List.mem_cons_self : y ∈ missL A M)
    have := h l.1
    rw [cnt_mem hA h1] at this; omega
theorem MissingLines_both (a b : Pap) (ha : OkPaper a) (hb : OkPaper b) :
    spec_MissingLines.f a b = some (if paperB a = true ∧ paperB b = true then (missL a.2.2 b.2.2, 0) else ([], 1)) ∧ impl_MissingLines.f a b = some (if paperB a = true ∧ paperB b = true then (missL a.2.2 b.2.2, 0) else ([], 1)) := by
  unfold spec_MissingLines.f spec_MissingLines.fn spec_MissingLines.top impl_MissingLines.f impl_MissingLines.fn impl_MissingLines.top
  rw [spec_IsPaper_f a ha, spec_IsPaper_f b hb, impl_IsPaper_f a ha, impl_IsPaper_f b hb]
  cases h1 : paperB a
  · exact ⟨rfl, rfl⟩
  cases h2 : paperB b
  · exact ⟨rfl, rfl⟩
  have p1 := linesB_ok (paperB_iff h1).2.2
  have p2 := linesB_ok (paperB_iff h2).2.2
  obtain ⟨w, e, ax⟩ := a
  obtain ⟨v, d, bs⟩ := b
  have q1 := impl_Missing_l v d ax bs p1.2 p2.2 p1.1 p2.1
  have q2 := spec_Missing_l v w d e ax bs p1.2 p2.2 p1.1 p2.1
  exact ⟨q2, q1.2⟩
theorem miss_len (a b : Pap) (h1 : paperB a = true) (h2 : paperB b = true) : (missL a.2.2 b.2.2).length ≤ a.2.2.length := by
  have p1 := linesB_ok (paperB_iff h1).2.2
  have p2 := linesB_ok (paperB_iff h2).2.2
  exact (impl_Missing_l b.1 b.2.1 a.2.2 b.2.2 p1.2 p2.2 p1.1 p2.1).1.1
end Go.Pl

namespace Go.Pl
open Go.Ev
set_option linter.unusedVariables false
noncomputable section
def impl_joinWith.g3 (L3 : ByteArray → ByteArray → List ByteArray → Int → Int → Option ByteArray) (between1 : ByteArray) (out5 : ByteArray) (v8 : List ByteArray) (v9 : Int) (v10 : Int) : Option ByteArray :=
  if (decide ((v10 : Int) < v9)) = true then
    if (0 : Int) ≤ v10 ∧ (v10 : Int) < v8.length then
      if (decide ((0 : Int) < v10)) = true then
        if out5.size + between1.size ≤ 9223372036854775807 then
          if (out5 ++ between1).size + (v8.getD (v10 : Int).toNat ByteArray.empty).size ≤ 9223372036854775807 then
            L3 between1 ((out5 ++ between1) ++ (v8.getD (v10 : Int).toNat ByteArray.empty)) v8 v9 (IntKind.i64.wrap (v10 + 1))
          else
            none
        else
          none
      else if out5.size + (v8.getD (v10 : Int).toNat ByteArray.empty).size ≤ 9223372036854775807 then
        L3 between1 (out5 ++ (v8.getD (v10 : Int).toNat ByteArray.empty)) v8 v9 (IntKind.i64.wrap (v10 + 1))
      else
        none
    else
      none
  else
    some out5
def impl_joinWith.l3 (n : Nat) : Nat → ByteArray → ByteArray → List ByteArray → Int → Int → Option ByteArray
  | 0 => fun _ _ _ _ _ => none
  | k + 1 => impl_joinWith.g3 (impl_joinWith.l3 n k)
def impl_joinWith.top (I3 : ByteArray → ByteArray → List ByteArray → Int → Int → Option ByteArray) (list0 : List ByteArray) (between1 : ByteArray) : Option ByteArray :=
  I3 between1 (⟨#[]⟩ : ByteArray) list0 (list0.length : Int) 0
def impl_joinWith.fn (n : Nat) (list0 : List ByteArray) (between1 : ByteArray) : Option ByteArray := impl_joinWith.top (impl_joinWith.l3 n n) list0 between1
def impl_joinWith.f (list0 : List ByteArray) (between1 : ByteArray) : Option ByteArray := impl_joinWith.fn NN list0 between1
end
end Go.Pl

namespace Go.Pl
open Go.Ev
set_option linter.unusedVariables false
noncomputable section
def spec_l01Words.g3 (L3 : List ByteArray → ByteArray → ByteArray → Int → Option ByteArray) (words0 : List ByteArray) (by1 : ByteArray) (out5 : ByteArray) (i6 : Int) : Option ByteArray :=
  if (decide ((i6 : Int) < (words0.length : Int))) = true then
    if (decide ((0 : Int) < i6)) = true then
      if out5.size + by1.size ≤ 9223372036854775807 then
        if (0 : Int) ≤ i6 ∧ (i6 : Int) < words0.length then
          if (out5 ++ by1).size + (words0.getD (i6 : Int).toNat ByteArray.empty).size ≤ 9223372036854775807 then
            L3 words0 by1 ((out5 ++ by1) ++ (words0.getD (i6 : Int).toNat ByteArray.empty)) (IntKind.i64.wrap (i6 + 1))
          else
            none
        else
          none
      else
        none
    else if (0 : Int) ≤ i6 ∧ (i6 : Int) < words0.length then
      if out5.size + (words0.getD (i6 : Int).toNat ByteArray.empty).size ≤ 9223372036854775807 then
        L3 words0 by1 (out5 ++ (words0.getD (i6 : Int).toNat ByteArray.empty)) (IntKind.i64.wrap (i6 + 1))
      else
        none
    else
      none
  else
    some out5
def spec_l01Words.l3 (n : Nat) : Nat → List ByteArray → ByteArray → ByteArray → Int → Option ByteArray
  | 0 => fun _ _ _ _ => none
  | k + 1 => spec_l01Words.g3 (spec_l01Words.l3 n k)
def spec_l01Words.top (I3 : List ByteArray → ByteArray → ByteArray → Int → Option ByteArray) (words0 : List ByteArray) (by1 : ByteArray) : Option ByteArray :=
  I3 words0 by1 (⟨#[]⟩ : ByteArray) 0
def spec_l01Words.fn (n : Nat) (words0 : List ByteArray) (by1 : ByteArray) : Option ByteArray := spec_l01Words.top (spec_l01Words.l3 n n) words0 by1
def spec_l01Words.f (words0 : List ByteArray) (by1 : ByteArray) : Option ByteArray := spec_l01Words.fn NN words0 by1
end
end Go.Pl

namespace Go.Pl
open Go.Ev
set_option linter.unusedVariables false
set_option linter.unusedSimpArgs false
def joinF (sep : ByteArray) (i : Nat) (out s : ByteArray) : ByteArray := if 0 < i then (out ++ sep) ++ s else out ++ s
def joinB (sep : ByteArray) (xs : List ByteArray) : ByteArray := foldi (joinF sep) 0 ⟨#[]⟩ xs
theorem impl_joinWith_f (xs : List ByteArray) (sep : ByteArray) (hx : ∀ s ∈ xs, s.size ≤ 1000000) (hl : xs.length ≤ 1000000) (hs : sep.size ≤ 1000000) : impl_joinWith.f xs sep = some (joinB sep xs) ∧ (joinB sep xs).size ≤ 2000000 * xs.length := by
  have := fold_fix (E := fun s : ByteArray => s.size ≤ 1000000) (fun p st => st.size ≤ 2000000 * p.length) (joinF sep) some (fun k i st => impl_joinWith.l3 NN k sep st xs xs.length i) xs ?_ ?_ (⟨#[]⟩ : ByteArray) hx (by simp; rfl) (by omega) NN (NN_lt (by omega))
  · exact ⟨this.2, this.1⟩
  · intro k st _
    simp [impl_joinWith.l3, impl_joinWith.g3]
  · intro k p b r st hxs hb hI c0 c1 c2 cw g
    have z1 : (st ++ sep).size = st.size + sep.size := ByteArray.size_append
    have z2 : (st ++ sep ++ b).size = st.size + sep.size + b.size := by rw [ByteArray.size_append, z1]
    have z3 : (st ++ b).size = st.size + b.size := ByteArray.size_append
    have hp : p.length ≤ 1000000 := by omega
    refine ⟨?_, ?_⟩
    · unfold joinF; rw [List.length_append, List.length_singleton]; split <;> omega
    · have d1 : st.size + sep.size ≤ 9223372036854775807 := by omega
      have d2 : (st ++ sep).size + b.size ≤ 9223372036854775807 := by omega
      have d3 : st.size + b.size ≤ 9223372036854775807 := by omega
      simp only [impl_joinWith.l3, impl_joinWith.g3, c0, c1, cw, and_self, and_true, true_and, decide_true, decide_false, if_true, if_false, mid_get, mid_set, mid_getn, mid_setn, bt_mid, Option.bind_some, Bool.not_true, Bool.not_false, Bool.false_eq_true, Bool.true_eq_false, beq_self_eq_true, bne_self_eq_false, Int.toNat_natCast, g, d1, d2, d3, decide_eq_true_eq]
      unfold joinF
      by_cases h : 0 < p.length
      · have : (0 : Int) < (p.length : Int) := by omega
        simp [h, this]
      · have : ¬ (0 : Int) < (p.length : Int) := by omega
        simp [h, this]
theorem spec_l01Words_f (xs : List ByteArray) (sep : ByteArray) (hx : ∀ s ∈ xs, s.size ≤ 1000000) (hl : xs.length ≤ 1000000) (hs : sep.size ≤ 1000000) : spec_l01Words.f xs sep = some (joinB sep xs) ∧ (joinB sep xs).size ≤ 2000000 * xs.length := by
  have := fold_fix (E := fun s : ByteArray => s.size ≤ 1000000) (fun p st => st.size ≤ 2000000 * p.length) (joinF sep) some (fun k i st => spec_l01Words.l3 NN k xs sep st i) xs ?_ ?_ (⟨#[]⟩ : ByteArray) hx (by simp; rfl) (by omega) NN (NN_lt (by omega))
  · exact ⟨this.2, this.1⟩
  · intro k st _
    simp [spec_l01Words.l3, spec_l01Words.g3]
  · intro k p b r st hxs hb hI c0 c1 c2 cw g
    have z1 : (st ++ sep).size = st.size + sep.size := ByteArray.size_append
    have z2 : (st ++ sep ++ b).size = st.size + sep.size + b.size := by rw [ByteArray.size_append, z1]
    have z3 : (st ++ b).size = st.size + b.size := ByteArray.size_append
    have hp : p.length ≤ 1000000 := by omega
    refine ⟨?_, ?_⟩
    · unfold joinF; rw [List.length_append, List.length_singleton]; split <;> omega
    · have d1 : st.size + sep.size ≤ 9223372036854775807 := by omega
      have d2 : (st ++ sep).size + b.size ≤ 9223372036854775807 := by omega
      have d3 : st.size + b.size ≤ 9223372036854775807 := by omega
      simp only [spec_l01Words.l3, spec_l01Words.g3, c0, c1, cw, and_self, and_true, true_and, decide_true, decide_false, if_true, if_false, mid_get, mid_set, mid_getn, mid_setn, bt_mid, Option.bind_some, Bool.not_true, Bool.not_false, Bool.false_eq_true, Bool.true_eq_false, beq_self_eq_true, bne_self_eq_false, Int.toNat_natCast, g, d1, d2, d3, decide_eq_true_eq]
      unfold joinF
      by_cases h : 0 < p.length
      · have : (0 : Int) < (p.length : Int) := by omega
        simp [h, this]
      · have : ¬ (0 : Int) < (p.length : Int) := by omega
        simp [h, this]
end Go.Pl

namespace Go.Pl
open Go.Ev
set_option linter.unusedVariables false
noncomputable section
def impl_splitAt.g4 (L4 : ByteArray → Int → Int → Int → List ByteArray → Option (List ByteArray)) (s0 : ByteArray) (b1 : Int) (from6 : Int) (i7 : Int) (out5 : List ByteArray) : Option (List ByteArray) :=
  if (decide ((i7 : Int) < (s0.size : Int))) = true then
    if (0 : Int) ≤ i7 ∧ (i7 : Int) < s0.size then
      if (((bt s0 i7) : Int) == b1) = true then
        if (0 : Int) ≤ from6 ∧ (from6 : Int) ≤ i7 ∧ (i7 : Int) ≤ s0.size then
          if out5.length + ([s0.extract (from6 : Int).toNat (i7 : Int).toNat]).length < room 16 then
            L4 s0 b1 (IntKind.i64.wrap (i7 + 1)) (IntKind.i64.wrap (i7 + 1)) (out5 ++ ([s0.extract (from6 : Int).toNat (i7 : Int).toNat]))
          else
            none
        else
          none
      else
        L4 s0 b1 from6 (IntKind.i64.wrap (i7 + 1)) out5
    else
      none
  else if (0 : Int) ≤ from6 ∧ (from6 : Int) ≤ s0.size then
    if out5.length + ([s0.extract (from6 : Int).toNat s0.size]).length < room 16 then
      some (out5 ++ ([s0.extract (from6 : Int).toNat s0.size]))
    else
      none
  else
    none
def impl_splitAt.l4 (n : Nat) : Nat → ByteArray → Int → Int → Int → List ByteArray → Option (List ByteArray)
  | 0 => fun _ _ _ _ _ => none
  | k + 1 => impl_splitAt.g4 (impl_splitAt.l4 n k)
def impl_splitAt.top (I4 : ByteArray → Int → Int → Int → List ByteArray → Option (List ByteArray)) (s0 : ByteArray) (b1 : Int) : Option (List ByteArray) :=
  I4 s0 b1 0 0 []
def impl_splitAt.fn (n : Nat) (s0 : ByteArray) (b1 : Int) : Option (List ByteArray) := impl_splitAt.top (impl_splitAt.l4 n n) s0 b1
def impl_splitAt.f (s0 : ByteArray) (b1 : Int) : Option (List ByteArray) := impl_splitAt.fn NN s0 b1
end
end Go.Pl

namespace Go.Pl
open Go.Ev
set_option linter.unusedVariables false
noncomputable section
def spec_l01Split.g4 (L4 : ByteArray → Int → Int → Int → List ByteArray → Option (List ByteArray)) (s0 : ByteArray) (by1 : Int) (from6 : Int) (i7 : Int) (out5 : List ByteArray) : Option (List ByteArray) :=
  if (decide ((i7 : Int) ≤ (s0.size : Int))) = true then
    if ((i7 : Int) == (s0.size : Int)) = false then
      if (0 : Int) ≤ i7 ∧ (i7 : Int) < s0.size then
        if (((bt s0 i7) : Int) == by1) = true then
          if (0 : Int) ≤ from6 ∧ (from6 : Int) ≤ i7 ∧ (i7 : Int) ≤ s0.size then
            if out5.length + ([s0.extract (from6 : Int).toNat (i7 : Int).toNat]).length < room 16 then
              L4 s0 by1 (IntKind.i64.wrap (i7 + 1)) (IntKind.i64.wrap (i7 + 1)) (out5 ++ ([s0.extract (from6 : Int).toNat (i7 : Int).toNat]))
            else
              none
          else
            none
        else
          L4 s0 by1 from6 (IntKind.i64.wrap (i7 + 1)) out5
      else
        none
    else if (0 : Int) ≤ from6 ∧ (from6 : Int) ≤ i7 ∧ (i7 : Int) ≤ s0.size then
      if out5.length + ([s0.extract (from6 : Int).toNat (i7 : Int).toNat]).length < room 16 then
        L4 s0 by1 (IntKind.i64.wrap (i7 + 1)) (IntKind.i64.wrap (i7 + 1)) (out5 ++ ([s0.extract (from6 : Int).toNat (i7 : Int).toNat]))
      else
        none
    else
      none
  else
    some out5
def spec_l01Split.l4 (n : Nat) : Nat → ByteArray → Int → Int → Int → List ByteArray → Option (List ByteArray)
  | 0 => fun _ _ _ _ _ => none
  | k + 1 => spec_l01Split.g4 (spec_l01Split.l4 n k)
def spec_l01Split.top (I4 : ByteArray → Int → Int → Int → List ByteArray → Option (List ByteArray)) (s0 : ByteArray) (by1 : Int) : Option (List ByteArray) :=
  I4 s0 by1 0 0 []
def spec_l01Split.fn (n : Nat) (s0 : ByteArray) (by1 : Int) : Option (List ByteArray) := spec_l01Split.top (spec_l01Split.l4 n n) s0 by1
def spec_l01Split.f (s0 : ByteArray) (by1 : Int) : Option (List ByteArray) := spec_l01Split.fn NN s0 by1
end
end Go.Pl

namespace Go.Pl
open Go.Ev
set_option linter.unusedVariables false
set_option linter.unusedSimpArgs false
def glue (p : List UInt8) : List (List UInt8) → List (List UInt8)
  | [] => [p]
  | x :: xs => (p ++ x) :: xs
def splitL (b : UInt8) : List UInt8 → List (List UInt8)
  | [] => [[]]
  | c :: r => if c = b then [] :: splitL b r else glue [c] (splitL b r)
def joinL (sep : List UInt8) : List (List UInt8) → List UInt8
  | [] => []
  | [x] => x
  | x :: y :: r => x ++ sep ++ joinL sep (y :: r)
theorem splitL_ne (b : UInt8) (l : List UInt8) : splitL b l ≠ [] := by
  cases l with
  | nil => simp [splitL]
  | cons c r => simp only [splitL]; split
                · simp
                · cases splitL b r <;> simp [glue]
theorem glue_nil {x : List (List UInt8)} (h : x ≠ []) : glue [] x = x := by
  cases x with
  | nil => exact absurd rfl h
  | cons => rfl
theorem glue_glue (p q : List UInt8) (x : List (List UInt8)) : glue p (glue q x) = glue (p ++ q) x := by
  cases x <;> simp [glue]
theorem joinL_glue (sep p : List UInt8) (x : List (List UInt8)) : joinL sep (glue p x) = p ++ joinL sep x := by
  cases x with
  | nil => simp [glue, joinL]
  | cons y ys => cases ys <;> simp [glue, joinL]
theorem joinL_cons (sep : List UInt8) (x : List UInt8) {r : List (List UInt8)} (h : r ≠ []) : joinL sep (x :: r) = x ++ sep ++ joinL sep r := by
  cases r with
  | nil => exact absurd rfl h
  | cons => rfl
theorem joinL_splitL (b : UInt8) (l : List UInt8) : joinL [b] (splitL b l) = l := by
  induction l with
  | nil => rfl
  | cons c r ih =>
    simp only [splitL]
    split
    · rename_i h; rw [joinL_cons _ _ (splitL_ne b r), ih, h]; rfl
    · rw [joinL_glue, ih]; rfl
theorem splitL_mem (b : UInt8) (l : List UInt8) : ∀ x ∈ splitL b l, b ∉ x := by
  induction l with
  | nil => simp [splitL]
  | cons c r ih =>
    simp only [splitL]
    split
    · intro x hx
      rcases List.mem_cons.mp hx with rfl | hx
      · simp
      · exact ih x hx
    · rename_i h
      intro x hx
      cases e : splitL b r with
      | nil => exact absurd e (splitL_ne b r)
      | cons y ys =>
        rw [e] at hx ih
        rcases List.mem_cons.mp hx with rfl | hx
        · have := ih y (by simp)
          simp only [List.cons_append, List.nil_append, List.mem_cons, not_or]
          exact ⟨fun e => h e.symm, this⟩
        · exact ih x (by simp [hx])
theorem splitL_app (b : UInt8) (p r : List UInt8) (h : b ∉ p) : splitL b (p ++ r) = glue p (splitL b r) := by
  induction p with
  | nil => rw [List.nil_append, glue_nil (splitL_ne b r)]
  | cons c p ih =>
    simp only [List.mem_cons, not_or] at h
    simp only [List.cons_append, splitL]
    rw [if_neg (fun e => h.1 e.symm), ih h.2, glue_glue]; rfl
theorem splitL_joinL (b : UInt8) (rows : List (List UInt8)) (h0 : rows ≠ []) (h : ∀ x ∈ rows, b ∉ x) : splitL b (joinL [b] rows) = rows := by
  induction rows with
  | nil => exact absurd rfl h0
  | cons x r ih =>
    cases r with
    | nil =>
      have := splitL_app b x [] (h x (by simp))
      simp only [List.append_nil] at this
      simp [joinL, this, splitL, glue]
    | cons y ys =>
      rw [joinL_cons _ _ (by simp), List.append_assoc, splitL_app b x _ (h x (by simp))]
      simp only [List.cons_append, List.nil_append, splitL, if_true]
      rw [ih (by simp) (fun z hz => h z (by simp [hz]))]
      simp [glue]
theorem splitL_length (b : UInt8) (l : List UInt8) : (splitL b l).length ≤ l.length + 1 := by
  induction l with
  | nil => simp [splitL]
  | cons c r ih =>
    simp only [splitL]
    split
    · simp; omega
    · cases e : splitL b r with
      | nil => simp [glue]
      | cons y ys => rw [e] at ih; simp [glue] at ih ⊢; omega
theorem ext_ob (s : ByteArray) (f i : Nat) : s.extract f i = ob (((bl s).take i).drop f) := by
  apply bl_inj; rw [bl_extract, bl_ob]
theorem room_small {α : Type} (out : List α) (x : α) (h : out.length ≤ 2000000) : out.length + [x].length < room 16 := by rw [room16]; simp; omega
theorem ext_mid (q t r : List UInt8) : (ob (q ++ t ++ r)).extract q.length (q ++ t).length = ob t := by
  rw [ob_extract, List.take_left' rfl, List.drop_left' rfl]
theorem impl_splitAt_l (b : UInt8) : ∀ (r q t : List UInt8) (out : List ByteArray) (k : Nat), (q ++ t).length + r.length ≤ 1000000 → r.length < k → out.length ≤ (q ++ t).length →
    impl_splitAt.l4 NN k (ob (q ++ t ++ r)) (b.toNat : Int) (q.length : Int) ((q ++ t).length : Int) out = some (out ++ (glue t (splitL b r)).map ob) := by
  intro r
  induction r with
  | nil =>
    intro q t out k hb hk ho
    obtain ⟨k, rfl⟩ : ∃ j, k = j + 1 := ⟨k - 1, by omega⟩
    have hb' : q.length + t.length ≤ 1000000 := by simpa using hb
    rw [List.append_nil]
    have c1 : ¬ ((q ++ t).length : Int) < ((ob (q ++ t)).size : Int) := by rw [ob_size]; omega
    have c2 : (0 : Int) ≤ (q.length : Int) := by omega
    have c3 : (q.length : Int) ≤ ((ob (q ++ t)).size : Int) := by rw [ob_size, List.length_append]; omega
    have e : (ob (q ++ t)).extract q.length (ob (q ++ t)).size = ob t := by
      have := ext_mid q t []
      rw [List.append_nil] at this
      rw [ob_size]; exact this
    simp only [impl_splitAt.l4, impl_splitAt.g4, c1, c2, c3, and_self, and_true, true_and, decide_true, decide_false, if_true, if_false, mid_get, mid_set, mid_getn, mid_setn, bt_mid, Option.bind_some, Bool.not_true, Bool.not_false, Bool.false_eq_true, Bool.true_eq_false, beq_self_eq_true, bne_self_eq_false, Int.toNat_natCast, e]
    rw [if_pos (room_small _ _ (by simp at ho; omega))]
    simp [splitL, glue]
  | cons c r ih =>
    intro q t out k hb hk ho
    simp only [List.length_cons] at hb hk
    obtain ⟨k, rfl⟩ : ∃ j, k = j + 1 := ⟨k - 1, by omega⟩
    have hm := mid_len (q ++ t) r c
    have c0 : (0 : Int) ≤ ((q ++ t).length : Int) := by omega
    have c1 : ((q ++ t).length : Int) < ((ob (q ++ t ++ c :: r)).size : Int) := by rw [ob_size]; omega
    have c2 : (0 : Int) ≤ (q.length : Int) := by omega
    have c3 : (q.length : Int) ≤ ((q ++ t).length : Int) := by rw [List.length_append]; omega
    have c4 : ((q ++ t).length : Int) ≤ ((ob (q ++ t ++ c :: r)).size : Int) := by rw [ob_size]; omega
    have cw := w64 (n := ((q ++ t).length : Int) + 1) (by omega) (by omega)
    simp only [impl_splitAt.l4, impl_splitAt.g4, c0, c1, c2, c3, c4, cw, and_self, and_true, true_and, decide_true, decide_false, if_true, if_false, mid_get, mid_set, mid_getn, mid_setn, bt_mid, Option.bind_some, Bool.not_true, Bool.not_false, Bool.false_eq_true, Bool.true_eq_false, beq_self_eq_true, bne_self_eq_false, Int.toNat_natCast]
    by_cases hc : c = b
    · subst hc
      simp only [and_self, and_true, true_and, decide_true, decide_false, if_true, if_false, mid_get, mid_set, mid_getn, mid_setn, bt_mid, Option.bind_some, Bool.not_true, Bool.not_false, Bool.false_eq_true, Bool.true_eq_false, beq_self_eq_true, bne_self_eq_false, Int.toNat_natCast]
      rw [if_pos (room_small _ _ (by rw [List.length_append] at ho hb; omega)), ext_mid]
      have := ih (q ++ t ++ [c]) [] (out ++ [ob t]) k (by simp at hb ⊢; omega) (by omega) (by simp at ho ⊢; omega)
      rw [List.append_nil, show (q ++ t ++ [c]) ++ r = q ++ t ++ c :: r by simp, snoc_len] at this
      rw [this, glue_nil (splitL_ne c r)]
      simp [splitL, glue]
    · have hne : (((c.toNat : Int)) == (b.toNat : Int)) = false := by
        rw [beq_eq_false_iff_ne]; intro e; exact hc (UInt8.toNat_inj.mp (by omega))
      simp only [hne, and_self, and_true, true_and, decide_true, decide_false, if_true, if_false, mid_get, mid_set, mid_getn, mid_setn, bt_mid, Option.bind_some, Bool.not_true, Bool.not_false, Bool.false_eq_true, Bool.true_eq_false, beq_self_eq_true, bne_self_eq_false, Int.toNat_natCast]
      have := ih q (t ++ [c]) out k (by simp at hb ⊢; omega) (by omega) (by simp at ho ⊢; omega)
      rw [show q ++ (t ++ [c]) ++ r = q ++ t ++ c :: r by simp, show ((q ++ (t ++ [c])).length : Int) = ((q ++ t).length : Int) + 1 by simp; omega] at this
      rw [this]
      simp only [splitL, if_neg hc, glue_glue]
theorem impl_splitAt_f (s : ByteArray) (b : UInt8) (hs : s.size ≤ 1000000) : impl_splitAt.f s (b.toNat : Int) = some ((splitL b (bl s)).map ob) := by
  have := impl_splitAt_l b (bl s) [] [] [] NN (by simp [bl_length]; exact hs) (by rw [bl_length]; exact NN_lt (by omega)) (by simp)
  unfold impl_splitAt.f impl_splitAt.fn impl_splitAt.top
  simp only [List.nil_append, ob_bl, List.length_nil] at this
  rw [glue_nil (splitL_ne _ _)] at this
  exact this
theorem spec_l01Split_l (b : UInt8) : ∀ (r q t : List UInt8) (out : List ByteArray) (k : Nat), (q ++ t).length + r.length ≤ 1000000 → r.length + 1 < k → out.length ≤ (q ++ t).length →
    spec_l01Split.l4 NN k (ob (q ++ t ++ r)) (b.toNat : Int) (q.length : Int) ((q ++ t).length : Int) out = some (out ++ (glue t (splitL b r)).map ob) := by
  intro r
  induction r with
  | nil =>
    intro q t out k hb hk ho
    obtain ⟨k, rfl⟩ : ∃ j, k = j + 1 + 1 := ⟨k - 2, by simp at hk; omega⟩
    have hb' : q.length + t.length ≤ 1000000 := by simpa using hb
    have c1 : ((q ++ t).length : Int) ≤ ((ob (q ++ t ++ [])).size : Int) := by rw [ob_size, List.append_nil]; omega
    have c1e : (((q ++ t).length : Int) == ((ob (q ++ t ++ [])).size : Int)) = true := by rw [ob_size, List.append_nil]; simp
    have c2 : (0 : Int) ≤ (q.length : Int) := by omega
    have c3 : (q.length : Int) ≤ ((q ++ t).length : Int) := by rw [List.length_append]; omega
    have cw := w64 (n := ((q ++ t).length : Int) + 1) (by omega) (by omega)
    have c4 : ¬ ((q ++ t).length : Int) + 1 ≤ ((ob (q ++ t ++ [])).size : Int) := by rw [ob_size, List.append_nil]; omega
    simp only [spec_l01Split.l4, spec_l01Split.g4, c1, c1e, c2, c3, c4, cw, and_self, and_true, true_and, decide_true, decide_false, if_true, if_false, mid_get, mid_set, mid_getn, mid_setn, bt_mid, Option.bind_some, Bool.not_true, Bool.not_false, Bool.false_eq_true, Bool.true_eq_false, beq_self_eq_true, bne_self_eq_false, Int.toNat_natCast, ext_mid]
    rw [if_pos (room_small _ _ (by simp at ho; omega))]
    simp [splitL, glue]
  | cons c r ih =>
    intro q t out k hb hk ho
    simp only [List.length_cons] at hb hk
    obtain ⟨k, rfl⟩ : ∃ j, k = j + 1 := ⟨k - 1, by omega⟩
    have hm := mid_len (q ++ t) r c
    have c0 : (0 : Int) ≤ ((q ++ t).length : Int) := by omega
    have c1 : ((q ++ t).length : Int) < ((ob (q ++ t ++ c :: r)).size : Int) := by rw [ob_size]; omega
    have c2 : (0 : Int) ≤ (q.length : Int) := by omega
    have c3 : (q.length : Int) ≤ ((q ++ t).length : Int) := by rw [List.length_append]; omega
    have c4 : ((q ++ t).length : Int) ≤ ((ob (q ++ t ++ c :: r)).size : Int) := by rw [ob_size]; omega
    have c5 : (((q ++ t).length : Int) == ((ob (q ++ t ++ c :: r)).size : Int)) = false := by rw [beq_eq_false_iff_ne]; omega
    have cw := w64 (n := ((q ++ t).length : Int) + 1) (by omega) (by omega)
    simp only [spec_l01Split.l4, spec_l01Split.g4, c0, c1, c2, c3, c4, c5, cw, and_self, and_true, true_and, decide_true, decide_false, if_true, if_false, mid_get, mid_set, mid_getn, mid_setn, bt_mid, Option.bind_some, Bool.not_true, Bool.not_false, Bool.false_eq_true, Bool.true_eq_false, beq_self_eq_true, bne_self_eq_false, Int.toNat_natCast]
    by_cases hc : c = b
    · subst hc
      simp only [and_self, and_true, true_and, decide_true, decide_false, if_true, if_false, mid_get, mid_set, mid_getn, mid_setn, bt_mid, Option.bind_some, Bool.not_true, Bool.not_false, Bool.false_eq_true, Bool.true_eq_false, beq_self_eq_true, bne_self_eq_false, Int.toNat_natCast]
      rw [if_pos (room_small _ _ (by rw [List.length_append] at ho hb; omega)), ext_mid]
      have := ih (q ++ t ++ [c]) [] (out ++ [ob t]) k (by simp at hb ⊢; omega) (by omega) (by simp at ho ⊢; omega)
      rw [List.append_nil, show (q ++ t ++ [c]) ++ r = q ++ t ++ c :: r by simp, snoc_len] at this
      rw [this, glue_nil (splitL_ne c r)]
      simp [splitL, glue]
    · have hne : (((c.toNat : Int)) == (b.toNat : Int)) = false := by
        rw [beq_eq_false_iff_ne]; intro e; exact hc (UInt8.toNat_inj.mp (by omega))
      simp only [hne, and_self, and_true, true_and, decide_true, decide_false, if_true, if_false, mid_get, mid_set, mid_getn, mid_setn, bt_mid, Option.bind_some, Bool.not_true, Bool.not_false, Bool.false_eq_true, Bool.true_eq_false, beq_self_eq_true, bne_self_eq_false, Int.toNat_natCast]
      have := ih q (t ++ [c]) out k (by simp at hb ⊢; omega) (by omega) (by simp at ho ⊢; omega)
      rw [show q ++ (t ++ [c]) ++ r = q ++ t ++ c :: r by simp, show ((q ++ (t ++ [c])).length : Int) = ((q ++ t).length : Int) + 1 by simp; omega] at this
      rw [this]
      simp only [splitL, if_neg hc, glue_glue]
theorem spec_l01Split_f (s : ByteArray) (b : UInt8) (hs : s.size ≤ 1000000) : spec_l01Split.f s (b.toNat : Int) = some ((splitL b (bl s)).map ob) := by
  have := spec_l01Split_l b (bl s) [] [] [] NN (by simp [bl_length]; exact hs) (by rw [bl_length]; exact NN_lt (by omega)) (by simp)
  unfold spec_l01Split.f spec_l01Split.fn spec_l01Split.top
  simp only [List.nil_append, ob_bl, List.length_nil] at this
  rw [glue_nil (splitL_ne _ _)] at this
  exact this
theorem splitL_size (b : UInt8) (l : List UInt8) : ∀ x ∈ splitL b l, x.length ≤ l.length := by
  induction l with
  | nil => simp [splitL]
  | cons c r ih =>
    simp only [splitL]
    split
    · intro x hx
      rcases List.mem_cons.1 hx with rfl | hx
      · simp
      · have := ih x hx; simp; omega
    · intro x hx
      cases e : splitL b r with
      | nil => exact absurd e (splitL_ne b r)
      | cons y ys =>
        rw [e] at hx ih
        rcases List.mem_cons.1 hx with rfl | hx
        · have := ih y (by simp); simp; omega
        · have := ih x (by simp [hx]); simp; omega
end Go.Pl

namespace Go.Pl
open Go.Ev
set_option linter.unusedVariables false
noncomputable section
def impl_decimal.g4 (S : Int → Option ByteArray) (L4 : Int → ByteArray → Option ByteArray) (n0 : Int) (text3 : ByteArray) : Option ByteArray :=
  if (bytesOf ([IntKind.u8.wrap (IntKind.i64.wrap (48 + (Int.tmod n0 10)))])).size + text3.size ≤ 9223372036854775807 then
    if (((IntKind.i64.wrap (Int.tdiv n0 10)) : Int) == 0) = true then
      some ((bytesOf ([IntKind.u8.wrap (IntKind.i64.wrap (48 + (Int.tmod n0 10)))])) ++ text3)
    else
      L4 (IntKind.i64.wrap (Int.tdiv n0 10)) ((bytesOf ([IntKind.u8.wrap (IntKind.i64.wrap (48 + (Int.tmod n0 10)))])) ++ text3)
  else
    none
def impl_decimal.l4 (S : Int → Option ByteArray) (n : Nat) : Nat → Int → ByteArray → Option ByteArray
  | 0 => fun _ _ => none
  | k + 1 => (impl_decimal.g4 S) ((impl_decimal.l4 S) n k)
def impl_decimal.top (S : Int → Option ByteArray) (I4 : Int → ByteArray → Option ByteArray) (n0 : Int) : Option ByteArray :=
  if (decide ((n0 : Int) < 0)) = true then
    (S (IntKind.i64.wrap (0 - n0))).bind fun r1 =>
    if (⟨#[45]⟩ : ByteArray).size + r1.size ≤ 9223372036854775807 then
      some ((⟨#[45]⟩ : ByteArray) ++ r1)
    else
      none
  else
    I4 n0 (⟨#[]⟩ : ByteArray)
def impl_decimal.fn (S : Int → Option ByteArray) (n : Nat) (n0 : Int) : Option ByteArray := (impl_decimal.top S) ((impl_decimal.l4 S) n n) n0
def impl_decimal.rc : Nat → Int → Option ByteArray
  | 0 => fun _ => none
  | k + 1 => (impl_decimal.fn (impl_decimal.rc k)) NN
def impl_decimal.f (n0 : Int) : Option ByteArray := impl_decimal.rc NN n0
end
end Go.Pl

namespace Go.Pl
open Go.Ev
set_option linter.unusedVariables false
noncomputable section
def spec_l01Dec.top (S : Int → Option ByteArray) (n0 : Int) : Option ByteArray :=
  if (decide ((n0 : Int) < 10)) = true then
    some (bytesOf ([IntKind.u8.wrap (IntKind.i64.wrap (48 + n0))]))
  else
    (S (IntKind.i64.wrap (Int.tdiv n0 10))).bind fun r1 =>
    if r1.size + (bytesOf ([IntKind.u8.wrap (IntKind.i64.wrap (48 + (Int.tmod n0 10)))])).size ≤ 9223372036854775807 then
      some (r1 ++ (bytesOf ([IntKind.u8.wrap (IntKind.i64.wrap (48 + (Int.tmod n0 10)))])))
    else
      none
def spec_l01Dec.fn (S : Int → Option ByteArray) (n : Nat) (n0 : Int) : Option ByteArray := (spec_l01Dec.top S) n0
def spec_l01Dec.rc : Nat → Int → Option ByteArray
  | 0 => fun _ => none
  | k + 1 => (spec_l01Dec.fn (spec_l01Dec.rc k)) NN
def spec_l01Dec.f (n0 : Int) : Option ByteArray := spec_l01Dec.rc NN n0
end
end Go.Pl

namespace Go.Pl
open Go.Ev
set_option linter.unusedVariables false
set_option linter.unusedSimpArgs false
def digs (n : Nat) : List UInt8 := if h : n < 10 then [UInt8.ofNat (48 + n)] else digs (n / 10) ++ [UInt8.ofNat (48 + n % 10)]
  termination_by n
  decreasing_by omega
theorem digs_small {n : Nat} (h : n < 10) : digs n = [UInt8.ofNat (48 + n)] := by rw [digs, dif_pos h]
theorem digs_big {n : Nat} (h : ¬ n < 10) : digs n = digs (n / 10) ++ [UInt8.ofNat (48 + n % 10)] := by rw [digs, dif_neg h]
theorem digs_len : ∀ (d n : Nat), n < 10 ^ (d + 1) → (digs n).length ≤ d + 1 ∧ 1 ≤ (digs n).length := by
  intro d
  induction d with
  | zero => intro n hn; rw [digs_small (by simpa using hn)]; simp
  | succ d ih =>
    intro n hn
    by_cases h : n < 10
    · rw [digs_small h]; simp
    · rw [digs_big h]
      have := ih (n / 10) (by rw [Nat.pow_succ] at hn; omega)
      simp; omega
def decB (n : Int) : ByteArray := ob (if n < 0 then 45 :: digs (-n).toNat else digs n.toNat)
theorem decB_nat (n : Nat) : decB (n : Int) = ob (digs n) := by unfold decB; rw [if_neg (by omega), Int.toNat_natCast]
theorem bytesOf_dig {x : Nat} (h : x < 10) : bytesOf [IntKind.u8.wrap (IntKind.i64.wrap (48 + (x : Int)))] = ob [UInt8.ofNat (48 + x)] := by
  rw [w64 (n := 48 + (x : Int)) (by omega) (by omega), w8 (by omega) (by omega), bytesOf_ob]
  simp only [List.map_cons, List.map_nil]
  rfl
theorem tmod10 (x : Nat) : Int.tmod (x : Int) 10 = ((x % 10 : Nat) : Int) := (Int.ofNat_tmod x 10).symm
theorem tdiv10 (x : Nat) : Int.tdiv (x : Int) 10 = ((x / 10 : Nat) : Int) := (Int.ofNat_tdiv x 10).symm
theorem p19 : (10 : Nat) ^ (18 + 1) = 10000000000000000000 := by decide
theorem impl_decimal_l (S : Int → Option ByteArray) : ∀ (d n : Nat), n < 10 ^ (d + 1) → n ≤ 1000000000000000000 → ∀ (acc : List UInt8) (k : Nat), acc.length + d ≤ 1000 → d < k → impl_decimal.l4 S NN k (n : Int) (ob acc) = some (ob (digs n ++ acc)) := by
  intro d
  induction d with
  | zero =>
    intro n hn _ acc k ha hk
    obtain ⟨k, rfl⟩ : ∃ j, k = j + 1 := ⟨k - 1, by omega⟩
    have hn' : n < 10 := by simpa using hn
    have e0 : (ob [UInt8.ofNat (48 + n % 10)]).size + (ob acc).size ≤ 9223372036854775807 := by rw [ob_size, ob_size]; simp; omega
    have ew := w64 (n := ((n / 10 : Nat) : Int)) (by omega) (by omega)
    have ez : (((n / 10 : Nat) : Int) == 0) = true := by rw [beq_iff_eq]; omega
    simp only [impl_decimal.l4, impl_decimal.g4, tdiv10, tmod10, bytesOf_dig (show n % 10 < 10 by omega), e0, ew, ez, if_true, ob_append]
    rw [digs_small hn', Nat.mod_eq_of_lt hn']
  | succ d ih =>
    intro n hn hm acc k ha hk
    obtain ⟨k, rfl⟩ : ∃ j, k = j + 1 := ⟨k - 1, by omega⟩
    have e0 : (ob [UInt8.ofNat (48 + n % 10)]).size + (ob acc).size ≤ 9223372036854775807 := by rw [ob_size, ob_size]; simp; omega
    have ew := w64 (n := ((n / 10 : Nat) : Int)) (by omega) (by omega)
    simp only [impl_decimal.l4, impl_decimal.g4, tdiv10, tmod10, bytesOf_dig (show n % 10 < 10 by omega), e0, ew, if_true, ob_append]
    by_cases h : n < 10
    · have ez : (((n / 10 : Nat) : Int) == 0) = true := by rw [beq_iff_eq]; omega
      rw [if_pos ez, digs_small h, Nat.mod_eq_of_lt h]
    · have ez : ¬ (((n / 10 : Nat) : Int) == 0) = true := by rw [beq_iff_eq]; omega
      have hn' : n / 10 < 10 ^ (d + 1) := by rw [Nat.pow_succ] at hn; omega
      rw [if_neg ez, ih (n / 10) hn' (by omega) _ k (by simp; omega) (by omega), digs_big h, List.append_assoc]
theorem impl_decimal_fn (S : Int → Option ByteArray) (m : Nat) (h : m ≤ 1000000000000000000) : impl_decimal.fn S NN m = some (decB m) := by
  unfold impl_decimal.fn impl_decimal.top
  have hl := impl_decimal_l S 18 m (by rw [p19]; omega) h [] NN (by simp) (NN_lt (by omega))
  rw [List.append_nil] at hl
  have hn : ¬ (m : Int) < 0 := by omega
  simp only [hn, decide_false, Bool.false_eq_true, if_false]
  rw [decB_nat]; exact hl
theorem NN_succ2 : ∃ j, NN = j + 1 + 1 := ⟨NN - 2, by have := NNb; omega⟩
theorem impl_decimal_f {n : Int} (h0 : -1000000000000000000 ≤ n) (h : n ≤ 1000000000000000000) : impl_decimal.f n = some (decB n) := by
  unfold impl_decimal.f
  obtain ⟨k, hk⟩ := NN_succ2
  rw [hk]
  show impl_decimal.fn (impl_decimal.rc (k + 1)) NN n = some (decB n)
  by_cases hn : 0 ≤ n
  · obtain ⟨m, rfl⟩ : ∃ m : Nat, n = m := ⟨n.toNat, by omega⟩
    exact impl_decimal_fn _ m (by omega)
  · obtain ⟨m, hm⟩ : ∃ m : Nat, -n = m := ⟨(-n).toNat, by omega⟩
    have hl := digs_len 18 m (by rw [p19]; omega)
    have hw : IntKind.i64.wrap (0 - n) = (m : Int) := by rw [w64 (by omega) (by omega)]; omega
    have hf := impl_decimal_fn (impl_decimal.rc k) m (by omega)
    have hlt : n < 0 := by omega
    show impl_decimal.top (impl_decimal.rc (k + 1)) (impl_decimal.l4 (impl_decimal.rc (k + 1)) NN NN) n = some (decB n)
    unfold impl_decimal.top
    simp only [hlt, decide_true, if_true, hw]
    rw [show impl_decimal.rc (k + 1) (m : Int) = impl_decimal.fn (impl_decimal.rc k) NN (m : Int) from rfl, hf]
    simp only [Option.bind_some]
    rw [decB_nat, if_pos (by rw [ob_size, show (⟨#[45]⟩ : ByteArray).size = 1 from rfl]; omega), show (⟨#[45]⟩ : ByteArray) = ob [45] from rfl, ob_append]
    unfold decB; rw [if_pos hlt, hm]; rfl
theorem spec_l01Dec_nat : ∀ (d n : Nat), d ≤ 20 → n < 10 ^ (d + 1) → n ≤ 1000000000000000000 → ∀ k, d < k → spec_l01Dec.rc k (n : Int) = some (ob (digs n)) := by
  intro d
  induction d with
  | zero =>
    intro n _ hn _ k hk
    obtain ⟨k, rfl⟩ : ∃ j, k = j + 1 := ⟨k - 1, by omega⟩
    have hn' : n < 10 := by simpa using hn
    have h1 : (n : Int) < 10 := by omega
    simp only [spec_l01Dec.rc, spec_l01Dec.fn, spec_l01Dec.top, h1, decide_true, if_true, bytesOf_dig hn', digs_small hn']
  | succ d ih =>
    intro n hd hn hm k hk
    obtain ⟨k, rfl⟩ : ∃ j, k = j + 1 := ⟨k - 1, by omega⟩
    by_cases h : n < 10
    · have h1 : (n : Int) < 10 := by omega
      simp only [spec_l01Dec.rc, spec_l01Dec.fn, spec_l01Dec.top, h1, decide_true, if_true, bytesOf_dig h, digs_small h]
    · have hn' : n / 10 < 10 ^ (d + 1) := by rw [Nat.pow_succ] at hn; omega
      have hl := digs_len d (n / 10) hn'
      have h1 : ¬ (n : Int) < 10 := by omega
      have ew := w64 (n := ((n / 10 : Nat) : Int)) (by omega) (by omega)
      have e0 : (ob (digs (n / 10))).size + (ob [UInt8.ofNat (48 + n % 10)]).size ≤ 9223372036854775807 := by rw [ob_size, ob_size]; simp; omega
      simp only [spec_l01Dec.rc, spec_l01Dec.fn, spec_l01Dec.top, h1, decide_false, Bool.false_eq_true, if_false, tdiv10, tmod10, ew, ih (n / 10) (by omega) hn' (by omega) k (by omega), Option.bind_some, bytesOf_dig (show n % 10 < 10 by omega), e0, if_true, ob_append, digs_big h]
theorem spec_l01Dec_f {n : Int} (h0 : 0 ≤ n) (h : n ≤ 1000000000000000000) : spec_l01Dec.f n = some (decB n) := by
  obtain ⟨m, rfl⟩ : ∃ m : Nat, n = m := ⟨n.toNat, by omega⟩
  rw [decB_nat]
  exact spec_l01Dec_nat 18 m (by omega) (by rw [p19]; omega) (by omega) NN (NN_lt (by omega))
theorem decB_size {n : Int} (h0 : -1000000000000000000 ≤ n) (h : n ≤ 1000000000000000000) : (decB n).size ≤ 20 := by
  have hl := digs_len 18 n.toNat (by rw [p19]; omega)
  have hl2 := digs_len 18 (-n).toNat (by rw [p19]; omega)
  unfold decB; rw [ob_size]; split
  · rw [List.length_cons]; omega
  · omega
end Go.Pl

namespace Go.Pl
open Go.Ev
set_option linter.unusedVariables false
noncomputable section
def impl_readDecimal.g8 (L8 : ByteArray → ByteArray → Int → Int → Option (Int × Bool)) (s0 : ByteArray) (digits4 : ByteArray) (n5 : Int) (i6 : Int) : Option (Int × Bool) :=
  if (decide ((i6 : Int) < (digits4.size : Int))) = true then
    if (0 : Int) ≤ i6 ∧ (i6 : Int) < digits4.size then
      if (decide (((bt digits4 i6) : Int) < 48)) = false then
        if (0 : Int) ≤ i6 ∧ (i6 : Int) < digits4.size then
          if (decide ((57 : Int) < (bt digits4 i6))) = true then
            some (0, false)
          else if (0 : Int) ≤ i6 ∧ (i6 : Int) < digits4.size then
            L8 s0 digits4 (IntKind.i64.wrap ((IntKind.i64.wrap (10 * n5)) + (IntKind.i64.wrap (IntKind.u8.wrap ((bt digits4 i6) - 48))))) (IntKind.i64.wrap (i6 + 1))
          else
            none
        else
          none
      else
        some (0, false)
    else
      none
  else if (decide (((digits4.size : Int) : Int) < (s0.size : Int))) = true then
    some (IntKind.i64.wrap (0 - n5), true)
  else
    some (n5, true)
def impl_readDecimal.l8 (n : Nat) : Nat → ByteArray → ByteArray → Int → Int → Option (Int × Bool)
  | 0 => fun _ _ _ _ => none
  | k + 1 => impl_readDecimal.g8 (impl_readDecimal.l8 n k)
def impl_readDecimal.top (I8 : ByteArray → ByteArray → Int → Int → Option (Int × Bool)) (s0 : ByteArray) : Option (Int × Bool) :=
  if (decide ((0 : Int) < (s0.size : Int))) = true then
    if (0 : Int) ≤ 0 ∧ (0 : Int) < s0.size then
      if (((bt s0 0) : Int) == 45) = true then
        if (0 : Int) ≤ 1 ∧ (1 : Int) ≤ s0.size then
          if ((((s0.extract (1 : Int).toNat s0.size).size : Int) : Int) == 0) = false then
            if (decide ((18 : Int) < ((s0.extract (1 : Int).toNat s0.size).size : Int))) = false then
              if (0 : Int) ≤ 0 ∧ (0 : Int) < (s0.extract (1 : Int).toNat s0.size).size then
                if (((bt (s0.extract (1 : Int).toNat s0.size) 0) : Int) == 48) = true then
                  if (decide ((1 : Int) < ((s0.extract (1 : Int).toNat s0.size).size : Int))) = false then
                    if (decide ((1 : Int) < (s0.size : Int))) = true then
                      some (0, false)
                    else
                      I8 s0 (s0.extract (1 : Int).toNat s0.size) 0 0
                  else
                    some (0, false)
                else
                  I8 s0 (s0.extract (1 : Int).toNat s0.size) 0 0
              else
                none
            else
              some (0, false)
          else
            some (0, false)
        else
          none
      else if (((s0.size : Int) : Int) == 0) = false then
        if (decide ((18 : Int) < (s0.size : Int))) = false then
          if (0 : Int) ≤ 0 ∧ (0 : Int) < s0.size then
            if (((bt s0 0) : Int) == 48) = true then
              if (decide ((1 : Int) < (s0.size : Int))) = false then
                if (decide ((1 : Int) < (s0.size : Int))) = true then
                  some (0, false)
                else
                  I8 s0 s0 0 0
              else
                some (0, false)
            else
              I8 s0 s0 0 0
          else
            none
        else
          some (0, false)
      else
        some (0, false)
    else
      none
  else if (((s0.size : Int) : Int) == 0) = false then
    if (decide ((18 : Int) < (s0.size : Int))) = false then
      if (0 : Int) ≤ 0 ∧ (0 : Int) < s0.size then
        if (((bt s0 0) : Int) == 48) = true then
          if (decide ((1 : Int) < (s0.size : Int))) = false then
            if (decide ((1 : Int) < (s0.size : Int))) = true then
              some (0, false)
            else
              I8 s0 s0 0 0
          else
            some (0, false)
        else
          I8 s0 s0 0 0
      else
        none
    else
      some (0, false)
  else
    some (0, false)
def impl_readDecimal.fn (n : Nat) (s0 : ByteArray) : Option (Int × Bool) := impl_readDecimal.top (impl_readDecimal.l8 n n) s0
def impl_readDecimal.f (s0 : ByteArray) : Option (Int × Bool) := impl_readDecimal.fn NN s0
end
end Go.Pl

namespace Go.Pl
open Go.Ev
set_option linter.unusedVariables false
noncomputable section
def spec_l01Value.g5 (L5 : ByteArray → Int → Int → Option (Int × Bool)) (s0 : ByteArray) (n4 : Int) (i5 : Int) : Option (Int × Bool) :=
  if (decide ((i5 : Int) < (s0.size : Int))) = true then
    if (0 : Int) ≤ i5 ∧ (i5 : Int) < s0.size then
      if (decide (((bt s0 i5) : Int) < 48)) = false then
        if (0 : Int) ≤ i5 ∧ (i5 : Int) < s0.size then
          if (decide ((57 : Int) < (bt s0 i5))) = true then
            some (0, false)
          else if (0 : Int) ≤ i5 ∧ (i5 : Int) < s0.size then
            L5 s0 (IntKind.i64.wrap ((IntKind.i64.wrap (10 * n4)) + (IntKind.i64.wrap (IntKind.u8.wrap ((bt s0 i5) - 48))))) (IntKind.i64.wrap (i5 + 1))
          else
            none
        else
          none
      else
        some (0, false)
    else
      none
  else
    (spec_l01Dec.f n4).bind fun r1 =>
    some (n4, r1.toList == s0.toList)
def spec_l01Value.l5 (n : Nat) : Nat → ByteArray → Int → Int → Option (Int × Bool)
  | 0 => fun _ _ _ => none
  | k + 1 => spec_l01Value.g5 (spec_l01Value.l5 n k)
def spec_l01Value.top (I5 : ByteArray → Int → Int → Option (Int × Bool)) (s0 : ByteArray) : Option (Int × Bool) :=
  if (decide (((s0.size : Int) : Int) < 1)) = false then
    if (decide ((13 : Int) < (s0.size : Int))) = true then
      some (0, false)
    else
      I5 s0 0 0
  else
    some (0, false)
def spec_l01Value.fn (n : Nat) (s0 : ByteArray) : Option (Int × Bool) := spec_l01Value.top (spec_l01Value.l5 n n) s0
def spec_l01Value.f (s0 : ByteArray) : Option (Int × Bool) := spec_l01Value.fn NN s0
end
end Go.Pl
