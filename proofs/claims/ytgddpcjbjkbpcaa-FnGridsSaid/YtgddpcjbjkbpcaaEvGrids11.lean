/- Part 11 of what the law FnGrids stands on: an evaluator of the model's code, proved sound; the functions as plain texts; their contracts. -/
import Derived.Test.YtgddpcjbjkbpcaaChecked
import Derived.Test.YtgddpcjbjkbpcaaProg
import Derived.Test.YtgddpcjbjkbpcaaRows
import Derived.Below
import Derived.Calls
import Derived.Carry
import Derived.ChangeArms
import Derived.ChangeKeysEq
import Derived.ChangeOld
import Derived.Deep.Quiet
import Derived.KernelRfl
import Derived.Laws.Append
import Derived.Laws.BytesString
import Derived.Laws.MakeOwn
import Derived.Laws.Strings
import Derived.Laws.StructEq
import Derived.OpenShut
import Derived.OrdersHeld
import Derived.ProofKit
import Derived.ShutString
import Derived.SizedLaws
import Derived.Tactics
import Derived.WalkKit
import Derived.WideShapes
import Derived.Test.YtgddpcjbjkbpcaaEvGrids10
/- Words for the plain laws. -/
namespace Go.Pl
open Go.Ev
set_option linter.unusedVariables false

theorem wf64 {n : Int} : (Lit.int .i64 n).wf = true ↔ (-9223372036854775808 ≤ n ∧ n ≤ 9223372036854775807) := by
  simp only [Lit.wf, Bool.and_eq_true, decide_eq_true_eq]
  have e1 : IntKind.i64.min = -9223372036854775808 := by decide
  have e2 : IntKind.i64.max = 9223372036854775807 := by decide
  omega
theorem wf8 {n : Int} : (Lit.int .u8 n).wf = true ↔ (0 ≤ n ∧ n ≤ 255) := by
  simp only [Lit.wf, Bool.and_eq_true, decide_eq_true_eq]
  have e1 : IntKind.u8.min = 0 := by decide
  have e2 : IntKind.u8.max = 255 := by decide
  omega
theorem w8 {n : Int} (h1 : 0 ≤ n) (h2 : n < 256) : IntKind.u8.wrap n = n := by
  simp only [IntKind.wrap, IntKind.bits, IntKind.signed]
  simp
  omega
theorem w8_range (n : Int) : 0 ≤ IntKind.u8.wrap n ∧ IntKind.u8.wrap n < 256 := by
  simp only [IntKind.wrap, IntKind.bits, IntKind.signed]
  simp
  omega

/-! Rows, taken apart where a loop stands. -/
theorem mid_get {α : Type} (p r : List α) (x z : α) : (p ++ x :: r).getD (p.length : Int).toNat z = x := by simp
theorem mid_set {α : Type} (p r : List α) (x y : α) : (p ++ x :: r).set (p.length : Int).toNat y = p ++ y :: r := by simp
theorem mid_getn {α : Type} (p r : List α) (x z : α) : (p ++ x :: r).getD p.length z = x := by simp
theorem mid_setn {α : Type} (p r : List α) (x y : α) : (p ++ x :: r).set p.length y = p ++ y :: r := by simp
theorem mid_len {α : Type} (p r : List α) (x : α) : ((p ++ x :: r).length : Int) = (p.length : Int) + r.length + 1 := by simp; omega
theorem mid_nil {α : Type} (p : List α) : p ++ [] = p := by simp
theorem mid_snoc {α : Type} (p r : List α) (x : α) : (p ++ [x]) ++ r = p ++ x :: r := by simp
theorem snoc_len {α : Type} (p : List α) (x : α) : ((p ++ [x]).length : Int) = (p.length : Int) + 1 := by simp
/-- A loop over a row: l stands for its rounds, f for what it comes to. -/
theorem loop_mid {α ρ σ : Type} {B : Nat} (l : Nat → List α → Int → σ → Option ρ) (f : List α → List α → σ → Option ρ)
    (hnil : ∀ k pre st, pre.length ≤ B → l (k + 1) pre (pre.length : Int) st = f pre [] st)
    (hcons : ∀ k pre a r st, pre.length + r.length + 1 ≤ B → (∀ st', l k (pre ++ a :: r) ((pre.length : Int) + 1) st' = f (pre ++ [a]) r st') → l (k + 1) (pre ++ a :: r) (pre.length : Int) st = f pre (a :: r) st) :
    ∀ r pre k st, pre.length + r.length ≤ B → r.length < k → l k (pre ++ r) (pre.length : Int) st = f pre r st := by
  intro r
  induction r with
  | nil =>
    intro pre k st h1 h2
    obtain ⟨k, rfl⟩ : ∃ j, k = j + 1 := ⟨k - 1, by omega⟩
    rw [List.append_nil]
    exact hnil k pre st (by simpa using h1)
  | cons a r ih =>
    intro pre k st h1 h2
    simp only [List.length_cons] at h1 h2
    obtain ⟨k, rfl⟩ : ∃ j, k = j + 1 := ⟨k - 1, by omega⟩
    refine hcons k pre a r st (by omega) fun st' => ?_
    have := ih (pre ++ [a]) k st' (by simp; omega) (by omega)
    rw [mid_snoc, snoc_len] at this
    exact this
/-- The same, where the row itself is written. -/
theorem loop_mid0 {α ρ σ : Type} {B : Nat} (l : Nat → List α → Int → σ → Option ρ) (f : List α → List α → σ → Option ρ)
    (hnil : ∀ k pre st, pre.length ≤ B → l (k + 1) pre (pre.length : Int) st = f pre [] st)
    (hcons : ∀ k pre a r st, pre.length + r.length + 1 ≤ B → (∀ st', l k (pre ++ a :: r) ((pre.length : Int) + 1) st' = f (pre ++ [a]) r st') → l (k + 1) (pre ++ a :: r) (pre.length : Int) st = f pre (a :: r) st)
    (xs : List α) (k : Nat) (st : σ) (h1 : xs.length ≤ B) (h2 : xs.length < k) : l k xs 0 st = f [] xs st := by
  have := loop_mid l f hnil hcons xs [] k st (by simpa using h1) h2
  simpa using this
/-- A loop by a measure. -/
theorem loop_by {ρ σ : Type} (l : Nat → σ → Option ρ) (μ : σ → Nat) (Q : σ → Option ρ → Prop)
    (h : ∀ k st, (∀ st', μ st' < μ st → Q st' (l k st')) → Q st (l (k + 1) st)) : ∀ k st, μ st < k → Q st (l k st) := by
  intro k
  induction k with
  | zero => intro st h; omega
  | succ k ih => intro st hk; exact h k st fun st' h' => ih st' (by omega)

/-! Bytes. -/
theorem ba_toList {a b : ByteArray} : a.toList = b.toList ↔ a = b := by
  rw [ByteArray.toList_eq, ByteArray.toList_eq]
  exact ⟨fun h => ByteArray.ext (Array.toList_inj.mp h), fun h => by rw [h]⟩
theorem ba_beq (a b : ByteArray) : (a.toList == b.toList) = decide (a = b) := by
  by_cases h : a = b
  · subst h; simp
  · rw [decide_eq_false h, beq_eq_false_iff_ne]; exact fun e => h (ba_toList.1 e)
def bl (s : ByteArray) : List UInt8 := s.data.toList
def ob (l : List UInt8) : ByteArray := ⟨l.toArray⟩
theorem bl_ob (l : List UInt8) : bl (ob l) = l := by simp [bl, ob]
theorem ob_bl (s : ByteArray) : ob (bl s) = s := by simp [bl, ob]
theorem bl_inj {a b : ByteArray} (h : bl a = bl b) : a = b := by rw [← ob_bl a, h, ob_bl]
theorem ob_inj {a b : List UInt8} (h : ob a = ob b) : a = b := by rw [← bl_ob a, h, bl_ob]
theorem bl_length (s : ByteArray) : (bl s).length = s.size := by simp only [bl, Array.length_toList]; rfl
theorem ob_size (l : List UInt8) : (ob l).size = l.length := by rw [← bl_length, bl_ob]
theorem bl_append (a b : ByteArray) : bl (a ++ b) = bl a ++ bl b := by simp [bl]
theorem ob_append (a b : List UInt8) : ob a ++ ob b = ob (a ++ b) := by apply bl_inj; rw [bl_append, bl_ob, bl_ob, bl_ob]
theorem bl_lit (a : Array UInt8) : bl (⟨a⟩ : ByteArray) = a.toList := rfl
theorem lit_ob (l : List UInt8) : (⟨l.toArray⟩ : ByteArray) = ob l := rfl
theorem bl_extract (s : ByteArray) (i j : Nat) : bl (s.extract i j) = ((bl s).take j).drop i := by
  simp only [bl, ByteArray.data_extract, Array.toList_extract, List.extract]
  rw [List.drop_take]
theorem ob_extract (l : List UInt8) (i j : Nat) : (ob l).extract i j = ob ((l.take j).drop i) := by apply bl_inj; rw [bl_extract, bl_ob, bl_ob]
theorem ob_toList (l : List UInt8) : (ob l).toList = l := by rw [ByteArray.toList_eq]; rfl
theorem ba_bl (s : ByteArray) : s.toList = bl s := by rw [ByteArray.toList_eq]; rfl
theorem bt_ob (l : List UInt8) (i : Int) : bt (ob l) i = ((l.getD i.toNat 0).toNat : Int) := rfl
theorem bt_mid (p r : List UInt8) (c : UInt8) : bt (ob (p ++ c :: r)) (p.length : Int) = (c.toNat : Int) := by rw [bt_ob, mid_get]
theorem bt_range (s : ByteArray) (i : Int) : 0 ≤ bt s i ∧ bt s i ≤ 255 := by
  unfold bt
  have := UInt8.toNat_lt ((s.data.toList.getD i.toNat 0))
  omega
theorem u8_lt (c : UInt8) : c.toNat < 256 := UInt8.toNat_lt c
theorem u8_eq {a : UInt8} {n : Nat} (h : n < 256) : ((a.toNat : Int) = (n : Int)) ↔ a = UInt8.ofNat n := by
  constructor
  · intro e
    apply UInt8.toNat_inj.mp
    rw [UInt8.toNat_ofNat']; omega
  · rintro rfl
    rw [UInt8.toNat_ofNat']; omega
theorem bytesOf_ob (l : List Int) : bytesOf l = ob (l.map fun n => UInt8.ofNat n.toNat) := rfl
/-- Every string is of bytes. -/
theorem ob_all {P : ByteArray → Prop} (h : ∀ l, P (ob l)) (s : ByteArray) : P s := by rw [← ob_bl s]; exact h _
/-- A loop over a string's bytes. -/
theorem loop_str0 {ρ σ : Type} {B : Nat} (l : Nat → ByteArray → Int → σ → Option ρ) (f : List UInt8 → List UInt8 → σ → Option ρ)
    (hnil : ∀ k pre st, pre.length ≤ B → l (k + 1) (ob pre) (pre.length : Int) st = f pre [] st)
    (hcons : ∀ k pre a r st, pre.length + r.length + 1 ≤ B → (∀ st', l k (ob (pre ++ a :: r)) ((pre.length : Int) + 1) st' = f (pre ++ [a]) r st') → l (k + 1) (ob (pre ++ a :: r)) (pre.length : Int) st = f pre (a :: r) st)
    (s : ByteArray) (k : Nat) (st : σ) (h1 : s.size ≤ B) (h2 : s.size < k) : l k s 0 st = f [] (bl s) st := by
  have := loop_mid0 (fun k xs i st => l k (ob xs) i st) f hnil hcons (bl s) k st (by rw [bl_length]; exact h1) (by rw [bl_length]; exact h2)
  rw [ob_bl] at this
  exact this
theorem room1 : room 1 = 140737488355328 := by decide
theorem room8 : room 8 = 17592186044416 := by decide
theorem room16 : room 16 = 8796093022208 := by decide
theorem room24 : room 24 = 5864062014805 := by decide
theorem room32 : room 32 = 4398046511104 := by decide
theorem room40 : room 40 = 3518437208883 := by decide
theorem NNb : (1000000000000 : Nat) < NN := by rw [NN_eq]; omega
theorem NN_lt {n : Nat} (h : n < 1152921504606846976) : n < NN := by rw [NN_eq]; omega
theorem some_iff {b c : Bool} (h : b = true ↔ c = true) : some b = some c := by
  congr 1; exact Bool.eq_iff_iff.mpr h
end Go.Pl

/- A law's row: what its arguments are, in plain words. -/
namespace Go.Ev
set_option linter.unusedVariables false
set_option linter.unusedSimpArgs false
open Go.RowKit Go.WideShapes Go.ChangeShapes Go.ChangeAt
variable {P : Program}

def Rg (k : IntKind) (n : Int) : Prop := (Lit.int k n).wf = true
def Sz (s : ByteArray) : Prop := s.size ≤ 140737488355328
def Ls {α : Type} (Q : α → Prop) (xs : List α) : Prop := xs.length ≤ 140737488355328 ∧ ∀ x ∈ xs, Q x
def Plain : (t : Ty) → t.I → Prop
  | .int k, n => Rg k n
  | .bool, _ => True
  | .str, s => Sz s
  | .sl _ t, xs => Ls (Plain t) xs
  | .slb _ _, _ => True
  | .pair a b, x => Plain a x.1 ∧ Plain b x.2
  | .arr n t, xs => xs.length = n ∧ ∀ x ∈ xs, Plain t x
def PlainAll : (ts : List Ty) → Tup ts → Prop
  | [], _ => True
  | [t], x => Plain t x
  | t :: u :: r, x => Plain t x.1 ∧ PlainAll (u :: r) x.2
def okE (B : TypeId → Nat) : Ty → Bool
  | .sl e t => decide (1 ≤ B e) && okE B t
  | .slb e t => decide (1 ≤ B e) && okE B t
  | .pair a b => okE B a && okE B b
  | .arr _ t => okE B t
  | _ => true
theorem reach_lt : reachBytes ≤ 140737488355328 := by decide
theorem fit_plain {B : TypeId → Nat} : ∀ (t : Ty) (x : t.I), okE B t = true → Fit B t x → Plain t x := by
  intro t
  induction t with
  | int k => intro x _ h; exact h
  | bool => intro x _ h; trivial
  | str => intro x _ h; exact Nat.le_trans h reach_lt
  | sl e t ih =>
    intro x ho h
    simp only [okE, Bool.and_eq_true, decide_eq_true_eq] at ho
    refine ⟨?_, fun y hy => ih y ho.2 (h.2 y hy)⟩
    have h1 : x.length * 1 ≤ x.length * B e := Nat.mul_le_mul_left _ ho.1
    have h2 := h.1
    have h3 := reach_lt
    omega
  | slb e t ih => intro x ho h; trivial
  | pair a b iha ihb =>
    intro x ho h
    simp only [okE, Bool.and_eq_true] at ho
    exact ⟨iha _ ho.1 h.1, ihb _ ho.2 h.2⟩
  | arr n t ih => intro x ho h; exact ⟨h.1, fun y hy => ih y ho (h.2 y hy)⟩
theorem fit_plainAll {B : TypeId → Nat} : ∀ (ts : List Ty) (x : Tup ts), ts.all (okE B) = true → FitAll B ts x → PlainAll ts x := by
  intro ts
  induction ts with
  | nil => intro x _ _; trivial
  | cons t r ih =>
    intro x ho h
    simp only [List.all_cons, Bool.and_eq_true] at ho
    cases r with
    | nil => exact fit_plain t x ho.1 h
    | cons u r => exact ⟨fit_plain t x.1 ho.1 h.1, ih x.2 ho.2 h.2⟩
theorem ok_all {tab : List TRow} (h : okB P tab = true) : tab.all (rowB P tab) = true := by
  unfold okB at h; simp only [Bool.and_eq_true] at h; exact h.2.2
theorem bytes_sound {tab : List TRow} (h : okB P tab = true) : ∀ t x, tabT tab t = some x → P.bytesOf t = tabB tab t := by
  intro t x ht
  have hs := tab_sound (ok_all h)
  obtain ⟨ty, n⟩ := x
  obtain ⟨i, h1, h2⟩ := (hs.1 t ty n ht).info
  unfold Program.bytesOf
  rw [h1]
  exact hs.2 t _ ht i h1
section
variable {H : Type} {enc : TypeId × Value → H} {w : World} {base : Nat} {spare : Nat → Bool} {held : Bool}
theorem law_row {tab : List TRow} (hok : okB P tab = true) (hpos : posB tab = true) {f : FuncId} {c : Con} (hg : Good P f c) (hps : (c.ps.map (·.2)).map ((Kn.val, ·)) = c.ps) (hE : (c.ps.map (·.2)).all (okE (tabB tab)) = true)
    (hlaw : ∀ x, PlainAll (c.ps.map (·.2)) x → ∃ r, c.F x = some r ∧ kds' c.rs (dats _ r) = [(.val, ⟨.bool, true⟩)])
    {r : Reach} {b0 : Nat} {ts : List TypeId} {args : Array Value} {ds : List (DataW H)} {p : List MemPlace} (hts : tysOf (tabT tab) ts = some (c.ps.map (·.2))) (h : DataW.TrodAll enc P w base spare held ts args.toList ds p)
    (hval : ∀ (j : Nat) t v, ts[j]? = some t → args[j]? = some v → Value.okWide P w r b0 t v) {vt : List TypeId} {gs : List (DataW H)} (hgs : vt = [] ∨ gs = []) (hw : (DataW.weightsEach P (ts ++ vt) (ds ++ gs)).all (· ≤ reachBytes) = true) (hl : ts.length = ds.length) :
    Calls P f args w fun e w' => e = .returned (.bool true) ∧ Below w.heap.size w w' := by
  refine law_calls (tab_sound (ok_all hok)).1 (bytes_sound hok) (posB_sound hpos) hg hps (fun x hx => hlaw x (fit_plainAll _ x hE hx)) hts h (fun j t v hj hv => hval j t v hj (by simpa using hv)) ?_
  have key : ∀ (ts : List TypeId) (ds : List (DataW H)), ts.length = ds.length → ∀ m ∈ DataW.weightsEach P ts ds, m ∈ DataW.weightsEach P (ts ++ vt) (ds ++ gs) := by
    intro ts
    induction ts with
    | nil => intro ds hl m hm; cases ds <;> simp [DataW.weightsEach] at hm
    | cons t ts ih =>
      intro ds hl m hm
      cases ds with
      | nil => simp [DataW.weightsEach] at hm
      | cons d ds =>
        simp only [List.cons_append, DataW.weightsEach, List.mem_append] at hm ⊢
        rcases hm with hm | hm
        · exact .inl hm
        · exact .inr (ih ds (by simpa using hl) m hm)
  intro m hm
  have := List.all_eq_true.1 hw m (key ts ds hl m hm)
  simpa using this
end
end Go.Ev

/- What the laws' own helpers do, loop by loop: sizes, copies, comparisons, marks. -/
namespace Go.Pl
open Go.Ev
set_option linter.unusedVariables false

def Sm (s : ByteArray) : Prop := s.size ≤ 1000000
def Lm {α : Type} (Q : α → Prop) (xs : List α) : Prop := xs.length ≤ 1000000 ∧ ∀ x ∈ xs, Q x

theorem eqS_loop {α : Type} {E : α → Prop} (l : Nat → List α → List α → Int → Option Bool) (a : List α) (hE : ∀ x ∈ a, E x)
    (hs : ∀ k p x r, E x → a = p ++ x :: r → l (k + 1) a a p.length = l k a a ((p.length : Int) + 1)) (he : ∀ k, l (k + 1) a a a.length = some true) :
    ∀ k, a.length < k → l k a a 0 = some true := by
  have key : ∀ (r p : List α) (k : Nat), a = p ++ r → r.length < k → l k a a p.length = some true := by
    intro r
    induction r with
    | nil =>
      intro p k h hk
      obtain ⟨k, rfl⟩ : ∃ j, k = j + 1 := ⟨k - 1, by omega⟩
      rw [List.append_nil] at h
      rw [← h]; exact he k
    | cons x r ih =>
      intro p k h hk
      simp only [List.length_cons] at hk
      obtain ⟨k, rfl⟩ : ∃ j, k = j + 1 := ⟨k - 1, by omega⟩
      rw [hs k p x r (hE x (by rw [h]; simp)) h]
      have := ih (p ++ [x]) k (by rw [h]; simp) (by omega)
      rw [snoc_len] at this
      exact this
  intro k hk
  have := key a [] k (by simp) hk
  simpa using this

theorem szS_loop {α : Type} {Q R : α → Prop} (l : Nat → List α → Int → Int → Option Int)
    (he : ∀ k p left, l (k + 1) p left p.length = some left)
    (hs : ∀ x, Q x → ∀ left, -1000000000000000 ≤ left → left ≤ 1000000 → ∃ s, s ≤ 1000000 ∧ (0 ≤ s → s ≤ left ∧ R x) ∧ ∀ k p r, p.length + r.length + 1 ≤ 140737488355328 → l (k + 1) (p ++ x :: r) left p.length = if s < 0 then some (-1) else l k (p ++ x :: r) s ((p.length : Int) + 1))
    (a : List α) (k : Nat) (left : Int) (h0 : -1000000000000000 ≤ left) (h1 : left ≤ 1000000) (ha : Ls Q a) (hk : a.length < k) : ∃ s, l k a left 0 = some s ∧ s ≤ 1000000 ∧ (0 ≤ s → s ≤ left ∧ ∀ x ∈ a, R x) := by
  have key : ∀ (r p : List α) (k : Nat) (left : Int), p.length + r.length ≤ 140737488355328 → (∀ x ∈ r, Q x) → -1000000000000000 ≤ left → left ≤ 1000000 → r.length < k → ∃ s, l k (p ++ r) left p.length = some s ∧ s ≤ 1000000 ∧ (0 ≤ s → s ≤ left ∧ ∀ x ∈ r, R x) := by
    intro r
    induction r with
    | nil =>
      intro p k left _ _ _ _ hk
      obtain ⟨k, rfl⟩ : ∃ j, k = j + 1 := ⟨k - 1, by omega⟩
      rw [List.append_nil]
      exact ⟨left, he k p left, by omega, fun _ => ⟨by omega, fun x hx => by cases hx⟩⟩
    | cons x r ih =>
      intro p k left hb hq h0 h1 hk
      simp only [List.length_cons] at hk hb
      obtain ⟨k, rfl⟩ : ∃ j, k = j + 1 := ⟨k - 1, by omega⟩
      obtain ⟨s, s1, s2, s3⟩ := hs x (hq x (by simp)) left h0 h1
      rw [s3 k p r (by omega)]
      by_cases hn : s < 0
      · rw [if_pos hn]; exact ⟨-1, rfl, by omega, by omega⟩
      · rw [if_neg hn]
        obtain ⟨u, u1, u2, u3⟩ := ih (p ++ [x]) k s (by simp; omega) (fun y hy => hq y (by simp [hy])) (by omega) (by omega) (by omega)
        rw [mid_snoc, snoc_len] at u1
        refine ⟨u, u1, by omega, fun h => ⟨by have := (u3 h).1; have := (s2 (by omega)).1; omega, fun y hy => ?_⟩⟩
        rcases List.mem_cons.1 hy with rfl | hy
        · exact (s2 (by omega)).2
        · exact (u3 h).2 y hy
  have := key a [] k left (by simpa using ha.1) ha.2 h0 h1 hk
  simpa using this

theorem toS_loop {α : Type} {Z R : α → Prop} (l5 l9 : Nat → List α → Int → List α → Option (List α × List α))
    (he9 : ∀ k a (out : List α), (a.length : Int) ≤ out.length → l9 (k + 1) a out.length out = some (out.take a.length, out.drop a.length))
    (hs9 : ∀ k a (i : Nat) (out : List α), i < out.length → out.length ≤ 140737488355328 → ∃ z, Z z ∧ l9 (k + 1) a i out = l9 k a ((i : Int) + 1) (out.set i z))
    (he5 : ∀ k a (out : List α), l5 (k + 1) a a.length out = l9 NN a a.length out)
    (hs5 : ∀ k (p r : List α) x (q s : List α) y, R x → p.length = q.length → p.length + r.length + 1 ≤ 140737488355328 → p.length + s.length + 1 ≤ 140737488355328 → l5 (k + 1) (p ++ x :: r) p.length (q ++ y :: s) = l5 k (p ++ x :: r) ((p.length : Int) + 1) (q ++ x :: s))
    (a : List α) (out : List α) (k : Nat) (ha : ∀ x ∈ a, R x) (h : a.length ≤ out.length) (hb : out.length ≤ 140737488355328) (hk : a.length < k) :
    ∃ fil, l5 k a 0 out = some (a, fil) ∧ fil.length = out.length - a.length ∧ ∀ x ∈ fil, Z x := by
  have hN : 140737488355328 < NN := NN_lt (by omega)
  have k9 : ∀ (d : Nat) (k : Nat) (i : Nat) (out : List α), out.length ≤ 140737488355328 → i + d = out.length → d < k → a.length ≤ i → out.take a.length = a → (∀ j x, a.length ≤ j → j < i → out[j]? = some x → Z x) →
      ∃ fil, l9 k a i out = some (a, fil) ∧ fil.length = out.length - a.length ∧ ∀ x ∈ fil, Z x := by
    intro d
    induction d with
    | zero =>
      intro k i out hb hi hk ha ht hz
      obtain ⟨k, rfl⟩ : ∃ j, k = j + 1 := ⟨k - 1, by omega⟩
      obtain rfl : i = out.length := by omega
      refine ⟨_, by rw [he9 k a out (by omega), ht], by simp, fun x hx => ?_⟩
      obtain ⟨m, hm⟩ := List.mem_iff_getElem?.1 hx
      rw [List.getElem?_drop] at hm
      exact hz _ x (by omega) (List.getElem?_eq_some_iff.1 hm).1 hm
    | succ d ih =>
      intro k i out hb hi hk ha ht hz
      obtain ⟨k, rfl⟩ : ∃ j, k = j + 1 := ⟨k - 1, by omega⟩
      obtain ⟨z, z1, z2⟩ := hs9 k a i out (by omega) hb
      rw [z2]
      obtain ⟨fil, f1, f2, f3⟩ := ih k (i + 1) (out.set i z) (by simpa using hb) (by simp; omega) (by omega) (by omega) (by rw [List.take_set_of_le ha]; exact ht) (fun j x h1 h2 h3 => by
        by_cases hj : i = j
        · subst hj
          rw [List.getElem?_set_self (by omega)] at h3
          cases h3; exact z1
        · rw [List.getElem?_set_ne hj] at h3
          exact hz j x h1 (by omega) h3)
      exact ⟨fil, f1, by simpa using f2, f3⟩
  have k5 : ∀ (r p : List α) (s : List α) (k : Nat), p ++ r = a → p.length + s.length ≤ 140737488355328 → r.length ≤ s.length → r.length < k → (∀ x ∈ r, R x) →
      ∃ fil, l5 k a p.length (p ++ s) = some (a, fil) ∧ fil.length = p.length + s.length - a.length ∧ ∀ x ∈ fil, Z x := by
    intro r
    induction r with
    | nil =>
      intro p s k h3 h4 h5 hk _
      obtain ⟨k, rfl⟩ : ∃ j, k = j + 1 := ⟨k - 1, by omega⟩
      rw [List.append_nil] at h3
      subst h3
      rw [he5]
      obtain ⟨fil, f1, f2, f3⟩ := k9 s.length NN p.length (p ++ s) (by simp; omega) (by simp) (by omega) (by omega) (by rw [List.take_left' rfl]) (fun j x h1 h2 => by omega)
      exact ⟨fil, f1, by rw [f2]; simp, f3⟩
    | cons x r ih =>
      intro p s k h3 h4 h5 hk hR
      simp only [List.length_cons] at h5 hk
      obtain ⟨k, rfl⟩ : ∃ j, k = j + 1 := ⟨k - 1, by omega⟩
      cases s with
      | nil => simp at h5
      | cons y s =>
        have hs := hs5 k p r x p s y (hR x (by simp)) rfl (by simp only [List.length_cons] at h4 h5; omega) (by simp only [List.length_cons] at h4; omega)
        rw [h3] at hs
        rw [hs]
        obtain ⟨fil, f1, f2, f3⟩ := ih (p ++ [x]) s k (by rw [← h3]; simp) (by simp only [List.length_append, List.length_cons, List.length_nil] at h4 ⊢; omega) (by simp only [List.length_cons] at h5; omega) (by omega) (fun z hz => hR z (by simp [hz]))
        rw [mid_snoc, snoc_len] at f1
        exact ⟨fil, f1, by rw [f2]; simp only [List.length_append, List.length_cons, List.length_nil]; omega, f3⟩
  obtain ⟨fil, f1, f2, f3⟩ := k5 a [] out k rfl (by simpa using hb) h hk ha
  exact ⟨fil, by simpa using f1, by simpa using f2, f3⟩

/-- Rows that are marked, and looked at afterwards. -/
theorem mark_held {α : Type} {Q : α → Prop} (l : Nat → List α → Int → Int → Option (Int × List α)) (lh : Nat → List α → Int → Int → Option Int) (C : Nat) (K : Int)
    (he : ∀ k p n, l (k + 1) p n p.length = some (n, p)) (heh : ∀ k p n, lh (k + 1) p n p.length = some n)
    (hs : ∀ x, Q x → ∀ n, 0 ≤ n → n ≤ K → ∃ x' n', n ≤ n' ∧ n' ≤ n + C ∧ (∀ k p r, p.length + r.length + 1 ≤ 1000000 → l (k + 1) (p ++ x :: r) n p.length = l k (p ++ x' :: r) n' ((p.length : Int) + 1))
      ∧ (∀ k p r, p.length + r.length + 1 ≤ 1000000 → lh (k + 1) (p ++ x' :: r) n p.length = lh k (p ++ x' :: r) n' ((p.length : Int) + 1)))
    (a : List α) (ha : Lm Q a) (n : Int) (h0 : 0 ≤ n) (h1 : n + (1000000 * C : Nat) ≤ K) (k kh : Nat) (hk : 1000000 < k) (hkh : 1000000 < kh) :
    ∃ n' a', l k a n 0 = some (n', a') ∧ lh kh a' n 0 = some n' ∧ n ≤ n' ∧ n' ≤ n + (1000000 * C : Nat) := by
  have key : ∀ (r p : List α) (k : Nat) (n : Int), p.length + r.length ≤ 1000000 → (∀ x ∈ r, Q x) → 0 ≤ n → n + ((r.length * C : Nat) : Int) ≤ K → r.length < k →
      ∃ n' r', l k (p ++ r) n p.length = some (n', p ++ r') ∧ r'.length = r.length ∧ n ≤ n' ∧ n' ≤ n + ((r.length * C : Nat) : Int) ∧ (∀ (q : List α) kh, q.length = p.length → r.length < kh → lh kh (q ++ r') n q.length = some n') := by
    intro r
    induction r with
    | nil =>
      intro p k n _ _ h0 _ hk
      obtain ⟨k, rfl⟩ : ∃ j, k = j + 1 := ⟨k - 1, by omega⟩
      refine ⟨n, [], by rw [List.append_nil]; exact he k p n, rfl, by omega, by simp, fun q kh _ hkh => ?_⟩
      obtain ⟨kh, rfl⟩ : ∃ j, kh = j + 1 := ⟨kh - 1, by simp at hkh; omega⟩
      rw [List.append_nil]; exact heh kh q n
    | cons x r ih =>
      intro p k n hb hq h0 hK hk
      simp only [List.length_cons] at hk hb hK
      obtain ⟨k, rfl⟩ : ∃ j, k = j + 1 := ⟨k - 1, by omega⟩
      have hm : (r.length + 1) * C = r.length * C + C := by rw [Nat.add_mul, Nat.one_mul]
      rw [hm] at hK
      obtain ⟨x', n1, a1, a2, a3, a4⟩ := hs x (hq x (by simp)) n h0 (by omega)
      rw [a3 k p r (by omega)]
      obtain ⟨n', r', b1, b2, b3, b4, b5⟩ := ih (p ++ [x']) k n1 (by simp; omega) (fun y hy => hq y (by simp [hy])) (by omega) (by omega) (by omega)
      rw [mid_snoc, snoc_len] at b1
      refine ⟨n', x' :: r', by rw [b1]; simp, by simp [b2], by omega, by simp only [List.length_cons]; rw [hm]; omega, fun q kh hq' hkh => ?_⟩
      simp only [List.length_cons] at hkh
      obtain ⟨kh, rfl⟩ : ∃ j, kh = j + 1 := ⟨kh - 1, by omega⟩
      rw [a4 kh q r' (by omega)]
      have := b5 (q ++ [x']) kh (by simp [hq']) (by omega)
      rw [mid_snoc, snoc_len] at this
      exact this
  have hle : ((a.length * C : Nat) : Int) ≤ ((1000000 * C : Nat) : Int) := Int.ofNat_le.2 (Nat.mul_le_mul_right _ ha.1)
  obtain ⟨n', r', b1, b2, b3, b4, b5⟩ := key a [] k n (by simpa using ha.1) ha.2 h0 (by omega) (by have := ha.1; omega)
  have := b5 [] kh rfl (by have := ha.1; omega)
  exact ⟨n', r', by simpa using b1, by simpa using this, b3, by omega⟩
theorem mem_mid {α : Type} {a p r : List α} {x : α} (h : a = p ++ x :: r) : x ∈ a := by rw [h]; simp
end Go.Pl

/- Loops of a few sorts, and what they come to. -/
namespace Go.Pl
open Go.Ev
set_option linter.unusedVariables false

/-- false at the first element that fails -/
theorem all_loop {α : Type} {E : α → Prop} (P : α → Bool) (fin : List α → Option Bool) (l : Nat → List α → Int → Option Bool)
    (hn : ∀ k p, l (k + 1) p p.length = fin p)
    (hc : ∀ k p a r, E a → (0 : Int) ≤ (p.length : Int) → (p.length : Int) < ((p ++ a :: r).length : Int) → IntKind.i64.wrap ((p.length : Int) + 1) = (p.length : Int) + 1 → l (k + 1) (p ++ a :: r) p.length = if P a = true then l k (p ++ a :: r) ((p.length : Int) + 1) else some false)
    (xs : List α) (hE : ∀ x ∈ xs, E x) (hB : xs.length ≤ 140737488355328) (k : Nat) (hk : xs.length < k) : l k xs 0 = if xs.all P = true then fin xs else some false := by
  have key : ∀ (r p : List α) (k : Nat), p.length + r.length ≤ 140737488355328 → (∀ x ∈ r, E x) → r.length < k → l k (p ++ r) p.length = if r.all P = true then fin (p ++ r) else some false := by
    intro r
    induction r with
    | nil =>
      intro p k _ _ hk
      obtain ⟨k, rfl⟩ : ∃ j, k = j + 1 := ⟨k - 1, by omega⟩
      rw [List.append_nil, hn]; simp
    | cons a r ih =>
      intro p k hb he hk
      simp only [List.length_cons] at hk hb
      obtain ⟨k, rfl⟩ : ∃ j, k = j + 1 := ⟨k - 1, by omega⟩
      have hm := mid_len p r a
      rw [hc k p a r (he a (by simp)) (by omega) (by omega) (w64 (by omega) (by omega))]
      have := ih (p ++ [a]) k (by simp; omega) (fun y hy => he y (by simp [hy])) (by omega)
      rw [mid_snoc, snoc_len] at this
      rw [this]
      cases h : P a <;> simp [h]
  have := key xs [] k (by simpa using hB) hE hk
  simpa using this
/-- the same over a string's bytes -/
theorem all_loop_str (P : UInt8 → Bool) (fin : ByteArray → Option Bool) (l : Nat → ByteArray → Int → Option Bool)
    (hn : ∀ k p, l (k + 1) (ob p) p.length = fin (ob p))
    (hc : ∀ k p a r, (0 : Int) ≤ (p.length : Int) → (p.length : Int) < ((ob (p ++ a :: r)).size : Int) → IntKind.i64.wrap ((p.length : Int) + 1) = (p.length : Int) + 1 → l (k + 1) (ob (p ++ a :: r)) p.length = if P a = true then l k (ob (p ++ a :: r)) ((p.length : Int) + 1) else some false)
    (s : ByteArray) (hB : s.size ≤ 140737488355328) (k : Nat) (hk : s.size < k) : l k s 0 = if (bl s).all P = true then fin s else some false := by
  have := all_loop (E := fun _ => True) P (fun x => fin (ob x)) (fun k x i => l k (ob x) i) hn (fun k p a r _ h1 h2 h3 => hc k p a r h1 (by rw [ob_size]; exact h2) h3) (bl s) (fun _ _ => trivial) (by rw [bl_length]; exact hB) k (by rw [bl_length]; exact hk)
  rw [ob_bl] at this
  exact this

def foldi {α σ : Type} (f : Nat → σ → α → σ) : Nat → σ → List α → σ
  | _, st, [] => st
  | i, st, a :: r => foldi f (i + 1) (f i st a) r
theorem foldi_foldl {α σ : Type} (f : σ → α → σ) : ∀ (xs : List α) (i : Nat) (st : σ), foldi (fun _ => f) i st xs = xs.foldl f st := by
  intro xs
  induction xs with
  | nil => intro i st; rfl
  | cons a r ih => intro i st; exact ih _ _
theorem foldi_append {α σ : Type} (f : Nat → σ → α → σ) : ∀ (xs ys : List α) (i : Nat) (st : σ), foldi f i st (xs ++ ys) = foldi f (i + xs.length) (foldi f i st xs) ys := by
  intro xs
  induction xs with
  | nil => intro ys i st; rfl
  | cons a r ih => intro ys i st; simp only [List.cons_append, foldi, List.length_cons]; rw [ih, show i + 1 + r.length = i + (r.length + 1) by omega]
/-- a state that goes from element to element; I: what holds of it behind a part of the row -/
theorem fold_loop {α σ ρ : Type} {E : α → Prop} (I : List α → σ → Prop) (f : Nat → σ → α → σ) (fin : List α → σ → Option ρ) (l : Nat → List α → Int → σ → Option ρ)
    (hn : ∀ k p st, I p st → l (k + 1) p p.length st = fin p st)
    (hc : ∀ k p a r st, E a → I p st → (0 : Int) ≤ (p.length : Int) → (p.length : Int) < ((p ++ a :: r).length : Int) → p.length < 140737488355328 → IntKind.i64.wrap ((p.length : Int) + 1) = (p.length : Int) + 1 →
      I (p ++ [a]) (f p.length st a) ∧ l (k + 1) (p ++ a :: r) p.length st = l k (p ++ a :: r) ((p.length : Int) + 1) (f p.length st a))
    (xs : List α) (st : σ) (hE : ∀ x ∈ xs, E x) (hI : I [] st) (hB : xs.length ≤ 140737488355328) (k : Nat) (hk : xs.length < k) :
    I xs (foldi f 0 st xs) ∧ l k xs 0 st = fin xs (foldi f 0 st xs) := by
  have key : ∀ (r p : List α) (k : Nat) (st : σ), p.length + r.length ≤ 140737488355328 → (∀ x ∈ r, E x) → I p st → r.length < k → I (p ++ r) (foldi f p.length st r) ∧ l k (p ++ r) p.length st = fin (p ++ r) (foldi f p.length st r) := by
    intro r
    induction r with
    | nil =>
      intro p k st _ _ hI hk
      obtain ⟨k, rfl⟩ : ∃ j, k = j + 1 := ⟨k - 1, by omega⟩
      rw [List.append_nil]; exact ⟨hI, hn k p st hI⟩
    | cons a r ih =>
      intro p k st hb he hI hk
      simp only [List.length_cons] at hk hb
      obtain ⟨k, rfl⟩ : ∃ j, k = j + 1 := ⟨k - 1, by omega⟩
      have hm := mid_len p r a
      obtain ⟨h1, h2⟩ := hc k p a r st (he a (by simp)) hI (by omega) (by omega) (by omega) (w64 (by omega) (by omega))
      have := ih (p ++ [a]) k (f p.length st a) (by simp; omega) (fun y hy => he y (by simp [hy])) h1 (by omega)
      rw [mid_snoc, snoc_len] at this
      rw [h2]
      simpa [foldi] using this
  have := key xs [] k st (by simpa using hB) hE hI hk
  simpa using this
/-- the same over a string's bytes -/
theorem fold_loop_str {σ ρ : Type} (I : List UInt8 → σ → Prop) (f : Nat → σ → UInt8 → σ) (fin : ByteArray → σ → Option ρ) (l : Nat → ByteArray → Int → σ → Option ρ)
    (hn : ∀ k p st, I p st → l (k + 1) (ob p) p.length st = fin (ob p) st)
    (hc : ∀ k p a r st, I p st → (0 : Int) ≤ (p.length : Int) → (p.length : Int) < ((ob (p ++ a :: r)).size : Int) → p.length < 140737488355328 → IntKind.i64.wrap ((p.length : Int) + 1) = (p.length : Int) + 1 →
      I (p ++ [a]) (f p.length st a) ∧ l (k + 1) (ob (p ++ a :: r)) p.length st = l k (ob (p ++ a :: r)) ((p.length : Int) + 1) (f p.length st a))
    (s : ByteArray) (st : σ) (hI : I [] st) (hB : s.size ≤ 140737488355328) (k : Nat) (hk : s.size < k) :
    I (bl s) (foldi f 0 st (bl s)) ∧ l k s 0 st = fin s (foldi f 0 st (bl s)) := by
  have := fold_loop (E := fun _ => True) I f (fun x => fin (ob x)) (fun k x i st => l k (ob x) i st) hn (fun k p a r st _ hI h1 h2 h3 h4 => hc k p a r st hI h1 (by rw [ob_size]; exact h2) h3 h4) (bl s) st (fun _ _ => trivial) hI (by rw [bl_length]; exact hB) k (by rw [bl_length]; exact hk)
  rw [ob_bl] at this
  exact this
/-- fold_loop, of one row: the rounds may look at it as a whole -/
theorem fold_fix {α σ ρ : Type} {E : α → Prop} (I : List α → σ → Prop) (f : Nat → σ → α → σ) (fin : σ → Option ρ) (l : Nat → Int → σ → Option ρ) (xs : List α)
    (hn : ∀ k st, I xs st → l (k + 1) xs.length st = fin st)
    (hc : ∀ k p a r st, xs = p ++ a :: r → E a → I p st → (0 : Int) ≤ (p.length : Int) → (p.length : Int) < (xs.length : Int) → p.length < 140737488355328 → IntKind.i64.wrap ((p.length : Int) + 1) = (p.length : Int) + 1 → (∀ z, xs.getD p.length z = a) →
      I (p ++ [a]) (f p.length st a) ∧ l (k + 1) p.length st = l k ((p.length : Int) + 1) (f p.length st a))
    (st : σ) (hE : ∀ x ∈ xs, E x) (hI : I [] st) (hB : xs.length ≤ 140737488355328) (k : Nat) (hk : xs.length < k) :
    I xs (foldi f 0 st xs) ∧ l k 0 st = fin (foldi f 0 st xs) := by
  have key : ∀ (r p : List α) (k : Nat) (st : σ), xs = p ++ r → (∀ x ∈ r, E x) → I p st → r.length < k → I xs (foldi f p.length st r) ∧ l k p.length st = fin (foldi f p.length st r) := by
    intro r
    induction r with
    | nil =>
      intro p k st hx _ hI hk
      obtain ⟨k, rfl⟩ : ∃ j, k = j + 1 := ⟨k - 1, by omega⟩
      rw [List.append_nil] at hx
      subst hx; exact ⟨hI, hn k st hI⟩
    | cons a r ih =>
      intro p k st hx he hI hk
      simp only [List.length_cons] at hk
      obtain ⟨k, rfl⟩ : ∃ j, k = j + 1 := ⟨k - 1, by omega⟩
      have hm := mid_len p r a
      have hxl : (xs.length : Int) = ((p ++ a :: r).length : Int) := by rw [hx]
      obtain ⟨h1, h2⟩ := hc k p a r st hx (he a (by simp)) hI (by omega) (by omega) (by omega) (w64 (by omega) (by omega)) (fun z => by rw [hx, mid_getn])
      have := ih (p ++ [a]) k (f p.length st a) (by rw [hx]; simp) (fun y hy => he y (by simp [hy])) h1 (by omega)
      rw [snoc_len] at this
      rw [h2]
      simpa [foldi] using this
  have := key xs [] k st (by simp) hE hI hk
  simpa using this
/-- the first element that is looked for, and its number -/
def firstOf {α : Type} (P : α → Bool) : Nat → List α → Option (Nat × α)
  | _, [] => none
  | i, a :: r => if P a = true then some (i, a) else firstOf P (i + 1) r
theorem find_loop {α ρ : Type} {E : α → Prop} (P : α → Bool) (hit : Nat → α → Option ρ) (fin : List α → Option ρ) (l : Nat → List α → Int → Option ρ)
    (hn : ∀ k p, l (k + 1) p p.length = fin p)
    (hc : ∀ k p a r, E a → (0 : Int) ≤ (p.length : Int) → (p.length : Int) < ((p ++ a :: r).length : Int) → p.length < 140737488355328 → IntKind.i64.wrap ((p.length : Int) + 1) = (p.length : Int) + 1 → l (k + 1) (p ++ a :: r) p.length = if P a = true then hit p.length a else l k (p ++ a :: r) ((p.length : Int) + 1))
    (xs : List α) (hE : ∀ x ∈ xs, E x) (hB : xs.length ≤ 140737488355328) (k : Nat) (hk : xs.length < k) : l k xs 0 = (firstOf P 0 xs).elim (fin xs) (fun x => hit x.1 x.2) := by
  have key : ∀ (r p : List α) (k : Nat), p.length + r.length ≤ 140737488355328 → (∀ x ∈ r, E x) → r.length < k → l k (p ++ r) p.length = (firstOf P p.length r).elim (fin (p ++ r)) (fun x => hit x.1 x.2) := by
    intro r
    induction r with
    | nil =>
      intro p k _ _ hk
      obtain ⟨k, rfl⟩ : ∃ j, k = j + 1 := ⟨k - 1, by omega⟩
      rw [List.append_nil, hn]; rfl
    | cons a r ih =>
      intro p k hb he hk
      simp only [List.length_cons] at hk hb
      obtain ⟨k, rfl⟩ : ∃ j, k = j + 1 := ⟨k - 1, by omega⟩
      have hm := mid_len p r a
      rw [hc k p a r (he a (by simp)) (by omega) (by omega) (by omega) (w64 (by omega) (by omega))]
      have := ih (p ++ [a]) k (by simp; omega) (fun y hy => he y (by simp [hy])) (by omega)
      rw [mid_snoc, snoc_len] at this
      rw [this]
      cases h : P a <;> simp [h, firstOf]
  have := key xs [] k (by simpa using hB) hE hk
  simpa using this
end Go.Pl

namespace Go.Pl
open Go.Ev
set_option linter.unusedVariables false
set_option linter.unusedSimpArgs false
/-- a source of numbers -/
def SrcOk (s : List Int × Int × Int) : Prop := s.1.length ≤ 4096 ∧ (∀ c ∈ s.1, 0 ≤ c ∧ c ≤ 255) ∧ (0 ≤ s.2.1 ∧ s.2.1 ≤ (s.1.length : Int)) ∧ 0 ≤ s.2.2 ∧ s.2.2 < 2147483647
theorem tmod_bd {a n : Int} (h : 0 ≤ a) (hn : 0 < n) : 0 ≤ Int.tmod a n ∧ Int.tmod a n < n := by
  rw [Int.tmod_eq_emod_of_nonneg h]
  exact ⟨Int.emod_nonneg _ (by omega), Int.emod_lt_of_pos _ hn⟩
theorem getD_mem {xs : List Int} {i : Nat} (h : i < xs.length) : xs.getD i 0 ∈ xs := by
  rw [List.getD_eq_getElem?_getD, List.getElem?_eq_getElem h]; exact List.getElem_mem h
theorem next_ok {s : List Int × Int × Int} (hs : SrcOk s) (n : Int) (hn : n ≤ 1000000000000000) : ∃ x s', spec_l01Next.f s n = some (x, s') ∧ SrcOk s' ∧ 0 ≤ x ∧ (x < n ∨ x = 0) := by
  obtain ⟨code, at_, seed⟩ := s
  obtain ⟨h1, h2, h3, h4, h5⟩ := hs
  simp only at h1 h2 h3 h4 h5
  unfold spec_l01Next.f spec_l01Next.fn spec_l01Next.top
  by_cases hn1 : n ≤ 1
  · simp only [hn1, decide_true, if_true]
    exact ⟨0, _, rfl, ⟨h1, h2, h3, h4, h5⟩, by omega, .inr rfl⟩
  have w1 := w64 (n := seed * 48271) (by omega) (by omega)
  have w2 := w64 (n := seed * 48271 + 29) (by omega) (by omega)
  have hm := @tmod_bd (seed * 48271 + 29) 2147483647 (by omega) (by omega)
  have hd : Int.tdiv (Int.tmod (seed * 48271 + 29) 2147483647) 31 = Int.tmod (seed * 48271 + 29) 2147483647 / 31 := Int.tdiv_eq_ediv_of_nonneg hm.1
  have w3 := w64 (n := Int.tdiv (Int.tmod (seed * 48271 + 29) 2147483647) 31) (by omega) (by omega)
  have w4 := w64 (n := at_ + 1) (by omega) (by omega)
  have w5 := w64 (n := at_ + 1 - 1) (by omega) (by omega)
  have hnz : ¬ n = 0 := by omega
  simp only [hn1, decide_false, Bool.false_eq_true, if_false, w1, w2, w3, w4, w5, hnz, decide_eq_true_eq]
  by_cases ha : at_ < (code.length : Int)
  · have hc := h2 _ (getD_mem (show at_.toNat < code.length by omega))
    have hc' : (0 : Int) ≤ at_ + 1 - 1 ∧ at_ + 1 - 1 < (code.length : Int) := by omega
    have e1 : (at_ + 1 - 1).toNat = at_.toNat := by omega
    have w6 := w64 (n := code.getD at_.toNat 0) (by omega) (by omega)
    have w7 := w64 (n := Int.tdiv (Int.tmod (seed * 48271 + 29) 2147483647) 31 + code.getD at_.toNat 0) (by omega) (by omega)
    have b1 := @tmod_bd (code.getD at_.toNat 0) n hc.1 (by omega)
    have b2 := @tmod_bd (Int.tdiv (Int.tmod (seed * 48271 + 29) 2147483647) 31 + code.getD at_.toNat 0) n (by omega) (by omega)
    have hs' : SrcOk (code, at_ + 1, Int.tmod (seed * 48271 + 29) 2147483647) := ⟨h1, h2, ⟨by simp only; omega, by simp only; omega⟩, hm.1, hm.2⟩
    simp only [ha, h3.1, and_self, if_true, hc', e1, w6, w7]
    by_cases h256 : n ≤ 256
    · simp only [h256, if_true]
      split
      · exact ⟨_, _, rfl, hs', b1.1, .inl b1.2⟩
      · exact ⟨_, _, rfl, hs', b2.1, .inl b2.2⟩
    · simp only [h256, if_false]
      exact ⟨_, _, rfl, hs', b2.1, .inl b2.2⟩
  · have b3 := @tmod_bd (Int.tdiv (Int.tmod (seed * 48271 + 29) 2147483647) 31) n (by omega) (by omega)
    simp only [ha, if_false]
    exact ⟨_, _, rfl, ⟨h1, h2, h3, hm.1, hm.2⟩, b3.1, .inl b3.2⟩
theorem pick_ok {s : List Int × Int × Int} (hs : SrcOk s) (xs : List Int) (h : 1 ≤ xs.length) (hl : xs.length ≤ 1000) : ∃ x s', spec_l01Pick.f s xs = some (x, s') ∧ SrcOk s' ∧ x ∈ xs := by
  obtain ⟨x, s', e, h1, h2, h3⟩ := next_ok hs (xs.length : Int) (by omega)
  have hx : x < (xs.length : Int) := by omega
  unfold spec_l01Pick.f spec_l01Pick.fn spec_l01Pick.top
  rw [e]
  simp only [Option.bind_some, h2, hx, and_self, if_true]
  exact ⟨_, _, rfl, h1, getD_mem (by omega)⟩
theorem from_l (code : List Int) (hl : code.length ≤ 4096) (hc : ∀ c ∈ code, 0 ≤ c ∧ c ≤ 255) (c : List Int) (b : Int) : ∀ (d i k : Nat) (seed : Int), i + d = code.length → d < k → 0 ≤ seed → seed < 2147483647 → ∃ seed', spec_l01From.l3 NN k code i c b seed = some (c, b, seed') ∧ 0 ≤ seed' ∧ seed' < 2147483647 := by
  intro d
  induction d with
  | zero =>
    intro i k seed hi hk h0 h1
    obtain ⟨k, rfl⟩ : ∃ j, k = j + 1 := ⟨k - 1, by omega⟩
    have n1 : ¬ (i : Int) < (code.length : Int) := by omega
    exact ⟨seed, by simp only [spec_l01From.l3, spec_l01From.g3, n1, decide_false, Bool.false_eq_true, if_false], h0, h1⟩
  | succ d ih =>
    intro i k seed hi hk h0 h1
    obtain ⟨k, rfl⟩ : ∃ j, k = j + 1 := ⟨k - 1, by omega⟩
    have n1 : (i : Int) < (code.length : Int) := by omega
    by_cases h64 : (i : Int) < 64
    · have hcc := hc _ (getD_mem (show i < code.length by omega))
      have w1 := w64 (n := seed * 83) (by omega) (by omega)
      have w2 := w64 (n := code.getD i 0) (by omega) (by omega)
      have w3 := w64 (n := seed * 83 + code.getD i 0) (by omega) (by omega)
      have w4 := w64 (n := (i : Int) + 1) (by omega) (by omega)
      have hm := @tmod_bd (seed * 83 + code.getD i 0) 2147483647 (by omega) (by omega)
      obtain ⟨s', e1, e2⟩ := ih (i + 1) k (Int.tmod (seed * 83 + code.getD i 0) 2147483647) (by omega) (by omega) hm.1 hm.2
      refine ⟨s', ?_, e2⟩
      simp only [spec_l01From.l3, spec_l01From.g3, n1, h64, decide_true, if_true, Int.toNat_natCast, w1, w2, w3, w4, show (0 : Int) ≤ (i : Int) from by omega, and_self]
      exact e1
    · exact ⟨seed, by simp only [spec_l01From.l3, spec_l01From.g3, n1, h64, decide_true, if_true, decide_false, Bool.false_eq_true, if_false], h0, h1⟩
def CodeOk (code : List Int) : Prop := code.length ≤ 4096 ∧ ∀ c ∈ code, 0 ≤ c ∧ c ≤ 255
theorem from_ok {code : List Int} (h : CodeOk code) : ∃ s, spec_l01From.f code = some s ∧ SrcOk s := by
  obtain ⟨s', e, h1, h2⟩ := from_l code h.1 h.2 code 0 code.length 0 NN 61043 (by omega) (by have := h.1; exact NN_lt (by omega)) (by omega) (by omega)
  exact ⟨(code, 0, s'), e, h.1, h.2, ⟨by simp only; omega, by simp only; omega⟩, h1, h2⟩
theorem big_f (code : List Int) : laws_big.f code = some (decide ((4096 : Int) < (code.length : Int))) := rfl
theorem code_of {code : List Int} (h : Ls (Rg .u8) code) (hb : ¬ (4096 : Int) < (code.length : Int)) : CodeOk code := ⟨by omega, fun c hc => wf8.1 (h.2 c hc)⟩
end Go.Pl

namespace Go.Pl
open Go.Ev
set_option linter.unusedVariables false
noncomputable section
def impl_IsWord.g4 (L4 : ByteArray → Int → Option Bool) (s0 : ByteArray) (i3 : Int) : Option Bool :=
  if (decide ((i3 : Int) < (s0.size : Int))) = true then
    if (0 : Int) ≤ i3 ∧ (i3 : Int) < s0.size then
      if (decide (((bt s0 i3) : Int) < 97)) = false then
        if (0 : Int) ≤ i3 ∧ (i3 : Int) < s0.size then
          if (decide ((122 : Int) < (bt s0 i3))) = true then
            some false
          else
            L4 s0 (IntKind.i64.wrap (i3 + 1))
        else
          none
      else
        some false
    else
      none
  else
    some true
def impl_IsWord.l4 (n : Nat) : Nat → ByteArray → Int → Option Bool
  | 0 => fun _ _ => none
  | k + 1 => impl_IsWord.g4 (impl_IsWord.l4 n k)
def impl_IsWord.top (I4 : ByteArray → Int → Option Bool) (s0 : ByteArray) : Option Bool :=
  if (decide (((s0.size : Int) : Int) < 1)) = false then
    if (decide ((16 : Int) < (s0.size : Int))) = true then
      some false
    else
      I4 s0 0
  else
    some false
def impl_IsWord.fn (n : Nat) (s0 : ByteArray) : Option Bool := impl_IsWord.top (impl_IsWord.l4 n n) s0
def impl_IsWord.f (s0 : ByteArray) : Option Bool := impl_IsWord.fn NN s0
end
end Go.Pl

namespace Go.Pl
open Go.Ev
set_option linter.unusedVariables false
noncomputable section
def spec_IsWord.g2 (L2 : ByteArray → Int → Option Bool) (s0 : ByteArray) (i3 : Int) : Option Bool :=
  if (decide ((i3 : Int) < (s0.size : Int))) = true then
    if (0 : Int) ≤ i3 ∧ (i3 : Int) < s0.size then
      if (decide (((bt s0 i3) : Int) < 97)) = false then
        if (0 : Int) ≤ i3 ∧ (i3 : Int) < s0.size then
          if (decide ((122 : Int) < (bt s0 i3))) = true then
            some false
          else
            L2 s0 (IntKind.i64.wrap (i3 + 1))
        else
          none
      else
        some false
    else
      none
  else
    (spec_l01In.f (s0.size : Int) 1 16).bind fun r1 =>
    some r1
def spec_IsWord.l2 (n : Nat) : Nat → ByteArray → Int → Option Bool
  | 0 => fun _ _ => none
  | k + 1 => spec_IsWord.g2 (spec_IsWord.l2 n k)
def spec_IsWord.top (I2 : ByteArray → Int → Option Bool) (s0 : ByteArray) : Option Bool :=
  I2 s0 0
def spec_IsWord.fn (n : Nat) (s0 : ByteArray) : Option Bool := spec_IsWord.top (spec_IsWord.l2 n n) s0
def spec_IsWord.f (s0 : ByteArray) : Option Bool := spec_IsWord.fn NN s0
end
end Go.Pl

namespace Go.Pl
open Go.Ev
set_option linter.unusedVariables false
set_option linter.unusedSimpArgs false
def inB (n lo hi : Int) : Bool := decide (lo ≤ n) && decide (n ≤ hi)
theorem inB_iff {n lo hi : Int} : inB n lo hi = true ↔ lo ≤ n ∧ n ≤ hi := by unfold inB; simp
theorem impl_within_f (n lo hi : Int) : impl_within.f n lo hi = some (inB n lo hi) := by
  unfold impl_within.f impl_within.fn impl_within.top inB
  by_cases h : lo ≤ n <;> simp [h]
theorem spec_l01In_f (n lo hi : Int) : spec_l01In.f n lo hi = some (inB n lo hi) := by
  unfold spec_l01In.f spec_l01In.fn spec_l01In.top inB
  by_cases h : lo ≤ n <;> simp [h]
/-- a letter -/
def letB (c : UInt8) : Bool := !(decide ((c.toNat : Int) < 97)) && !(decide (122 < (c.toNat : Int)))
def wordB (s : ByteArray) : Bool := decide (1 ≤ s.size) && decide (s.size ≤ 16) && (bl s).all letB
theorem wordB_size {s : ByteArray} (h : wordB s = true) : 1 ≤ s.size ∧ s.size ≤ 16 := by
  unfold wordB at h; simp at h; exact h.1
theorem impl_IsWord_loop (s : ByteArray) (h : s.size ≤ 140737488355328) : impl_IsWord.l4 NN NN s 0 = if (bl s).all letB = true then some true else some false := by
  refine all_loop_str letB (fun s => some true) (fun k s i => impl_IsWord.l4 NN k s i) ?_ ?_ s h NN (NN_lt (by omega))
  · intro k p
    show impl_IsWord.g4 _ (ob p) p.length = _
    simp [impl_IsWord.g4, ob_size, spec_l01In_f]
  · intro k p a r c0 c1 cw
    show impl_IsWord.g4 (impl_IsWord.l4 NN k) (ob (p ++ a :: r)) p.length = _
    simp only [impl_IsWord.g4, c0, c1, cw, and_self, and_true, true_and, decide_true, decide_false, if_true, if_false, mid_get, mid_set, mid_getn, mid_setn, bt_mid, Option.bind_some, Bool.not_true, Bool.not_false, Bool.false_eq_true, Bool.true_eq_false, beq_self_eq_true, bne_self_eq_false, Int.toNat_natCast]
    unfold letB
    by_cases h1 : (a.toNat : Int) < 97 <;> by_cases h2 : (122 : Int) < (a.toNat : Int) <;> simp [h1, h2]
theorem spec_IsWord_loop (s : ByteArray) (h : s.size ≤ 140737488355328) : spec_IsWord.l2 NN NN s 0 = if (bl s).all letB = true then some (inB s.size 1 16) else some false := by
  refine all_loop_str letB (fun s => some (inB s.size 1 16)) (fun k s i => spec_IsWord.l2 NN k s i) ?_ ?_ s h NN (NN_lt (by omega))
  · intro k p
    show spec_IsWord.g2 _ (ob p) p.length = _
    simp [spec_IsWord.g2, ob_size, spec_l01In_f]
  · intro k p a r c0 c1 cw
    show spec_IsWord.g2 (spec_IsWord.l2 NN k) (ob (p ++ a :: r)) p.length = _
    simp only [spec_IsWord.g2, c0, c1, cw, and_self, and_true, true_and, decide_true, decide_false, if_true, if_false, mid_get, mid_set, mid_getn, mid_setn, bt_mid, Option.bind_some, Bool.not_true, Bool.not_false, Bool.false_eq_true, Bool.true_eq_false, beq_self_eq_true, bne_self_eq_false, Int.toNat_natCast]
    unfold letB
    by_cases h1 : (a.toNat : Int) < 97 <;> by_cases h2 : (122 : Int) < (a.toNat : Int) <;> simp [h1, h2]
theorem impl_IsWord_f (s : ByteArray) (h : s.size ≤ 140737488355328) : impl_IsWord.f s = some (wordB s) := by
  unfold impl_IsWord.f impl_IsWord.fn impl_IsWord.top
  rw [impl_IsWord_loop s h]
  unfold wordB
  by_cases h1 : (s.size : Int) < 1
  · have : ¬ 1 ≤ s.size := by omega
    simp [h1, this]
  · have e1 : 1 ≤ s.size := by omega
    by_cases h2 : (16 : Int) < s.size
    · have : ¬ s.size ≤ 16 := by omega
      simp [h1, h2, this]
    · have : s.size ≤ 16 := by omega
      cases h3 : (bl s).all letB <;> simp [h1, h2, this, h3, e1]
theorem spec_IsWord_f (s : ByteArray) (h : s.size ≤ 140737488355328) : spec_IsWord.f s = some (wordB s) := by
  unfold spec_IsWord.f spec_IsWord.fn spec_IsWord.top
  rw [spec_IsWord_loop s h]
  unfold wordB inB
  have e1 : decide ((1 : Int) ≤ s.size) = decide (1 ≤ s.size) := by congr 1; simp; omega
  have e2 : decide ((s.size : Int) ≤ 16) = decide (s.size ≤ 16) := by congr 1; simp; omega
  rw [e1, e2]
  cases h3 : (bl s).all letB <;> simp
end Go.Pl

namespace Go.Pl
open Go.Ev
set_option linter.unusedVariables false
set_option linter.unusedSimpArgs false
def PlRatio (x : Int × Int) : Prop := Rg .i64 x.1 ∧ Rg .i64 x.2
def OkRatio (x : Int × Int) : Prop := Rg .i64 x.1 ∧ Rg .i64 x.2
def PlArticle (x : ByteArray × Int × Int × Int × Int × Int × Int × Int × Int) : Prop := Sz x.1 ∧ Rg .i64 x.2.1 ∧ Rg .i64 x.2.2.1 ∧ Rg .i64 x.2.2.2.1 ∧ Rg .i64 x.2.2.2.2.1 ∧ Rg .i64 x.2.2.2.2.2.1 ∧ Rg .i64 x.2.2.2.2.2.2.1 ∧ Rg .i64 x.2.2.2.2.2.2.2.1 ∧ Rg .i64 x.2.2.2.2.2.2.2.2
def OkArticle (x : ByteArray × Int × Int × Int × Int × Int × Int × Int × Int) : Prop := Sm x.1 ∧ Rg .i64 x.2.1 ∧ Rg .i64 x.2.2.1 ∧ Rg .i64 x.2.2.2.1 ∧ Rg .i64 x.2.2.2.2.1 ∧ Rg .i64 x.2.2.2.2.2.1 ∧ Rg .i64 x.2.2.2.2.2.2.1 ∧ Rg .i64 x.2.2.2.2.2.2.2.1 ∧ Rg .i64 x.2.2.2.2.2.2.2.2
def PlLayer (x : Int × Int × Int) : Prop := Rg .i64 x.1 ∧ Rg .i64 x.2.1 ∧ Rg .i64 x.2.2
def OkLayer (x : Int × Int × Int) : Prop := Rg .i64 x.1 ∧ Rg .i64 x.2.1 ∧ Rg .i64 x.2.2
def PlShot (x : Int × Int × Int × Int) : Prop := Rg .i64 x.1 ∧ Rg .i64 x.2.1 ∧ Rg .i64 x.2.2.1 ∧ Rg .i64 x.2.2.2
def OkShot (x : Int × Int × Int × Int) : Prop := Rg .i64 x.1 ∧ Rg .i64 x.2.1 ∧ Rg .i64 x.2.2.1 ∧ Rg .i64 x.2.2.2
def PlBar (x : Int × Int) : Prop := Rg .i64 x.1 ∧ Rg .i64 x.2
def OkBar (x : Int × Int) : Prop := Rg .i64 x.1 ∧ Rg .i64 x.2
def PlCue (x : Int × Int × ByteArray × Int) : Prop := Rg .i64 x.1 ∧ Rg .i64 x.2.1 ∧ Sz x.2.2.1 ∧ Rg .i64 x.2.2.2
def OkCue (x : Int × Int × ByteArray × Int) : Prop := Rg .i64 x.1 ∧ Rg .i64 x.2.1 ∧ Sm x.2.2.1 ∧ Rg .i64 x.2.2.2
def PlShow (x : (List (Int × Int)) × (List (ByteArray × Int × Int × Int × Int × Int × Int × Int × Int)) × (List (Int × Int × ByteArray × Int))) : Prop := Ls PlBar x.1 ∧ Ls PlArticle x.2.1 ∧ Ls PlCue x.2.2
def OkShow (x : (List (Int × Int)) × (List (ByteArray × Int × Int × Int × Int × Int × Int × Int × Int)) × (List (Int × Int × ByteArray × Int))) : Prop := Lm OkBar x.1 ∧ Lm OkArticle x.2.1 ∧ Lm OkCue x.2.2
def PlFuse (x : Int × Int × Int × Int) : Prop := Rg .i64 x.1 ∧ Rg .i64 x.2.1 ∧ Rg .i64 x.2.2.1 ∧ Rg .i64 x.2.2.2
def OkFuse (x : Int × Int × Int × Int) : Prop := Rg .i64 x.1 ∧ Rg .i64 x.2.1 ∧ Rg .i64 x.2.2.1 ∧ Rg .i64 x.2.2.2
def PlLink (x : Int × Int) : Prop := Rg .i64 x.1 ∧ Rg .i64 x.2
def OkLink (x : Int × Int) : Prop := Rg .i64 x.1 ∧ Rg .i64 x.2
def PlModule (x : Int × Int) : Prop := Rg .i64 x.1 ∧ Rg .i64 x.2
def OkModule (x : Int × Int) : Prop := Rg .i64 x.1 ∧ Rg .i64 x.2
def PlWire (x : Int × Int × Int) : Prop := Rg .i64 x.1 ∧ Rg .i64 x.2.1 ∧ Rg .i64 x.2.2
def OkWire (x : Int × Int × Int) : Prop := Rg .i64 x.1 ∧ Rg .i64 x.2.1 ∧ Rg .i64 x.2.2
def PlCircuit (x : Int × List Int) : Prop := Rg .i64 x.1 ∧ Ls (Rg .i64) x.2
def OkCircuit (x : Int × List Int) : Prop := Rg .i64 x.1 ∧ Lm (Rg .i64) x.2
def PlArea (x : Int × Int × Int × Int × Int) : Prop := Rg .i64 x.1 ∧ Rg .i64 x.2.1 ∧ Rg .i64 x.2.2.1 ∧ Rg .i64 x.2.2.2.1 ∧ Rg .i64 x.2.2.2.2
def OkArea (x : Int × Int × Int × Int × Int) : Prop := Rg .i64 x.1 ∧ Rg .i64 x.2.1 ∧ Rg .i64 x.2.2.1 ∧ Rg .i64 x.2.2.2.1 ∧ Rg .i64 x.2.2.2.2
def PlDemand (x : Int × Int × Int) : Prop := Rg .i64 x.1 ∧ Rg .i64 x.2.1 ∧ Rg .i64 x.2.2
def OkDemand (x : Int × Int × Int) : Prop := Rg .i64 x.1 ∧ Rg .i64 x.2.1 ∧ Rg .i64 x.2.2
def PlRack (x : Int × Int × List Int × List ByteArray) : Prop := Rg .i64 x.1 ∧ Rg .i64 x.2.1 ∧ Ls (Rg .i64) x.2.2.1 ∧ Ls Sz x.2.2.2
def OkRack (x : Int × Int × List Int × List ByteArray) : Prop := Rg .i64 x.1 ∧ Rg .i64 x.2.1 ∧ Lm (Rg .i64) x.2.2.1 ∧ Lm Sm x.2.2.2
def PlField (x : (List (Int × Int × Int)) × (List (Int × Int × Int × Int × Int)) × List Int × List Int × List Int × Int) : Prop := Ls PlDemand x.1 ∧ Ls PlArea x.2.1 ∧ Ls (Rg .i64) x.2.2.1 ∧ Ls (Rg .i64) x.2.2.2.1 ∧ Ls (Rg .i64) x.2.2.2.2.1 ∧ Rg .i64 x.2.2.2.2.2
def OkField (x : (List (Int × Int × Int)) × (List (Int × Int × Int × Int × Int)) × List Int × List Int × List Int × Int) : Prop := Lm OkDemand x.1 ∧ Lm OkArea x.2.1 ∧ Lm (Rg .i64) x.2.2.1 ∧ Lm (Rg .i64) x.2.2.2.1 ∧ Lm (Rg .i64) x.2.2.2.2.1 ∧ Rg .i64 x.2.2.2.2.2
def PlMove (x : Int × ByteArray × Int) : Prop := Rg .i64 x.1 ∧ Sz x.2.1 ∧ Rg .i64 x.2.2
def OkMove (x : Int × ByteArray × Int) : Prop := Rg .i64 x.1 ∧ Sm x.2.1 ∧ Rg .i64 x.2.2
def PlController (x : Bool × Bool × Bool × Bool × Bool × Int) : Prop := True ∧ True ∧ True ∧ True ∧ True ∧ Rg .i64 x.2.2.2.2.2
def OkController (x : Bool × Bool × Bool × Bool × Bool × Int) : Prop := True ∧ True ∧ True ∧ True ∧ True ∧ Rg .i64 x.2.2.2.2.2
def PlSignal (x : Int × Int) : Prop := Rg .i64 x.1 ∧ Rg .i64 x.2
def OkSignal (x : Int × Int) : Prop := Rg .i64 x.1 ∧ Rg .i64 x.2
def PlTry (x : Int × Int × Bool) : Prop := Rg .i64 x.1 ∧ Rg .i64 x.2.1 ∧ True
def OkTry (x : Int × Int × Bool) : Prop := Rg .i64 x.1 ∧ Rg .i64 x.2.1 ∧ True
def PlMagazine (x : Int × List Int) : Prop := Rg .i64 x.1 ∧ Ls (Rg .i64) x.2
def OkMagazine (x : Int × List Int) : Prop := Rg .i64 x.1 ∧ Lm (Rg .i64) x.2
def PlDepot (x : Int × Int × Int) : Prop := Rg .i64 x.1 ∧ Rg .i64 x.2.1 ∧ Rg .i64 x.2.2
def OkDepot (x : Int × Int × Int) : Prop := Rg .i64 x.1 ∧ Rg .i64 x.2.1 ∧ Rg .i64 x.2.2
def PlBox (x : Int × Int) : Prop := Rg .i64 x.1 ∧ Rg .i64 x.2
def OkBox (x : Int × Int) : Prop := Rg .i64 x.1 ∧ Rg .i64 x.2
def PlLine (x : ByteArray × Int) : Prop := Sz x.1 ∧ Rg .i64 x.2
def OkLine (x : ByteArray × Int) : Prop := Sm x.1 ∧ Rg .i64 x.2
def PlPaper (x : ByteArray × Int × (List (ByteArray × Int))) : Prop := Sz x.1 ∧ Rg .i64 x.2.1 ∧ Ls PlLine x.2.2
def OkPaper (x : ByteArray × Int × (List (ByteArray × Int))) : Prop := Sm x.1 ∧ Rg .i64 x.2.1 ∧ Lm OkLine x.2.2
def PlPermit (x : Int × Int × Int × Int × List Int × Int) : Prop := Rg .i64 x.1 ∧ Rg .i64 x.2.1 ∧ Rg .i64 x.2.2.1 ∧ Rg .i64 x.2.2.2.1 ∧ Ls (Rg .i64) x.2.2.2.2.1 ∧ Rg .i64 x.2.2.2.2.2
def OkPermit (x : Int × Int × Int × Int × List Int × Int) : Prop := Rg .i64 x.1 ∧ Rg .i64 x.2.1 ∧ Rg .i64 x.2.2.1 ∧ Rg .i64 x.2.2.2.1 ∧ Lm (Rg .i64) x.2.2.2.2.1 ∧ Rg .i64 x.2.2.2.2.2
def PlGrid (x : Int × Int × List Bool) : Prop := Rg .i64 x.1 ∧ Rg .i64 x.2.1 ∧ Ls (fun _ => True) x.2.2
def OkGrid (x : Int × Int × List Bool) : Prop := Rg .i64 x.1 ∧ Rg .i64 x.2.1 ∧ Lm (fun _ => True) x.2.2
def PlBooking (x : Int × ByteArray × Int) : Prop := Rg .i64 x.1 ∧ Sz x.2.1 ∧ Rg .i64 x.2.2
def OkBooking (x : Int × ByteArray × Int) : Prop := Rg .i64 x.1 ∧ Sm x.2.1 ∧ Rg .i64 x.2.2
def PlEntry (x : Int × ByteArray) : Prop := Rg .u8 x.1 ∧ Sz x.2
def OkEntry (x : Int × ByteArray) : Prop := Rg .u8 x.1 ∧ Sm x.2
def PlDesk (x : (List (Int × ByteArray × Int)) × (List (Int × Int)) × (List (Int × ByteArray × Int))) : Prop := Ls PlMove x.1 ∧ Ls PlSignal x.2.1 ∧ Ls PlBooking x.2.2
def OkDesk (x : (List (Int × ByteArray × Int)) × (List (Int × Int)) × (List (Int × ByteArray × Int))) : Prop := Lm OkMove x.1 ∧ Lm OkSignal x.2.1 ∧ Lm OkBooking x.2.2
end Go.Pl

namespace Go.Pl
open Go.Ev
set_option linter.unusedVariables false
set_option linter.unusedSimpArgs false
def gridB (g : Int × Int × List Bool) : Bool := inB g.1 1 12 && inB g.2.1 1 12 && decide ((g.2.2.length : Int) = g.1 * g.2.1)
theorem gridB_iff {g : Int × Int × List Bool} : gridB g = true ↔ 1 ≤ g.1 ∧ g.1 ≤ 12 ∧ 1 ≤ g.2.1 ∧ g.2.1 ≤ 12 ∧ (g.2.2.length : Int) = g.1 * g.2.1 := by
  unfold gridB; simp only [Bool.and_eq_true, inB_iff, decide_eq_true_eq]; omega
theorem mul_le144 {a b : Int} (h1 : 1 ≤ a) (h2 : a ≤ 12) (h3 : 1 ≤ b) (h4 : b ≤ 12) : 1 ≤ a * b ∧ a * b ≤ 144 := by
  obtain h | h | h | h | h | h | h | h | h | h | h | h : a = 1 ∨ a = 2 ∨ a = 3 ∨ a = 4 ∨ a = 5 ∨ a = 6 ∨ a = 7 ∨ a = 8 ∨ a = 9 ∨ a = 10 ∨ a = 11 ∨ a = 12 := by omega
  all_goals (subst h; omega)
theorem impl_IsGrid_f (g : Int × Int × List Bool) : impl_IsGrid.f g = some (gridB g) := by
  unfold impl_IsGrid.f impl_IsGrid.fn impl_IsGrid.top gridB
  simp only [impl_within_f, Option.bind_some]
  cases h1 : inB g.1 1 12
  · rfl
  cases h2 : inB g.2.1 1 12
  · rfl
  rw [inB_iff] at h1 h2
  have := mul_le144 h1.1 h1.2 h2.1 h2.2
  rw [w64 (by omega) (by omega)]
  simp only [if_true, Bool.true_and]
  rfl
theorem spec_IsGrid_f (g : Int × Int × List Bool) : spec_IsGrid.f g = some (gridB g) := by
  unfold spec_IsGrid.f spec_IsGrid.fn spec_IsGrid.top gridB
  simp only [spec_l01In_f, Option.bind_some]
  cases h1 : inB g.1 1 12
  · rfl
  cases h2 : inB g.2.1 1 12
  · rfl
  rw [inB_iff] at h1 h2
  have := mul_le144 h1.1 h1.2 h2.1 h2.2
  rw [w64 (by omega) (by omega)]
  simp only [if_true, Bool.true_and]
  rfl
def cellB (g : Int × Int × List Bool) (x y : Int) : Bool := inB x 0 (g.1 - 1) && inB y 0 (g.2.1 - 1)
theorem impl_isCell_f (g : Int × Int × List Bool) (x y : Int) (h : gridB g = true) : impl_isCell.f g x y = some (cellB g x y) := by
  have hg := gridB_iff.1 h
  unfold impl_isCell.f impl_isCell.fn impl_isCell.top cellB
  simp only [impl_within_f, Option.bind_some]
  rw [w64 (n := g.1 - 1) (by omega) (by omega), w64 (n := g.2.1 - 1) (by omega) (by omega)]
  cases inB x 0 (g.1 - 1) <;> rfl
def codeG (g : Int × Int × List Bool) (x y : Int) : Int := if gridB g = true then (if cellB g x y = true then 0 else 2) else 1
theorem spec_l31Code_f (g : Int × Int × List Bool) (x y : Int) : spec_l31Code.f g x y = some (codeG g x y) := by
  unfold spec_l31Code.f spec_l31Code.fn spec_l31Code.top codeG
  simp only [spec_IsGrid_f, Option.bind_some]
  cases h : gridB g
  · rfl
  have hg := gridB_iff.1 h
  unfold cellB
  simp only [spec_l01In_f, Option.bind_some]
  rw [w64 (n := g.1 - 1) (by omega) (by omega), w64 (n := g.2.1 - 1) (by omega) (by omega)]
  cases inB x 0 (g.1 - 1) <;> cases inB y 0 (g.2.1 - 1) <;> rfl
theorem cell00 {g : Int × Int × List Bool} (h : gridB g = true) : cellB g 0 0 = true := by
  have hg := gridB_iff.1 h
  unfold cellB; simp only [Bool.and_eq_true, inB_iff]; omega
theorem code00 (g : Int × Int × List Bool) : codeG g 0 0 = if gridB g = true then 0 else 1 := by
  unfold codeG
  cases h : gridB g
  · rfl
  · simp [cell00 h]
/-- the cells that are left -/
def addC (i : Nat) (out : List Int) (b : Bool) : List Int := if b = true then out else out ++ [(i : Int)]
def cellsL (s : List Bool) : List Int := foldi addC 0 [] s
theorem cells_inv (s : List Bool) : ∀ (r p : List Bool) (out : List Int), out.length ≤ p.length → (∀ c ∈ out, 0 ≤ c ∧ c < (p.length : Int)) → (foldi addC p.length out r).length ≤ p.length + r.length ∧ ∀ c ∈ foldi addC p.length out r, 0 ≤ c ∧ c < ((p.length : Int) + r.length) := by
  intro r
  induction r with
  | nil => intro p out h1 h2; exact ⟨by simpa [foldi] using h1, by simpa [foldi] using h2⟩
  | cons b r ih =>
    intro p out h1 h2
    have := ih (p ++ [b]) (addC p.length out b) (by unfold addC; split <;> simp <;> omega) (fun c hc => by
      unfold addC at hc
      split at hc
      · have := h2 c hc; simp; omega
      · rcases List.mem_append.1 hc with h | h
        · have := h2 c h; simp; omega
        · rw [List.mem_singleton.1 h]; simp; omega)
    simp only [List.length_append, List.length_cons, List.length_nil, Nat.zero_add] at this
    simp only [foldi, List.length_cons]
    exact ⟨by have := this.1; omega, fun c hc => by have := this.2 c hc; omega⟩
theorem cellsL_in {s : List Bool} : (cellsL s).length ≤ s.length ∧ ∀ c ∈ cellsL s, 0 ≤ c ∧ c < (s.length : Int) := by
  have := cells_inv s s [] [] (by simp) (by simp)
  simpa [cellsL] using this
theorem impl_cellsLeft_f (g : Int × Int × List Bool) (h : g.2.2.length ≤ 1000000) : impl_cellsLeft.f g = some (cellsL g.2.2) := by
  obtain ⟨w, hh, s⟩ := g
  have h : s.length ≤ 1000000 := h
  have := (fold_fix (E := fun _ => True) (fun p st => st.length ≤ p.length) addC some (fun k i st => impl_cellsLeft.l3 NN k s s.length i st) s ?_ ?_ [] (fun _ _ => trivial) (by simp) (by omega) NN (NN_lt (by omega))).2
  · exact this
  · intro k st _
    simp [impl_cellsLeft.l3, impl_cellsLeft.g3]
  · intro k p b r st hx _ hI c0 c1 c2 cw g
    refine ⟨by unfold addC; split <;> simp <;> omega, ?_⟩
    have c3 : st.length + [(p.length : Int)].length < room 8 := by rw [room8]; simp; omega
    simp only [impl_cellsLeft.l3, impl_cellsLeft.g3, c0, c1, cw, and_self, and_true, true_and, decide_true, decide_false, if_true, if_false, mid_get, mid_set, mid_getn, mid_setn, bt_mid, Option.bind_some, Bool.not_true, Bool.not_false, Bool.false_eq_true, Bool.true_eq_false, beq_self_eq_true, bne_self_eq_false, Int.toNat_natCast, g]
    unfold addC
    cases b
    · simp only [and_self, and_true, true_and, decide_true, decide_false, if_true, if_false, mid_get, mid_set, mid_getn, mid_setn, bt_mid, Option.bind_some, Bool.not_true, Bool.not_false, Bool.false_eq_true, Bool.true_eq_false, beq_self_eq_true, bne_self_eq_false, Int.toNat_natCast, c3]
    · simp only [and_self, and_true, true_and, decide_true, decide_false, if_true, if_false, mid_get, mid_set, mid_getn, mid_setn, bt_mid, Option.bind_some, Bool.not_true, Bool.not_false, Bool.false_eq_true, Bool.true_eq_false, beq_self_eq_true, bne_self_eq_false, Int.toNat_natCast]
theorem spec_l31Left_f (g : Int × Int × List Bool) (h : g.2.2.length ≤ 1000000) : spec_l31Left.f g = some (cellsL g.2.2) := by
  obtain ⟨w, hh, s⟩ := g
  have h : s.length ≤ 1000000 := h
  have := (fold_fix (E := fun _ => True) (fun p st => st.length ≤ p.length) addC some (fun k i st => spec_l31Left.l3 NN k i (w, hh, s) st) s ?_ ?_ [] (fun _ _ => trivial) (by simp) (by omega) NN (NN_lt (by omega))).2
  · exact this
  · intro k st _
    simp [spec_l31Left.l3, spec_l31Left.g3]
  · intro k p b r st hx _ hI c0 c1 c2 cw g
    refine ⟨by unfold addC; split <;> simp <;> omega, ?_⟩
    have c3 : st.length + [(p.length : Int)].length < room 8 := by rw [room8]; simp; omega
    simp only [spec_l31Left.l3, spec_l31Left.g3, c0, c1, cw, and_self, and_true, true_and, decide_true, decide_false, if_true, if_false, mid_get, mid_set, mid_getn, mid_setn, bt_mid, Option.bind_some, Bool.not_true, Bool.not_false, Bool.false_eq_true, Bool.true_eq_false, beq_self_eq_true, bne_self_eq_false, Int.toNat_natCast, g]
    unfold addC
    cases b
    · simp only [and_self, and_true, true_and, decide_true, decide_false, if_true, if_false, mid_get, mid_set, mid_getn, mid_setn, bt_mid, Option.bind_some, Bool.not_true, Bool.not_false, Bool.false_eq_true, Bool.true_eq_false, beq_self_eq_true, bne_self_eq_false, Int.toNat_natCast, c3]
    · simp only [and_self, and_true, true_and, decide_true, decide_false, if_true, if_false, mid_get, mid_set, mid_getn, mid_setn, bt_mid, Option.bind_some, Bool.not_true, Bool.not_false, Bool.false_eq_true, Bool.true_eq_false, beq_self_eq_true, bne_self_eq_false, Int.toNat_natCast]
def absI (n : Int) : Int := if n < 0 then -n else n
theorem impl_abs_f {n : Int} (h1 : -1000000000000000 ≤ n) (h2 : n ≤ 1000000000000000) : impl_abs.f n = some (absI n) := by
  unfold impl_abs.f impl_abs.fn impl_abs.top absI
  rw [w64 (n := 0 - n) (by omega) (by omega)]
  by_cases h : n < 0
  · simp [h]
  · simp [h]
theorem spec_l01Abs_f {n : Int} (h1 : -1000000000000000 ≤ n) (h2 : n ≤ 1000000000000000) : spec_l01Abs.f n = some (absI n) := by
  unfold spec_l01Abs.f spec_l01Abs.fn spec_l01Abs.top absI
  rw [w64 (n := 0 - n) (by omega) (by omega)]
  by_cases h : n < 0
  · have : 0 - n > n := by omega
    rw [if_pos this, if_pos h]
    congr 1; omega
  · have : ¬ 0 - n > n := by omega
    rw [if_neg this, if_neg h]
theorem y_cast (y w : Nat) : (y : Int) * (w : Int) = ((y * w : Nat) : Int) := (Int.natCast_mul y w).symm
theorem y1_cast (y w : Nat) : ((y : Int) + 1) * (w : Int) = (((y + 1) * w : Nat) : Int) := by rw [Int.natCast_mul]; rfl
def farD (w a b : Int) : Int := absI (a.tmod w - b.tmod w) + absI (a.tdiv w - b.tdiv w)
theorem mod_div_bd {w a : Int} (hw : 1 ≤ w) (h0 : 0 ≤ a) (h1 : a ≤ 1000) : 0 ≤ a.tmod w ∧ a.tmod w ≤ a ∧ 0 ≤ a.tdiv w ∧ a.tdiv w ≤ a := by
  rw [Int.tmod_eq_emod_of_nonneg h0, Int.tdiv_eq_ediv_of_nonneg h0]
  have h2 : 0 ≤ a % w := Int.emod_nonneg _ (by omega)
  have h3 : 0 ≤ a / w := Int.ediv_nonneg h0 (by omega)
  have h4 := Int.emod_add_mul_ediv a w
  have h5 : a / w ≤ a := Int.ediv_le_self _ h0
  have h6 : 0 ≤ w * (a / w) := Int.mul_nonneg (by omega) h3
  omega
theorem farD_bd {w a b : Int} (hw : 1 ≤ w) (ha : 0 ≤ a) (ha1 : a ≤ 1000) (hb : 0 ≤ b) (hb1 : b ≤ 1000) : 0 ≤ farD w a b ∧ farD w a b ≤ 2000 := by
  have h1 := mod_div_bd hw ha ha1
  have h2 := mod_div_bd hw hb hb1
  unfold farD absI
  split <;> split <;> omega
theorem impl_distanceOf_f (g : Int × Int × List Bool) (a b : Int) (hw : 1 ≤ g.1) (ha : 0 ≤ a) (ha1 : a ≤ 1000) (hb : 0 ≤ b) (hb1 : b ≤ 1000) : impl_distanceOf.f g a b = some (farD g.1 a b) := by
  have h1 := mod_div_bd hw ha ha1
  have h2 := mod_div_bd hw hb hb1
  have h3 := farD_bd hw ha ha1 hb hb1
  have hz : ¬ g.1 = 0 := by omega
  unfold impl_distanceOf.f impl_distanceOf.fn impl_distanceOf.top
  simp only [hz, if_false]
  rw [w64 (n := a.tdiv g.1) (by omega) (by omega), w64 (n := b.tdiv g.1) (by omega) (by omega), w64 (n := a.tmod g.1 - b.tmod g.1) (by omega) (by omega), w64 (n := a.tdiv g.1 - b.tdiv g.1) (by omega) (by omega)]
  rw [impl_abs_f (by omega) (by omega), impl_abs_f (by omega) (by omega)]
  simp only [Option.bind_some]
  unfold farD at h3 ⊢
  rw [w64 (by omega) (by omega)]
theorem spec_l31Far_f (g : Int × Int × List Bool) (a b : Int) (hw : 1 ≤ g.1) (ha : 0 ≤ a) (ha1 : a ≤ 1000) (hb : 0 ≤ b) (hb1 : b ≤ 1000) : spec_l31Far.f g a b = some (farD g.1 a b) := by
  have h1 := mod_div_bd hw ha ha1
  have h2 := mod_div_bd hw hb hb1
  have h3 := farD_bd hw ha ha1 hb hb1
  have hz : ¬ g.1 = 0 := by omega
  unfold spec_l31Far.f spec_l31Far.fn spec_l31Far.top
  simp only [hz, if_false]
  rw [w64 (n := a.tdiv g.1) (by omega) (by omega), w64 (n := b.tdiv g.1) (by omega) (by omega), w64 (n := a.tmod g.1 - b.tmod g.1) (by omega) (by omega), w64 (n := a.tdiv g.1 - b.tdiv g.1) (by omega) (by omega)]
  rw [spec_l01Abs_f (by omega) (by omega), spec_l01Abs_f (by omega) (by omega)]
  simp only [Option.bind_some]
  unfold farD at h3 ⊢
  rw [w64 (by omega) (by omega)]
end Go.Pl

namespace Go.Pl
open Go.Ev
set_option linter.unusedVariables false
set_option linter.unusedSimpArgs false
/-- the nearest of some cells -/
def nearF (D : Int → Int) (b : Int) (r : List Int) : Int := r.foldl (fun b c => if D c < D b then c else b) b
theorem nearF_in (D : Int → Int) : ∀ (r : List Int) (b : Int), nearF D b r = b ∨ nearF D b r ∈ r := by
  intro r
  induction r with
  | nil => intro b; exact .inl rfl
  | cons c r ih =>
    intro b
    show nearF D (if D c < D b then c else b) r = b ∨ nearF D (if D c < D b then c else b) r ∈ c :: r
    rcases ih (if D c < D b then c else b) with h | h
    · rw [h]; split
      · right; simp
      · left; rfl
    · right; simp [h]
theorem nearF_snoc (D : Int → Int) (b : Int) (r : List Int) (c : Int) : nearF D b (r ++ [c]) = if D c < D (nearF D b r) then c else nearF D b r := by
  unfold nearF; rw [List.foldl_append]; rfl
def nearX (w : Int) (t : Int) : List Int → Int × Int × Int
  | [] => (0, 0, 4)
  | a :: r => (nearF (farD w · t) a r, farD w (nearF (farD w · t) a r) t, 0)
def nearStep (D : Int → Int) (st : Int × Int) (c : Int) : Int × Int := if st.2 < 0 then (c, D c) else if D c < st.2 then (c, D c) else st
theorem impl_near (w hh : Int) (s : List Bool) (x y t : Int) (ht : t = y * w + x) (hw : 1 ≤ w) (ht0 : 0 ≤ t) (ht1 : t ≤ 1000) (hy : IntKind.i64.wrap (y * w) = y * w) (hyx : IntKind.i64.wrap (y * w + x) = y * w + x) (xs : List Int) (hx : ∀ c ∈ xs, 0 ≤ c ∧ c ≤ 1000) (hl : xs.length ≤ 1000) :
    impl_NearestLeft.l7 NN NN x y 0 (-1) xs.length 0 (w, hh, s) xs = some (nearX w t xs) := by
  have hD : ∀ c, (0 ≤ c ∧ c ≤ 1000) → 0 ≤ farD w c t ∧ farD w c t ≤ 2000 := fun c hc => farD_bd hw hc.1 hc.2 ht0 ht1
  have := fold_fix (E := fun c => 0 ≤ c ∧ c ≤ 1000) (fun p st => (p = [] ∧ st = (0, -1)) ∨ ∃ a q, p = a :: q ∧ st = (nearF (farD w · t) a q, farD w (nearF (farD w · t) a q) t) ∧ 0 ≤ st.2) (fun _ => nearStep (farD w · t)) (fun st => if st.2 < 0 then some (0, 0, 4) else some (st.1, st.2, 0)) (fun k i st => impl_NearestLeft.l7 NN k x y st.1 st.2 xs.length i (w, hh, s) xs) xs ?_ ?_ (0, -1) hx (.inl ⟨rfl, rfl⟩) (by omega) NN (NN_lt (by omega))
  · obtain ⟨h1, h2⟩ := this
    refine h2.trans ?_
    rcases h1 with ⟨rfl, h⟩ | ⟨a, q, rfl, h, h3⟩
    · rw [h]; rfl
    · rw [if_neg (by omega), h]; rfl
  · intro k st _
    simp [impl_NearestLeft.l7, impl_NearestLeft.g7]
  · intro k p c r st hxs hc hI c0 c1 c2 cw g
    constructor
    · rcases hI with ⟨rfl, rfl⟩ | ⟨a, q, rfl, h, h3⟩
      · refine .inr ⟨c, [], rfl, rfl, ?_⟩
        exact (hD c hc).1
      · refine .inr ⟨a, q ++ [c], rfl, ?_, ?_⟩
        · rw [nearF_snoc]
          unfold nearStep
          rw [if_neg (by omega), h]
          simp only
          split <;> rfl
        · unfold nearStep
          rw [if_neg (by omega)]
          split
          · exact (hD c hc).1
          · exact h3
    · simp only [impl_NearestLeft.l7, impl_NearestLeft.g7, c0, c1, cw, and_self, and_true, true_and, decide_true, decide_false, if_true, if_false, mid_get, mid_set, mid_getn, mid_setn, bt_mid, Option.bind_some, Bool.not_true, Bool.not_false, Bool.false_eq_true, Bool.true_eq_false, beq_self_eq_true, bne_self_eq_false, Int.toNat_natCast, g, hy, hyx]
      rw [impl_distanceOf_f _ _ _ hw hc.1 hc.2 (by omega) (by omega), ← ht]
      unfold nearStep
      simp only [Option.bind_some, decide_eq_true_eq, decide_eq_false_iff_not]
      by_cases h1 : st.2 < 0
      · simp [h1]
      · by_cases h2 : farD w c t < st.2
        · simp [h1, h2]
        · simp [h1, h2]
theorem spec_near (w hh : Int) (s : List Bool) (x y t : Int) (ht : t = y * w + x) (hw : 1 ≤ w) (ht0 : 0 ≤ t) (ht1 : t ≤ 1000) (hy : IntKind.i64.wrap (y * w) = y * w) (hyx : IntKind.i64.wrap (y * w + x) = y * w + x) (a : Int) (r : List Int) (hx : ∀ c ∈ a :: r, 0 ≤ c ∧ c ≤ 1000) (hl : (a :: r).length ≤ 1000) :
    spec_NearestLeft.l9 NN NN x y a 0 (w, hh, s) (a :: r) = some (nearF (farD w · t) a r, farD w (nearF (farD w · t) a r) t, 0) := by
  have hin : ∀ (q : List Int), (∀ c ∈ q, 0 ≤ c ∧ c ≤ 1000) → 0 ≤ nearF (farD w · t) a q ∧ nearF (farD w · t) a q ≤ 1000 := fun q hq => by
    rcases nearF_in (farD w · t) q a with h | h
    · rw [h]; exact hx a (by simp)
    · exact hq _ h
  have := fold_fix (E := fun c => 0 ≤ c ∧ c ≤ 1000) (fun p st => st = nearF (farD w · t) a p ∧ ∀ c ∈ p, 0 ≤ c ∧ c ≤ 1000) (fun _ b c => if farD w c t < farD w b t then c else b) (fun st => some (st, farD w st t, 0)) (fun k i st => spec_NearestLeft.l9 NN k x y st i (w, hh, s) (a :: r)) (a :: r) ?_ ?_ a hx ⟨rfl, by simp⟩ (by omega) NN (NN_lt (by omega))
  · obtain ⟨⟨h1, _⟩, h2⟩ := this
    rw [h1] at h2
    refine h2.trans ?_
    have : nearF (farD w · t) a (a :: r) = nearF (farD w · t) a r := by
      show nearF _ (if farD w a t < farD w a t then a else a) r = _
      simp
    rw [this]
  · intro k st hI
    obtain ⟨rfl, hp⟩ := hI
    have := hin _ hp
    simp only [spec_NearestLeft.l9, spec_NearestLeft.g9]
    rw [if_neg (by simp), hy, hyx, spec_l31Far_f _ _ _ hw this.1 this.2 (by omega) (by omega), ← ht]
    rfl
  · intro k p c r' st hxs hc hI c0 c1 c2 cw g
    obtain ⟨rfl, hp⟩ := hI
    have hb := hin _ hp
    refine ⟨⟨(nearF_snoc (farD w · t) a p c).symm, fun d hd => ?_⟩, ?_⟩
    · rcases List.mem_append.1 hd with h | h
      · exact hp d h
      · rw [List.mem_singleton.1 h]; exact hc
    · simp only [spec_NearestLeft.l9, spec_NearestLeft.g9, c0, c1, cw, and_self, and_true, true_and, decide_true, decide_false, if_true, if_false, mid_get, mid_set, mid_getn, mid_setn, bt_mid, Option.bind_some, Bool.not_true, Bool.not_false, Bool.false_eq_true, Bool.true_eq_false, beq_self_eq_true, bne_self_eq_false, Int.toNat_natCast, g, hy, hyx]
      rw [spec_l31Far_f _ _ _ hw hc.1 hc.2 (by omega) (by omega), spec_l31Far_f _ _ _ hw hb.1 hb.2 (by omega) (by omega), ← ht]
      simp only [Option.bind_some, decide_eq_true_eq]
      by_cases h2 : farD w c t < farD w (nearF (farD w · t) a p) t
      · simp [h2]
      · simp [h2]
theorem cell_at {g : Int × Int × List Bool} {x y : Int} (h : gridB g = true) (hc : cellB g x y = true) : 0 ≤ x ∧ x < g.1 ∧ 0 ≤ y ∧ y < g.2.1 ∧ 0 ≤ y * g.1 ∧ y * g.1 + x < (g.2.2.length : Int) ∧ (g.2.2.length : Int) ≤ 144 := by
  have hg := gridB_iff.1 h
  unfold cellB at hc
  simp only [Bool.and_eq_true, inB_iff] at hc
  have h3 := mul_le144 hg.1 hg.2.1 hg.2.2.1 hg.2.2.2.1
  have h4 : 0 ≤ y * g.1 := Int.mul_nonneg (by omega) (by omega)
  have h5 : y * g.1 ≤ (g.2.1 - 1) * g.1 := Int.mul_le_mul_of_nonneg_right (by omega) (by omega)
  have h6 : (g.2.1 - 1) * g.1 = g.1 * g.2.1 - g.1 := by rw [Int.sub_mul, Int.mul_comm]; omega
  omega
def nearR (g : Int × Int × List Bool) (x y : Int) : Int × Int × Int := if gridB g = true then (if cellB g x y = true then nearX g.1 (y * g.1 + x) (cellsL g.2.2) else (0, 0, 2)) else (0, 0, 1)
theorem NearestLeft_both (g : Int × Int × List Bool) (x y : Int) : spec_NearestLeft.f g x y = some (nearR g x y) ∧ impl_NearestLeft.f g x y = some (nearR g x y) := by
  obtain ⟨w, hh, s⟩ := g
  show _ = some (if gridB (w, hh, s) = true then (if cellB (w, hh, s) x y = true then nearX w (y * w + x) (cellsL s) else (0, 0, 2)) else (0, 0, 1)) ∧ _ = some (if gridB (w, hh, s) = true then (if cellB (w, hh, s) x y = true then nearX w (y * w + x) (cellsL s) else (0, 0, 2)) else (0, 0, 1))
  refine ⟨?_, ?_⟩
  · unfold spec_NearestLeft.f spec_NearestLeft.fn spec_NearestLeft.top
    rw [spec_l31Code_f]
    unfold codeG
    cases hg : gridB (w, hh, s)
    · rfl
    cases hc : cellB (w, hh, s) x y
    · rfl
    have hgb := gridB_iff.1 hg
    have hca := cell_at hg hc
    simp only at hca hgb
    have hs := @cellsL_in s
    rw [spec_l31Left_f _ (by simp only; omega)]
    simp only [and_self, and_true, true_and, decide_true, decide_false, if_true, if_false, mid_get, mid_set, mid_getn, mid_setn, bt_mid, Option.bind_some, Bool.not_true, Bool.not_false, Bool.false_eq_true, Bool.true_eq_false, beq_self_eq_true, bne_self_eq_false, Int.toNat_natCast, bne_self_eq_false]
    cases he : cellsL s with
    | nil => simp [nearX]
    | cons a r =>
      rw [he] at hs
      have e0 : ((((a :: r).length : Int)) == 0) = false := by simp; omega
      have e1 : (0 : Int) < ((a :: r).length : Int) := by simp only [List.length_cons]; omega
      have := spec_near w hh s x y (y * w + x) rfl hgb.1 (by omega) (by omega) (w64 (by omega) (by omega)) (w64 (by omega) (by omega)) a r (fun c hc => by have := hs.2 c hc; omega) (by omega)
      simp only [e0, e1, and_self, and_true, true_and, decide_true, decide_false, if_true, if_false, mid_get, mid_set, mid_getn, mid_setn, bt_mid, Option.bind_some, Bool.not_true, Bool.not_false, Bool.false_eq_true, Bool.true_eq_false, beq_self_eq_true, bne_self_eq_false, Int.toNat_natCast, Int.le_refl]
      exact this
  · unfold impl_NearestLeft.f impl_NearestLeft.fn impl_NearestLeft.top
    rw [impl_IsGrid_f]
    cases hg : gridB (w, hh, s)
    · rfl
    simp only [and_self, and_true, true_and, decide_true, decide_false, if_true, if_false, mid_get, mid_set, mid_getn, mid_setn, bt_mid, Option.bind_some, Bool.not_true, Bool.not_false, Bool.false_eq_true, Bool.true_eq_false, beq_self_eq_true, bne_self_eq_false, Int.toNat_natCast]
    rw [impl_isCell_f _ _ _ hg]
    cases hc : cellB (w, hh, s) x y
    · rfl
    have hgb := gridB_iff.1 hg
    have hca := cell_at hg hc
    simp only at hca hgb
    have hs := @cellsL_in s
    simp only [and_self, and_true, true_and, decide_true, decide_false, if_true, if_false, mid_get, mid_set, mid_getn, mid_setn, bt_mid, Option.bind_some, Bool.not_true, Bool.not_false, Bool.false_eq_true, Bool.true_eq_false, beq_self_eq_true, bne_self_eq_false, Int.toNat_natCast]
    rw [impl_cellsLeft_f _ (by simp only; omega)]
    simp only [and_self, and_true, true_and, decide_true, decide_false, if_true, if_false, mid_get, mid_set, mid_getn, mid_setn, bt_mid, Option.bind_some, Bool.not_true, Bool.not_false, Bool.false_eq_true, Bool.true_eq_false, beq_self_eq_true, bne_self_eq_false, Int.toNat_natCast]
    have := impl_near w hh s x y (y * w + x) rfl hgb.1 (by omega) (by omega) (w64 (by omega) (by omega)) (w64 (by omega) (by omega)) (cellsL s) (fun c hc => by have := hs.2 c hc; omega) (by omega)
    rw [this]
theorem NearestLeft_core (g : Int × Int × List Bool) (x y : Int) (h : OkGrid g) (_ : Rg .i64 x) (_ : Rg .i64 y) : ∃ w, spec_NearestLeft.f g x y = some w ∧ impl_NearestLeft.f g x y = some w ∧ True :=
  ⟨_, (NearestLeft_both g x y).1, (NearestLeft_both g x y).2, trivial⟩
end Go.Pl

namespace Go.Pl
open Go.Ev
set_option linter.unusedVariables false
noncomputable section
def impl_isDay.top (day0 : Int) : Option Bool :=
  (impl_within.f day0 0 100000).bind fun r1 =>
  some r1
def impl_isDay.fn (n : Nat) (day0 : Int) : Option Bool := impl_isDay.top day0
def impl_isDay.f (day0 : Int) : Option Bool := impl_isDay.fn NN day0
end
end Go.Pl

namespace Go.Pl
open Go.Ev
set_option linter.unusedVariables false
noncomputable section
def impl_isCalibre.top (n0 : Int) : Option Bool :=
  (impl_within.f n0 20 300).bind fun r1 =>
  some r1
def impl_isCalibre.fn (n : Nat) (n0 : Int) : Option Bool := impl_isCalibre.top n0
def impl_isCalibre.f (n0 : Int) : Option Bool := impl_isCalibre.fn NN n0
end
end Go.Pl

namespace Go.Pl
open Go.Ev
set_option linter.unusedVariables false
noncomputable section
def impl_IsPermit.g4 (L4 : Int → (Int × Int × Int × Int × List Int × Int) → Option Bool) (i3 : Int) (p1 : Int × Int × Int × Int × List Int × Int) : Option Bool :=
  if (decide ((i3 : Int) < (p1.2.2.2.2.1.length : Int))) = true then
    if (0 : Int) ≤ (IntKind.i64.wrap (i3 - 1)) ∧ ((IntKind.i64.wrap (i3 - 1)) : Int) < p1.2.2.2.2.1.length then
      if (0 : Int) ≤ i3 ∧ (i3 : Int) < p1.2.2.2.2.1.length then
        if (decide (((p1.2.2.2.2.1.getD (i3 : Int).toNat 0) : Int) ≤ (p1.2.2.2.2.1.getD ((IntKind.i64.wrap (i3 - 1)) : Int).toNat 0))) = true then
          some false
        else
          L4 (IntKind.i64.wrap (i3 + 1)) p1
      else
        none
    else
      none
  else
    some true
def impl_IsPermit.l4 (n : Nat) : Nat → Int → (Int × Int × Int × Int × List Int × Int) → Option Bool
  | 0 => fun _ _ => none
  | k + 1 => impl_IsPermit.g4 (impl_IsPermit.l4 n k)
def impl_IsPermit.top (I4 : Int → (Int × Int × Int × Int × List Int × Int) → Option Bool) (p0 : Int × Int × Int × Int × List Int × Int) : Option Bool :=
  (impl_isDay.f p0.1).bind fun r1 =>
  if (!r1) = false then
    (impl_isDay.f p0.2.1).bind fun r2 =>
    if (!r2) = false then
      if (decide ((p0.2.1 : Int) < p0.1)) = false then
        (impl_within.f p0.2.2.1 0 1000000000).bind fun r3 =>
        if (!r3) = false then
          (impl_isCalibre.f p0.2.2.2.1).bind fun r4 =>
          if (!r4) = false then
            (impl_within.f p0.2.2.2.2.2 0 3).bind fun r5 =>
            if (!r5) = false then
              (impl_allWithin.f p0.2.2.2.2.1 0 3).bind fun r6 =>
              if (!r6) = true then
                some false
              else
                I4 1 p0
            else
              some false
          else
            some false
        else
          some false
      else
        some false
    else
      some false
  else
    some false
def impl_IsPermit.fn (n : Nat) (p0 : Int × Int × Int × Int × List Int × Int) : Option Bool := impl_IsPermit.top (impl_IsPermit.l4 n n) p0
def impl_IsPermit.f (p0 : Int × Int × Int × Int × List Int × Int) : Option Bool := impl_IsPermit.fn NN p0
end
end Go.Pl

namespace Go.Pl
open Go.Ev
set_option linter.unusedVariables false
noncomputable section
def spec_l01Rises.g2 (L2 : List Int → Int → Int → Option Bool) (list0 : List Int) (n1 : Int) (i5 : Int) : Option Bool :=
  if (decide ((i5 : Int) < (list0.length : Int))) = true then
    if (0 : Int) ≤ i5 ∧ (i5 : Int) < list0.length then
      (spec_l01In.f (list0.getD (i5 : Int).toNat 0) 0 (IntKind.i64.wrap (n1 - 1))).bind fun r1 =>
      if (!r1) = false then
        if (decide ((0 : Int) < i5)) = true then
          if (0 : Int) ≤ i5 ∧ (i5 : Int) < list0.length then
            if (0 : Int) ≤ (IntKind.i64.wrap (i5 - 1)) ∧ ((IntKind.i64.wrap (i5 - 1)) : Int) < list0.length then
              if (decide (((list0.getD (i5 : Int).toNat 0) : Int) ≤ (list0.getD ((IntKind.i64.wrap (i5 - 1)) : Int).toNat 0))) = true then
                some false
              else
                L2 list0 n1 (IntKind.i64.wrap (i5 + 1))
            else
              none
          else
            none
        else
          L2 list0 n1 (IntKind.i64.wrap (i5 + 1))
      else
        some false
    else
      none
  else
    some true
def spec_l01Rises.l2 (n : Nat) : Nat → List Int → Int → Int → Option Bool
  | 0 => fun _ _ _ => none
  | k + 1 => spec_l01Rises.g2 (spec_l01Rises.l2 n k)
def spec_l01Rises.top (I2 : List Int → Int → Int → Option Bool) (list0 : List Int) (n1 : Int) : Option Bool :=
  I2 list0 n1 0
def spec_l01Rises.fn (n : Nat) (list0 : List Int) (n1 : Int) : Option Bool := spec_l01Rises.top (spec_l01Rises.l2 n n) list0 n1
def spec_l01Rises.f (list0 : List Int) (n1 : Int) : Option Bool := spec_l01Rises.fn NN list0 n1
end
end Go.Pl

namespace Go.Pl
open Go.Ev
set_option linter.unusedVariables false
noncomputable section
def spec_IsPermit.top (p0 : Int × Int × Int × Int × List Int × Int) : Option Bool :=
  (spec_l01In.f p0.1 0 100000).bind fun r1 =>
  if r1 = true then
    (spec_l01In.f p0.2.1 p0.1 100000).bind fun r2 =>
    if r2 = true then
      (spec_l01In.f p0.2.2.1 0 1000000000).bind fun r3 =>
      if r3 = true then
        (spec_l01In.f p0.2.2.2.1 20 300).bind fun r4 =>
        if r4 = true then
          (spec_l01Rises.f p0.2.2.2.2.1 4).bind fun r5 =>
          if r5 = true then
            (spec_l01In.f p0.2.2.2.2.2 0 3).bind fun r6 =>
            some r6
          else
            some false
        else
          some false
      else
        some false
    else
      some false
  else
    some false
def spec_IsPermit.fn (n : Nat) (p0 : Int × Int × Int × Int × List Int × Int) : Option Bool := spec_IsPermit.top p0
def spec_IsPermit.f (p0 : Int × Int × Int × Int × List Int × Int) : Option Bool := spec_IsPermit.fn NN p0
end
end Go.Pl

namespace Go.Pl
open Go.Ev
set_option linter.unusedVariables false
set_option linter.unusedSimpArgs false
theorem impl_isDay_f (n : Int) : impl_isDay.f n = some (inB n 0 100000) := by
  unfold impl_isDay.f impl_isDay.fn impl_isDay.top
  rw [impl_within_f]; rfl
theorem impl_isCalibre_f (n : Int) : impl_isCalibre.f n = some (inB n 20 300) := by
  unfold impl_isCalibre.f impl_isCalibre.fn impl_isCalibre.top
  rw [impl_within_f]; rfl
theorem impl_allWithin_f (xs : List Int) (lo hi : Int) (h : xs.length ≤ 140737488355328) : impl_allWithin.f xs lo hi = some (xs.all (inB · lo hi)) := by
  have := all_loop (E := fun _ => True) (inB · lo hi) (fun _ => some true) (fun k xs i => impl_allWithin.l2 NN k lo hi xs xs.length i) ?_ ?_ xs (fun _ _ => trivial) h NN (NN_lt (by omega))
  · unfold impl_allWithin.f impl_allWithin.fn impl_allWithin.top
    refine this.trans ?_
    cases xs.all (inB · lo hi) <;> simp
  · intro k p
    simp [impl_allWithin.l2, impl_allWithin.g2]
  · intro k p a r _ c0 c1 cw
    simp only [impl_allWithin.l2, impl_allWithin.g2, c0, c1, cw, and_self, and_true, true_and, decide_true, decide_false, if_true, if_false, mid_get, mid_set, mid_getn, mid_setn, bt_mid, Option.bind_some, Bool.not_true, Bool.not_false, Bool.false_eq_true, Bool.true_eq_false, beq_self_eq_true, bne_self_eq_false, Int.toNat_natCast, impl_within_f]
    cases inB a lo hi <;> simp
/-- strictly rising -/
def risB : List Int → Bool
  | [] => true
  | [_] => true
  | a :: b :: r => decide (a < b) && risB (b :: r)
theorem risB_snoc : ∀ (p : List Int) (a b : Int), risB (p ++ [a, b]) = (risB (p ++ [a]) && decide (a < b)) := by
  intro p
  induction p with
  | nil => intro a b; simp [risB]
  | cons x p ih =>
    intro a b
    cases p with
    | nil => simp [risB]
    | cons y p =>
      have := ih a b
      simp only [List.cons_append] at this ⊢
      simp only [risB, this, Bool.and_assoc]
/-- rises, looked at from its second element on -/
def risF : Int → List Int → Bool
  | _, [] => true
  | a, b :: r => decide (a < b) && risF b r
theorem risB_cons (a : Int) (r : List Int) : risB (a :: r) = risF a r := by
  induction r generalizing a with
  | nil => rfl
  | cons b r ih => simp only [risB, risF, ih]
theorem snoc_getl (p r : List Int) (x a z : Int) : (p ++ [x] ++ a :: r).getD p.length z = x := by simp
theorem impl_IsPermit_loop (f t n c g : Int) : ∀ (r p : List Int) (x : Int) (k : Nat), p.length + r.length + 1 ≤ 140737488355328 → r.length < k →
    impl_IsPermit.l4 NN k ((p.length : Int) + 1) (f, t, n, c, p ++ [x] ++ r, g) = some (risF x r) := by
  intro r
  induction r with
  | nil =>
    intro p x k _ hk
    obtain ⟨k, rfl⟩ : ∃ j, k = j + 1 := ⟨k - 1, by omega⟩
    simp [impl_IsPermit.l4, impl_IsPermit.g4, risF]
  | cons a r ih =>
    intro p x k hb hk
    simp only [List.length_cons] at hb hk
    obtain ⟨k, rfl⟩ : ∃ j, k = j + 1 := ⟨k - 1, by omega⟩
    have hl : ((p ++ [x] ++ a :: r).length : Int) = p.length + r.length + 2 := by simp; omega
    have w1 := w64 (n := (p.length : Int) + 1 - 1) (by omega) (by omega)
    have w2 := w64 (n := (p.length : Int) + 1 + 1) (by omega) (by omega)
    have c1 : (p.length : Int) + 1 < ((p ++ [x] ++ a :: r).length : Int) := by omega
    have c2 : (0 : Int) ≤ (p.length : Int) + 1 - 1 := by omega
    have c3 : (p.length : Int) + 1 - 1 < ((p ++ [x] ++ a :: r).length : Int) := by omega
    have c4 : (0 : Int) ≤ (p.length : Int) + 1 := by omega
    have g1 : (p ++ [x] ++ a :: r).getD ((p.length : Int) + 1).toNat 0 = a := by
      rw [show ((p.length : Int) + 1).toNat = (p ++ [x]).length by simp, mid_getn]
    have g2 : (p ++ [x] ++ a :: r).getD ((p.length : Int) + 1 - 1).toNat 0 = x := by
      rw [show ((p.length : Int) + 1 - 1).toNat = p.length by omega, snoc_getl]
    simp only [impl_IsPermit.l4, impl_IsPermit.g4, w1, w2, c1, c2, c3, c4, g1, g2, and_self, decide_true, if_true, decide_eq_true_eq, risF]
    have := ih (p ++ [x]) a k (by simp; omega) (by omega)
    by_cases h : a ≤ x
    · have h' : ¬ x < a := by omega
      simp [h, h']
    · have h' : x < a := by omega
      simp only [h, h', if_false, decide_true, Bool.true_and]
      rw [← this]
      simp
theorem spec_l01Rises_loop (n : Int) (hn : Rg .i64 (n - 1)) : ∀ (r p : List Int) (x : Int) (k : Nat), p.length + r.length + 1 ≤ 140737488355328 → r.length < k →
    spec_l01Rises.l2 NN k (p ++ [x] ++ r) n ((p.length : Int) + 1) = some (r.all (inB · 0 (n - 1)) && risF x r) := by
  intro r
  induction r with
  | nil =>
    intro p x k _ hk
    obtain ⟨k, rfl⟩ : ∃ j, k = j + 1 := ⟨k - 1, by omega⟩
    simp [spec_l01Rises.l2, spec_l01Rises.g2, risF]
  | cons a r ih =>
    intro p x k hb hk
    simp only [List.length_cons] at hb hk
    obtain ⟨k, rfl⟩ : ∃ j, k = j + 1 := ⟨k - 1, by omega⟩
    have hl : ((p ++ [x] ++ a :: r).length : Int) = p.length + r.length + 2 := by simp; omega
    have w1 := w64 (n := (p.length : Int) + 1 - 1) (by omega) (by omega)
    have w2 := w64 (n := (p.length : Int) + 1 + 1) (by omega) (by omega)
    have hn' := wf64.1 hn
    have w3 := w64 (n := n - 1) (by omega) (by omega)
    have c1 : (p.length : Int) + 1 < ((p ++ [x] ++ a :: r).length : Int) := by omega
    have c2 : (0 : Int) ≤ (p.length : Int) + 1 - 1 := by omega
    have c3 : (p.length : Int) + 1 - 1 < ((p ++ [x] ++ a :: r).length : Int) := by omega
    have c4 : (0 : Int) ≤ (p.length : Int) + 1 := by omega
    have c5 : (0 : Int) < (p.length : Int) + 1 := by omega
    have g1 : (p ++ [x] ++ a :: r).getD ((p.length : Int) + 1).toNat 0 = a := by
      rw [show ((p.length : Int) + 1).toNat = (p ++ [x]).length by simp, mid_getn]
    have g2 : (p ++ [x] ++ a :: r).getD ((p.length : Int) + 1 - 1).toNat 0 = x := by
      rw [show ((p.length : Int) + 1 - 1).toNat = p.length by omega, snoc_getl]
    simp only [spec_l01Rises.l2, spec_l01Rises.g2, w1, w2, w3, c1, c2, c3, c4, c5, g1, g2, and_self, decide_true, if_true, decide_eq_true_eq, risF, spec_l01In_f, Option.bind_some, List.all_cons]
    have := ih (p ++ [x]) a k (by simp; omega) (by omega)
    cases h0 : inB a 0 (n - 1)
    · simp
    by_cases h : a ≤ x
    · have h' : ¬ x < a := by omega
      simp [h, h']
    · have h' : x < a := by omega
      simp only [h, h', if_false, decide_true, Bool.true_and, Bool.not_true, if_true]
      rw [← this]
      simp
theorem spec_l01Rises_f (xs : List Int) (n : Int) (hn : Rg .i64 (n - 1)) (h : xs.length ≤ 140737488355328) : spec_l01Rises.f xs n = some (xs.all (inB · 0 (n - 1)) && risB xs) := by
  unfold spec_l01Rises.f spec_l01Rises.fn spec_l01Rises.top
  obtain ⟨k, hk⟩ : ∃ j, NN = j + 1 := ⟨NN - 1, by have := NNb; omega⟩
  have hkb : 1000000000000000 < k := by rw [NN_eq] at hk; omega
  cases xs with
  | nil => rw [show spec_l01Rises.l2 NN NN = spec_l01Rises.l2 NN (k + 1) by rw [← hk]]; simp [spec_l01Rises.l2, spec_l01Rises.g2, risB]
  | cons a r =>
    simp only [List.length_cons] at h
    have hl := spec_l01Rises_loop n hn r [] a k (by simp; omega) (by omega)
    have hn' := wf64.1 hn
    have w3 := w64 (n := n - 1) (by omega) (by omega)
    have w1 := w64 (n := 0 + 1) (by omega) (by omega)
    have c1 : (0 : Int) < ((a :: r).length : Int) := by simp only [List.length_cons]; omega
    rw [show spec_l01Rises.l2 NN NN = spec_l01Rises.l2 NN (k + 1) by rw [← hk]]
    simp only [spec_l01Rises.l2, spec_l01Rises.g2, c1, w1, w3, spec_l01In_f]
    simp at hl
    simp [risB_cons, hl]
    cases inB a 0 (n - 1) <;> simp
def permB (p : Int × Int × Int × Int × List Int × Int) : Bool :=
  inB p.1 0 100000 && inB p.2.1 p.1 100000 && inB p.2.2.1 0 1000000000 && inB p.2.2.2.1 20 300 && (p.2.2.2.2.1.all (inB · 0 3) && risB p.2.2.2.2.1) && inB p.2.2.2.2.2 0 3
theorem spec_IsPermit_f (p : Int × Int × Int × Int × List Int × Int) (h : p.2.2.2.2.1.length ≤ 140737488355328) : spec_IsPermit.f p = some (permB p) := by
  unfold spec_IsPermit.f spec_IsPermit.fn spec_IsPermit.top permB
  simp only [spec_l01In_f, spec_l01Rises_f _ 4 (wf64.2 (by omega)) h, Option.bind_some, show (4 : Int) - 1 = 3 from rfl]
  cases inB p.1 0 100000 <;> cases inB p.2.1 p.1 100000 <;> cases inB p.2.2.1 0 1000000000 <;> cases inB p.2.2.2.1 20 300 <;> cases (p.2.2.2.2.1.all (inB · 0 3)) <;> cases risB p.2.2.2.2.1 <;> cases inB p.2.2.2.2.2 0 3 <;> rfl
theorem impl_IsPermit_f (p : Int × Int × Int × Int × List Int × Int) (h : p.2.2.2.2.1.length ≤ 140737488355328) : impl_IsPermit.f p = some (permB p) := by
  unfold impl_IsPermit.f impl_IsPermit.fn impl_IsPermit.top permB
  obtain ⟨f, t, n, c, ks, g⟩ := p
  simp only at h
  have hl : impl_IsPermit.l4 NN NN 1 (f, t, n, c, ks, g) = some (risB ks) := by
    cases ks with
    | nil =>
      obtain ⟨k, hk⟩ : ∃ j, NN = j + 1 := ⟨NN - 1, by have := NNb; omega⟩
      rw [show impl_IsPermit.l4 NN NN = impl_IsPermit.l4 NN (k + 1) by rw [← hk]]
      simp [impl_IsPermit.l4, impl_IsPermit.g4, risB]
    | cons a r =>
      simp only [List.length_cons] at h
      have := impl_IsPermit_loop f t n c g r [] a NN (by simp; omega) (NN_lt (by omega))
      simp at this
      rw [risB_cons, ← this]
  simp only [impl_isDay_f, impl_isCalibre_f, impl_within_f, impl_allWithin_f _ _ _ h, Option.bind_some, hl]
  have e : (inB f 0 100000 && inB t f 100000) = (inB f 0 100000 && inB t 0 100000 && !decide (t < f)) := by
    unfold inB
    by_cases h1 : 0 ≤ f <;> by_cases h2 : f ≤ 100000 <;> by_cases h3 : t ≤ 100000 <;> by_cases h4 : f ≤ t <;> by_cases h5 : 0 ≤ t <;> simp [h1, h2, h3, h4, h5] <;> omega
  rw [e]
  cases inB f 0 100000 <;> cases inB t 0 100000 <;> cases decide (t < f) <;> cases inB n 0 1000000000 <;> cases inB c 20 300 <;> cases (ks.all (inB · 0 3)) <;> cases inB g 0 3 <;> simp
theorem IsPermit_core (p : Int × Int × Int × Int × List Int × Int) (h : OkPermit p) : ∃ w, spec_IsPermit.f p = some w ∧ impl_IsPermit.f p = some w ∧ True :=
  have h1 : p.2.2.2.2.1.length ≤ 140737488355328 := Nat.le_trans h.2.2.2.2.1.1 (by omega)
  ⟨_, spec_IsPermit_f p h1, impl_IsPermit_f p h1, trivial⟩
end Go.Pl

namespace Go.Pl
open Go.Ev
set_option linter.unusedVariables false
noncomputable section
def spec_l31Cells.g4 (L4 : List Int → Int → (Int × Int × List Bool) → Option Int) (cells1 : List Int) (i5 : Int) (g2 : Int × Int × List Bool) : Option Int :=
  if (decide ((i5 : Int) < (cells1.length : Int))) = true then
    if (0 : Int) ≤ i5 ∧ (i5 : Int) < cells1.length then
      (spec_l01In.f (cells1.getD (i5 : Int).toNat 0) 0 (IntKind.i64.wrap ((IntKind.i64.wrap (g2.1 * g2.2.1)) - 1))).bind fun r2 =>
      if (!r2) = true then
        some 2
      else
        L4 cells1 (IntKind.i64.wrap (i5 + 1)) g2
    else
      none
  else if (decide ((200 : Int) < (cells1.length : Int))) = true then
    some 2
  else
    some 0
def spec_l31Cells.l4 (n : Nat) : Nat → List Int → Int → (Int × Int × List Bool) → Option Int
  | 0 => fun _ _ _ => none
  | k + 1 => spec_l31Cells.g4 (spec_l31Cells.l4 n k)
def spec_l31Cells.top (I4 : List Int → Int → (Int × Int × List Bool) → Option Int) (g0 : Int × Int × List Bool) (cells1 : List Int) : Option Int :=
  (spec_IsGrid.f g0).bind fun r1 =>
  if (!r1) = true then
    some 1
  else
    I4 cells1 0 g0
def spec_l31Cells.fn (n : Nat) (g0 : Int × Int × List Bool) (cells1 : List Int) : Option Int := spec_l31Cells.top (spec_l31Cells.l4 n n) g0 cells1
def spec_l31Cells.f (g0 : Int × Int × List Bool) (cells1 : List Int) : Option Int := spec_l31Cells.fn NN g0 cells1
end
end Go.Pl

namespace Go.Pl
open Go.Ev
set_option linter.unusedVariables false
set_option linter.unusedSimpArgs false
theorem small_rg {xs : List Int} {n : Nat} (h : xs.length ≤ 1000000) (h2 : ∀ c ∈ xs, 0 ≤ c ∧ c ≤ 1000000) : Lm (Rg .i64) xs := ⟨h, fun c hc => wf64.2 (by have := h2 c hc; omega)⟩
def cellsR (g : Int × Int × List Bool) : List Int × Int := if gridB g = true then (cellsL g.2.2, 0) else ([], 1)
theorem spec_CellsLeft_f (g : Int × Int × List Bool) (hl : g.2.2.length ≤ 1000000) : spec_CellsLeft.f g = some (cellsR g) := by
  unfold spec_CellsLeft.f spec_CellsLeft.fn spec_CellsLeft.top cellsR
  rw [spec_l31Code_f, code00]
  cases gridB g
  · rfl
  · simp only [and_self, and_true, true_and, decide_true, decide_false, if_true, if_false, mid_get, mid_set, mid_getn, mid_setn, bt_mid, Option.bind_some, Bool.not_true, Bool.not_false, Bool.false_eq_true, Bool.true_eq_false, beq_self_eq_true, bne_self_eq_false, Int.toNat_natCast]
    rw [spec_l31Left_f g hl]; rfl
theorem impl_CellsLeft_f (g : Int × Int × List Bool) (hl : g.2.2.length ≤ 1000000) : impl_CellsLeft.f g = some (cellsR g) := by
  unfold impl_CellsLeft.f impl_CellsLeft.fn impl_CellsLeft.top cellsR
  rw [impl_IsGrid_f]
  cases gridB g
  · rfl
  · simp only [and_self, and_true, true_and, decide_true, decide_false, if_true, if_false, mid_get, mid_set, mid_getn, mid_setn, bt_mid, Option.bind_some, Bool.not_true, Bool.not_false, Bool.false_eq_true, Bool.true_eq_false, beq_self_eq_true, bne_self_eq_false, Int.toNat_natCast]
    rw [impl_cellsLeft_f g hl]; rfl
theorem CellsLeft_core (g : Int × Int × List Bool) (h : OkGrid g) : ∃ w, spec_CellsLeft.f g = some w ∧ impl_CellsLeft.f g = some w ∧ Lm (Rg .i64) w.1 := by
  have hl : g.2.2.length ≤ 1000000 := h.2.2.1
  refine ⟨cellsR g, spec_CellsLeft_f g hl, impl_CellsLeft_f g hl, ?_⟩
  have := @cellsL_in g.2.2
  unfold cellsR
  split
  · exact ⟨by simp only; omega, fun c hc => wf64.2 (by have := this.2 c hc; omega)⟩
  · exact ⟨by simp, fun c hc => by cases hc⟩
def cellsB (g : Int × Int × List Bool) (cells : List Int) : Bool := decide (cells.length ≤ 200) && cells.all (inB · 0 (g.1 * g.2.1 - 1))
theorem impl_areCells_f (g : Int × Int × List Bool) (cells : List Int) (h : gridB g = true) (hc : cells.length ≤ 1000000) : impl_areCells.f g cells = some (cellsB g cells) := by
  have hg := gridB_iff.1 h
  have h3 := mul_le144 hg.1 hg.2.1 hg.2.2.1 hg.2.2.2.1
  unfold impl_areCells.f impl_areCells.fn impl_areCells.top cellsB
  rw [w64 (n := g.1 * g.2.1) (by omega) (by omega), w64 (by omega) (by omega), impl_allWithin_f _ _ _ (by omega)]
  by_cases h1 : cells.length ≤ 200
  · have : (cells.length : Int) ≤ 200 := by omega
    simp [h1, this]
  · have : ¬ (cells.length : Int) ≤ 200 := by omega
    simp [h1, this]
theorem spec_l31Cells_f (g : Int × Int × List Bool) (cells : List Int) (hc : cells.length ≤ 1000000) : spec_l31Cells.f g cells = some (if gridB g = true then (if cellsB g cells = true then 0 else 2) else 1) := by
  unfold spec_l31Cells.f spec_l31Cells.fn spec_l31Cells.top
  rw [spec_IsGrid_f]
  cases h : gridB g
  · rfl
  have hg := gridB_iff.1 h
  have h3 := mul_le144 hg.1 hg.2.1 hg.2.2.1 hg.2.2.2.1
  simp only [and_self, and_true, true_and, decide_true, decide_false, if_true, if_false, mid_get, mid_set, mid_getn, mid_setn, bt_mid, Option.bind_some, Bool.not_true, Bool.not_false, Bool.false_eq_true, Bool.true_eq_false, beq_self_eq_true, bne_self_eq_false, Int.toNat_natCast]
  have := find_loop (E := fun _ => True) (fun c => !(inB c 0 (g.1 * g.2.1 - 1))) (fun _ _ => some (2 : Int)) (fun xs => if (200 : Int) < xs.length then some 2 else some 0) (fun k xs i => spec_l31Cells.l4 NN k xs i g) ?_ ?_ cells (fun _ _ => trivial) (by omega) NN (NN_lt (by omega))
  · refine this.trans ?_
    have key : ∀ (xs : List Int) (i : Nat), (firstOf (fun c => !(inB c 0 (g.1 * g.2.1 - 1))) i xs).elim (if (200 : Int) < cells.length then some 2 else some 0) (fun _ => some (2 : Int)) = if xs.all (inB · 0 (g.1 * g.2.1 - 1)) = true then (if (200 : Int) < cells.length then some 2 else some 0) else some 2 := by
      intro xs
      induction xs with
      | nil => intro i; simp [firstOf]
      | cons a r ih =>
        intro i
        cases h5 : inB a 0 (g.1 * g.2.1 - 1)
        · simp [firstOf, h5]
        · simp only [firstOf, h5, Bool.not_true, Bool.false_eq_true, if_false, List.all_cons, Bool.true_and]
          exact ih _
    refine (key cells 0).trans ?_
    unfold cellsB
    by_cases h1 : cells.length ≤ 200
    · have : ¬ (200 : Int) < cells.length := by omega
      cases cells.all (inB · 0 (g.1 * g.2.1 - 1)) <;> simp [h1, this]
    · have : (200 : Int) < cells.length := by omega
      cases cells.all (inB · 0 (g.1 * g.2.1 - 1)) <;> simp [h1, this]
  · intro k p
    simp [spec_l31Cells.l4, spec_l31Cells.g4]
  · intro k p a r _ c0 c1 c2 cw
    simp only [spec_l31Cells.l4, spec_l31Cells.g4, c0, c1, cw, and_self, and_true, true_and, decide_true, decide_false, if_true, if_false, mid_get, mid_set, mid_getn, mid_setn, bt_mid, Option.bind_some, Bool.not_true, Bool.not_false, Bool.false_eq_true, Bool.true_eq_false, beq_self_eq_true, bne_self_eq_false, Int.toNat_natCast, spec_l01In_f]
    rw [w64 (n := g.1 * g.2.1) (by omega) (by omega), w64 (by omega) (by omega)]
theorem cellsB_iff {g : Int × Int × List Bool} {cells : List Int} (h : gridB g = true) (hc : cellsB g cells = true) : cells.length ≤ 200 ∧ ∀ c ∈ cells, 0 ≤ c ∧ c < (g.2.2.length : Int) ∧ c < 144 := by
  have hg := gridB_iff.1 h
  have h3 := mul_le144 hg.1 hg.2.1 hg.2.2.1 hg.2.2.2.1
  unfold cellsB at hc
  simp only [Bool.and_eq_true, decide_eq_true_eq, List.all_eq_true, inB_iff] at hc
  exact ⟨hc.1, fun c h => by have := hc.2 c h; omega⟩
end Go.Pl

namespace Go.Pl
open Go.Ev
set_option linter.unusedVariables false
noncomputable section
def impl_SweepOrder.g8 (L5 : Int → (Int × Int × List Bool) → List Int → Option (List Int × Int)) (L8 : Int → Int → (Int × Int × List Bool) → List Int → Option (List Int × Int)) (y5 : Int) (k6 : Int) (g1 : Int × Int × List Bool) (out4 : List Int) : Option (List Int × Int) :=
  if (decide ((k6 : Int) < g1.1)) = true then
    if (((Int.tmod y5 2) : Int) == 1) = true then
      if (0 : Int) ≤ (IntKind.i64.wrap ((IntKind.i64.wrap (y5 * g1.1)) + (IntKind.i64.wrap ((IntKind.i64.wrap (g1.1 - 1)) - k6)))) ∧ ((IntKind.i64.wrap ((IntKind.i64.wrap (y5 * g1.1)) + (IntKind.i64.wrap ((IntKind.i64.wrap (g1.1 - 1)) - k6)))) : Int) < g1.2.2.length then
        if (!(g1.2.2.getD ((IntKind.i64.wrap ((IntKind.i64.wrap (y5 * g1.1)) + (IntKind.i64.wrap ((IntKind.i64.wrap (g1.1 - 1)) - k6)))) : Int).toNat false)) = true then
          if out4.length + ([IntKind.i64.wrap ((IntKind.i64.wrap (y5 * g1.1)) + (IntKind.i64.wrap ((IntKind.i64.wrap (g1.1 - 1)) - k6)))]).length < room 8 then
            L8 y5 (IntKind.i64.wrap (k6 + 1)) g1 (out4 ++ ([IntKind.i64.wrap ((IntKind.i64.wrap (y5 * g1.1)) + (IntKind.i64.wrap ((IntKind.i64.wrap (g1.1 - 1)) - k6)))]))
          else
            none
        else
          L8 y5 (IntKind.i64.wrap (k6 + 1)) g1 out4
      else
        none
    else if (0 : Int) ≤ (IntKind.i64.wrap ((IntKind.i64.wrap (y5 * g1.1)) + k6)) ∧ ((IntKind.i64.wrap ((IntKind.i64.wrap (y5 * g1.1)) + k6)) : Int) < g1.2.2.length then
      if (!(g1.2.2.getD ((IntKind.i64.wrap ((IntKind.i64.wrap (y5 * g1.1)) + k6)) : Int).toNat false)) = true then
        if out4.length + ([IntKind.i64.wrap ((IntKind.i64.wrap (y5 * g1.1)) + k6)]).length < room 8 then
          L8 y5 (IntKind.i64.wrap (k6 + 1)) g1 (out4 ++ ([IntKind.i64.wrap ((IntKind.i64.wrap (y5 * g1.1)) + k6)]))
        else
          none
      else
        L8 y5 (IntKind.i64.wrap (k6 + 1)) g1 out4
    else
      none
  else
    L5 (IntKind.i64.wrap (y5 + 1)) g1 out4
def impl_SweepOrder.l8 (n : Nat) (L5 : Int → (Int × Int × List Bool) → List Int → Option (List Int × Int)) : Nat → Int → Int → (Int × Int × List Bool) → List Int → Option (List Int × Int)
  | 0 => fun _ _ _ _ => none
  | k + 1 => impl_SweepOrder.g8 L5 (impl_SweepOrder.l8 n L5 k)
def impl_SweepOrder.g5 (I8 : Int → Int → (Int × Int × List Bool) → List Int → Option (List Int × Int)) (L5 : Int → (Int × Int × List Bool) → List Int → Option (List Int × Int)) (y5 : Int) (g1 : Int × Int × List Bool) (out4 : List Int) : Option (List Int × Int) :=
  if (decide ((y5 : Int) < g1.2.1)) = true then
    I8 y5 0 g1 out4
  else
    some (out4, 0)
def impl_SweepOrder.l5 (n : Nat) : Nat → Int → (Int × Int × List Bool) → List Int → Option (List Int × Int)
  | 0 => fun _ _ _ => none
  | k + 1 => impl_SweepOrder.g5 (impl_SweepOrder.l8 n (impl_SweepOrder.l5 n k) n) (impl_SweepOrder.l5 n k)
def impl_SweepOrder.top (I5 : Int → (Int × Int × List Bool) → List Int → Option (List Int × Int)) (g0 : Int × Int × List Bool) : Option (List Int × Int) :=
  (impl_IsGrid.f g0).bind fun r1 =>
  if (!r1) = true then
    some ([], 1)
  else
    I5 0 g0 []
def impl_SweepOrder.fn (n : Nat) (g0 : Int × Int × List Bool) : Option (List Int × Int) := impl_SweepOrder.top (impl_SweepOrder.l5 n n) g0
def impl_SweepOrder.f (g0 : Int × Int × List Bool) : Option (List Int × Int) := impl_SweepOrder.fn NN g0
end
end Go.Pl

namespace Go.Pl
open Go.Ev
set_option linter.unusedVariables false
noncomputable section
def spec_SweepOrder.g9 (L6 : Int → (Int × Int × List Bool) → List Int → Option (List Int × Int)) (L9 : Int → Int → (Int × Int × List Bool) → List Int → Option (List Int × Int)) (y6 : Int) (k7 : Int) (g1 : Int × Int × List Bool) (out5 : List Int) : Option (List Int × Int) :=
  if (decide ((k7 : Int) < g1.1)) = true then
    if (((Int.tmod y6 2) : Int) == 1) = true then
      if (0 : Int) ≤ (IntKind.i64.wrap ((IntKind.i64.wrap (y6 * g1.1)) + (IntKind.i64.wrap ((IntKind.i64.wrap (g1.1 - 1)) - k7)))) ∧ ((IntKind.i64.wrap ((IntKind.i64.wrap (y6 * g1.1)) + (IntKind.i64.wrap ((IntKind.i64.wrap (g1.1 - 1)) - k7)))) : Int) < g1.2.2.length then
        if (!(g1.2.2.getD ((IntKind.i64.wrap ((IntKind.i64.wrap (y6 * g1.1)) + (IntKind.i64.wrap ((IntKind.i64.wrap (g1.1 - 1)) - k7)))) : Int).toNat false)) = true then
          if out5.length + ([IntKind.i64.wrap ((IntKind.i64.wrap (y6 * g1.1)) + (IntKind.i64.wrap ((IntKind.i64.wrap (g1.1 - 1)) - k7)))]).length < room 8 then
            L9 y6 (IntKind.i64.wrap (k7 + 1)) g1 (out5 ++ ([IntKind.i64.wrap ((IntKind.i64.wrap (y6 * g1.1)) + (IntKind.i64.wrap ((IntKind.i64.wrap (g1.1 - 1)) - k7)))]))
          else
            none
        else
          L9 y6 (IntKind.i64.wrap (k7 + 1)) g1 out5
      else
        none
    else if (0 : Int) ≤ (IntKind.i64.wrap ((IntKind.i64.wrap (y6 * g1.1)) + k7)) ∧ ((IntKind.i64.wrap ((IntKind.i64.wrap (y6 * g1.1)) + k7)) : Int) < g1.2.2.length then
      if (!(g1.2.2.getD ((IntKind.i64.wrap ((IntKind.i64.wrap (y6 * g1.1)) + k7)) : Int).toNat false)) = true then
        if out5.length + ([IntKind.i64.wrap ((IntKind.i64.wrap (y6 * g1.1)) + k7)]).length < room 8 then
          L9 y6 (IntKind.i64.wrap (k7 + 1)) g1 (out5 ++ ([IntKind.i64.wrap ((IntKind.i64.wrap (y6 * g1.1)) + k7)]))
        else
          none
      else
        L9 y6 (IntKind.i64.wrap (k7 + 1)) g1 out5
    else
      none
  else
    L6 (IntKind.i64.wrap (y6 + 1)) g1 out5
def spec_SweepOrder.l9 (n : Nat) (L6 : Int → (Int × Int × List Bool) → List Int → Option (List Int × Int)) : Nat → Int → Int → (Int × Int × List Bool) → List Int → Option (List Int × Int)
  | 0 => fun _ _ _ _ => none
  | k + 1 => spec_SweepOrder.g9 L6 (spec_SweepOrder.l9 n L6 k)
def spec_SweepOrder.g6 (I9 : Int → Int → (Int × Int × List Bool) → List Int → Option (List Int × Int)) (L6 : Int → (Int × Int × List Bool) → List Int → Option (List Int × Int)) (y6 : Int) (g1 : Int × Int × List Bool) (out5 : List Int) : Option (List Int × Int) :=
  if (decide ((y6 : Int) < g1.2.1)) = true then
    I9 y6 0 g1 out5
  else
    some (out5, 0)
def spec_SweepOrder.l6 (n : Nat) : Nat → Int → (Int × Int × List Bool) → List Int → Option (List Int × Int)
  | 0 => fun _ _ _ => none
  | k + 1 => spec_SweepOrder.g6 (spec_SweepOrder.l9 n (spec_SweepOrder.l6 n k) n) (spec_SweepOrder.l6 n k)
def spec_SweepOrder.top (I6 : Int → (Int × Int × List Bool) → List Int → Option (List Int × Int)) (g0 : Int × Int × List Bool) : Option (List Int × Int) :=
  (spec_l31Code.f g0 0 0).bind fun r1 =>
  if ((r1 : Int) != 0) = true then
    some ([], r1)
  else
    I6 0 g0 []
def spec_SweepOrder.fn (n : Nat) (g0 : Int × Int × List Bool) : Option (List Int × Int) := spec_SweepOrder.top (spec_SweepOrder.l6 n n) g0
def spec_SweepOrder.f (g0 : Int × Int × List Bool) : Option (List Int × Int) := spec_SweepOrder.fn NN g0
end
end Go.Pl

namespace Go.Pl
open Go.Ev
set_option linter.unusedVariables false
set_option linter.unusedSimpArgs false
def addS (s : List Bool) (i : Int) (out : List Int) : List Int := if s.getD i.toNat false = true then out else out ++ [i]
def idxS (w y k : Nat) : Int := if y % 2 = 1 then (y * w : Nat) + ((w : Int) - 1 - k) else (y * w : Nat) + (k : Int)
def sweepR (s : List Bool) (w y : Nat) (out : List Int) : List Int := foldi (fun k st (_ : Unit) => addS s (idxS w y k) st) 0 out (List.replicate w ())
def sweepL (s : List Bool) (w h : Nat) : List Int := foldi (fun y st (_ : Unit) => sweepR s w y st) 0 [] (List.replicate h ())
theorem ymod (y : Nat) : ((Int.tmod (y : Int) 2 == 1) = true) ↔ y % 2 = 1 := by
  rw [beq_iff_eq, Int.tmod_eq_emod_of_nonneg (by omega)]; omega
theorem impl_SweepOrder_in (s : List Bool) (w h : Nat) (L : Int → (Int × Int × List Bool) → List Int → Option (List Int × Int)) (y : Nat) (out : List Int) (hs : s.length = w * h) (hw : w ≤ 12) (hh : h ≤ 12) (hyh : y < h) (ho : out.length ≤ 12 * y ∧ ∀ c ∈ out, 0 ≤ c ∧ c < 144) :
    ((sweepR s w y out).length ≤ 12 * (y + 1) ∧ ∀ c ∈ sweepR s w y out, 0 ≤ c ∧ c < 144) ∧ impl_SweepOrder.l8 NN L NN y 0 (w, h, s) out = L ((y : Int) + 1) (w, h, s) (sweepR s w y out) := by
  have h2 : (y + 1) * w = y * w + w := by rw [Nat.add_mul, Nat.one_mul]
  have h1 : (y + 1) * w ≤ s.length := by rw [hs, Nat.mul_comm w h]; exact Nat.mul_le_mul_right _ hyh
  have h3 : y * w ≤ 12 * 12 := Nat.mul_le_mul (by omega) hw
  have h4 : s.length ≤ 12 * 12 := by rw [hs]; exact Nat.mul_le_mul hw hh
  have := fold_fix (E := fun _ => True) (fun p st => st.length ≤ 12 * y + p.length ∧ ∀ c ∈ st, 0 ≤ c ∧ c < 144) (fun k st (_ : Unit) => addS s (idxS w y k) st) (fun st => L ((y : Int) + 1) (w, h, s) st) (fun k i st => impl_SweepOrder.l8 NN L k y i (w, h, s) st) (List.replicate w ()) ?_ ?_ out (fun _ _ => trivial) ⟨by simpa using ho.1, ho.2⟩ (by simp; omega) NN (NN_lt (by simp; omega))
  · obtain ⟨⟨i1, i2⟩, i3⟩ := this
    rw [List.length_replicate] at i1
    exact ⟨⟨by unfold sweepR; omega, i2⟩, i3⟩
  · intro k st _
    have e1 := w64 (n := (y : Int) + 1) (by omega) (by omega)
    simp [impl_SweepOrder.l8, impl_SweepOrder.g8, e1]
  · intro k p b r st hx _ hI c0 c1 c2 cw _
    rw [List.length_replicate] at c1
    have e1 := w64 (n := ((y * w : Nat) : Int)) (by omega) (by omega)
    have bd : 0 ≤ idxS w y p.length ∧ idxS w y p.length < (s.length : Int) := by
      unfold idxS; split <;> omega
    have hr : st.length + 1 < room 8 := by rw [room8]; omega
    refine ⟨⟨?_, ?_⟩, ?_⟩
    · unfold addS; rw [List.length_append, List.length_singleton]; split <;> (try simp) <;> omega
    · intro c hc
      unfold addS at hc
      split at hc
      · exact hI.2 c hc
      · rcases List.mem_append.1 hc with h | h
        · exact hI.2 c h
        · rw [List.mem_singleton.1 h]; omega
    · simp only [impl_SweepOrder.l8, impl_SweepOrder.g8, c1, cw, y_cast, e1, and_self, and_true, true_and, decide_true, decide_false, if_true, if_false, mid_get, mid_set, mid_getn, mid_setn, bt_mid, Option.bind_some, Bool.not_true, Bool.not_false, Bool.false_eq_true, Bool.true_eq_false, beq_self_eq_true, bne_self_eq_false, Int.toNat_natCast]
      by_cases hm : y % 2 = 1
      · have hi : idxS w y p.length = ((y * w : Nat) : Int) + ((w : Int) - 1 - p.length) := by unfold idxS; rw [if_pos hm]
        rw [hi] at bd ⊢
        have e2 := w64 (n := (w : Int) - 1) (by omega) (by omega)
        have e3 := w64 (n := (w : Int) - 1 - p.length) (by omega) (by omega)
        have e4 := w64 (n := ((y * w : Nat) : Int) + ((w : Int) - 1 - p.length)) (by omega) (by omega)
        simp only [(ymod y).2 hm, e2, e3, e4, bd.1, bd.2, and_self, and_true, true_and, decide_true, decide_false, if_true, if_false, mid_get, mid_set, mid_getn, mid_setn, bt_mid, Option.bind_some, Bool.not_true, Bool.not_false, Bool.false_eq_true, Bool.true_eq_false, beq_self_eq_true, bne_self_eq_false, Int.toNat_natCast, List.length_singleton, hr]
        unfold addS
        cases s.getD (((y * w : Nat) : Int) + ((w : Int) - 1 - p.length)).toNat false <;> simp
      · have hi : idxS w y p.length = ((y * w : Nat) : Int) + (p.length : Int) := by unfold idxS; rw [if_neg hm]
        rw [hi] at bd ⊢
        have e4 := w64 (n := ((y * w : Nat) : Int) + (p.length : Int)) (by omega) (by omega)
        have hm' : ¬ ((Int.tmod (y : Int) 2 == 1) = true) := fun h => hm ((ymod y).1 h)
        simp only [hm', e4, bd.1, bd.2, and_self, and_true, true_and, decide_true, decide_false, if_true, if_false, mid_get, mid_set, mid_getn, mid_setn, bt_mid, Option.bind_some, Bool.not_true, Bool.not_false, Bool.false_eq_true, Bool.true_eq_false, beq_self_eq_true, bne_self_eq_false, Int.toNat_natCast, List.length_singleton, hr]
        unfold addS
        cases s.getD (((y * w : Nat) : Int) + (p.length : Int)).toNat false <;> simp
theorem impl_SweepOrder_l (s : List Bool) (w h : Nat) (hs : s.length = w * h) (hw : w ≤ 12) (hh : h ≤ 12) : ((sweepL s w h).length ≤ 12 * h ∧ ∀ c ∈ sweepL s w h, 0 ≤ c ∧ c < 144) ∧ impl_SweepOrder.l5 NN NN 0 (w, h, s) [] = some (sweepL s w h, 0) := by
  have := fold_fix (E := fun _ => True) (fun p st => st.length ≤ 12 * p.length ∧ ∀ c ∈ st, 0 ≤ c ∧ c < 144) (fun y st (_ : Unit) => sweepR s w y st) (fun st => some (st, (0 : Int))) (fun k i st => impl_SweepOrder.l5 NN k i (w, h, s) st) (List.replicate h ()) ?_ ?_ [] (fun _ _ => trivial) ⟨by simp, by simp⟩ (by simp; omega) NN (NN_lt (by simp; omega))
  · obtain ⟨i1, i3⟩ := this
    rw [List.length_replicate] at i1
    exact ⟨i1, i3⟩
  · intro k st _
    simp [impl_SweepOrder.l5, impl_SweepOrder.g5]
  · intro k p b r st hx _ hI c0 c1 c2 cw _
    rw [List.length_replicate] at c1
    obtain ⟨k1, k2⟩ := impl_SweepOrder_in s w h (impl_SweepOrder.l5 NN k) p.length st hs hw hh (by omega) hI
    refine ⟨⟨by rw [List.length_append, List.length_singleton]; exact k1.1, k1.2⟩, ?_⟩
    simp only [impl_SweepOrder.l5, impl_SweepOrder.g5, c1, and_self, and_true, true_and, decide_true, decide_false, if_true, if_false, mid_get, mid_set, mid_getn, mid_setn, bt_mid, Option.bind_some, Bool.not_true, Bool.not_false, Bool.false_eq_true, Bool.true_eq_false, beq_self_eq_true, bne_self_eq_false, Int.toNat_natCast]
    exact k2
theorem spec_SweepOrder_in (s : List Bool) (w h : Nat) (L : Int → (Int × Int × List Bool) → List Int → Option (List Int × Int)) (y : Nat) (out : List Int) (hs : s.length = w * h) (hw : w ≤ 12) (hh : h ≤ 12) (hyh : y < h) (ho : out.length ≤ 12 * y ∧ ∀ c ∈ out, 0 ≤ c ∧ c < 144) :
    ((sweepR s w y out).length ≤ 12 * (y + 1) ∧ ∀ c ∈ sweepR s w y out, 0 ≤ c ∧ c < 144) ∧ spec_SweepOrder.l9 NN L NN y 0 (w, h, s) out = L ((y : Int) + 1) (w, h, s) (sweepR s w y out) := by
  have h2 : (y + 1) * w = y * w + w := by rw [Nat.add_mul, Nat.one_mul]
  have h1 : (y + 1) * w ≤ s.length := by rw [hs, Nat.mul_comm w h]; exact Nat.mul_le_mul_right _ hyh
  have h3 : y * w ≤ 12 * 12 := Nat.mul_le_mul (by omega) hw
  have h4 : s.length ≤ 12 * 12 := by rw [hs]; exact Nat.mul_le_mul hw hh
  have := fold_fix (E := fun _ => True) (fun p st => st.length ≤ 12 * y + p.length ∧ ∀ c ∈ st, 0 ≤ c ∧ c < 144) (fun k st (_ : Unit) => addS s (idxS w y k) st) (fun st => L ((y : Int) + 1) (w, h, s) st) (fun k i st => spec_SweepOrder.l9 NN L k y i (w, h, s) st) (List.replicate w ()) ?_ ?_ out (fun _ _ => trivial) ⟨by simpa using ho.1, ho.2⟩ (by simp; omega) NN (NN_lt (by simp; omega))
  · obtain ⟨⟨i1, i2⟩, i3⟩ := this
    rw [List.length_replicate] at i1
    exact ⟨⟨by unfold sweepR; omega, i2⟩, i3⟩
  · intro k st _
    have e1 := w64 (n := (y : Int) + 1) (by omega) (by omega)
    simp [spec_SweepOrder.l9, spec_SweepOrder.g9, e1]
  · intro k p b r st hx _ hI c0 c1 c2 cw _
    rw [List.length_replicate] at c1
    have e1 := w64 (n := ((y * w : Nat) : Int)) (by omega) (by omega)
    have bd : 0 ≤ idxS w y p.length ∧ idxS w y p.length < (s.length : Int) := by
      unfold idxS; split <;> omega
    have hr : st.length + 1 < room 8 := by rw [room8]; omega
    refine ⟨⟨?_, ?_⟩, ?_⟩
    · unfold addS; rw [List.length_append, List.length_singleton]; split <;> (try simp) <;> omega
    · intro c hc
      unfold addS at hc
      split at hc
      · exact hI.2 c hc
      · rcases List.mem_append.1 hc with h | h
        · exact hI.2 c h
        · rw [List.mem_singleton.1 h]; omega
    · simp only [spec_SweepOrder.l9, spec_SweepOrder.g9, c1, cw, y_cast, e1, and_self, and_true, true_and, decide_true, decide_false, if_true, if_false, mid_get, mid_set, mid_getn, mid_setn, bt_mid, Option.bind_some, Bool.not_true, Bool.not_false, Bool.false_eq_true, Bool.true_eq_false, beq_self_eq_true, bne_self_eq_false, Int.toNat_natCast]
      by_cases hm : y % 2 = 1
      · have hi : idxS w y p.length = ((y * w : Nat) : Int) + ((w : Int) - 1 - p.length) := by unfold idxS; rw [if_pos hm]
        rw [hi] at bd ⊢
        have e2 := w64 (n := (w : Int) - 1) (by omega) (by omega)
        have e3 := w64 (n := (w : Int) - 1 - p.length) (by omega) (by omega)
        have e4 := w64 (n := ((y * w : Nat) : Int) + ((w : Int) - 1 - p.length)) (by omega) (by omega)
        simp only [(ymod y).2 hm, e2, e3, e4, bd.1, bd.2, and_self, and_true, true_and, decide_true, decide_false, if_true, if_false, mid_get, mid_set, mid_getn, mid_setn, bt_mid, Option.bind_some, Bool.not_true, Bool.not_false, Bool.false_eq_true, Bool.true_eq_false, beq_self_eq_true, bne_self_eq_false, Int.toNat_natCast, List.length_singleton, hr]
        unfold addS
        cases s.getD (((y * w : Nat) : Int) + ((w : Int) - 1 - p.length)).toNat false <;> simp
      · have hi : idxS w y p.length = ((y * w : Nat) : Int) + (p.length : Int) := by unfold idxS; rw [if_neg hm]
        rw [hi] at bd ⊢
        have e4 := w64 (n := ((y * w : Nat) : Int) + (p.length : Int)) (by omega) (by omega)
        have hm' : ¬ ((Int.tmod (y : Int) 2 == 1) = true) := fun h => hm ((ymod y).1 h)
        simp only [hm', e4, bd.1, bd.2, and_self, and_true, true_and, decide_true, decide_false, if_true, if_false, mid_get, mid_set, mid_getn, mid_setn, bt_mid, Option.bind_some, Bool.not_true, Bool.not_false, Bool.false_eq_true, Bool.true_eq_false, beq_self_eq_true, bne_self_eq_false, Int.toNat_natCast, List.length_singleton, hr]
        unfold addS
        cases s.getD (((y * w : Nat) : Int) + (p.length : Int)).toNat false <;> simp
theorem spec_SweepOrder_l (s : List Bool) (w h : Nat) (hs : s.length = w * h) (hw : w ≤ 12) (hh : h ≤ 12) : ((sweepL s w h).length ≤ 12 * h ∧ ∀ c ∈ sweepL s w h, 0 ≤ c ∧ c < 144) ∧ spec_SweepOrder.l6 NN NN 0 (w, h, s) [] = some (sweepL s w h, 0) := by
  have := fold_fix (E := fun _ => True) (fun p st => st.length ≤ 12 * p.length ∧ ∀ c ∈ st, 0 ≤ c ∧ c < 144) (fun y st (_ : Unit) => sweepR s w y st) (fun st => some (st, (0 : Int))) (fun k i st => spec_SweepOrder.l6 NN k i (w, h, s) st) (List.replicate h ()) ?_ ?_ [] (fun _ _ => trivial) ⟨by simp, by simp⟩ (by simp; omega) NN (NN_lt (by simp; omega))
  · obtain ⟨i1, i3⟩ := this
    rw [List.length_replicate] at i1
    exact ⟨i1, i3⟩
  · intro k st _
    simp [spec_SweepOrder.l6, spec_SweepOrder.g6]
  · intro k p b r st hx _ hI c0 c1 c2 cw _
    rw [List.length_replicate] at c1
    obtain ⟨k1, k2⟩ := spec_SweepOrder_in s w h (spec_SweepOrder.l6 NN k) p.length st hs hw hh (by omega) hI
    refine ⟨⟨by rw [List.length_append, List.length_singleton]; exact k1.1, k1.2⟩, ?_⟩
    simp only [spec_SweepOrder.l6, spec_SweepOrder.g6, c1, and_self, and_true, true_and, decide_true, decide_false, if_true, if_false, mid_get, mid_set, mid_getn, mid_setn, bt_mid, Option.bind_some, Bool.not_true, Bool.not_false, Bool.false_eq_true, Bool.true_eq_false, beq_self_eq_true, bne_self_eq_false, Int.toNat_natCast]
    exact k2
def sweepO (g : Int × Int × List Bool) : List Int × Int := if gridB g = true then (sweepL g.2.2 g.1.toNat g.2.1.toNat, 0) else ([], 1)
theorem SweepOrder_both (g : Int × Int × List Bool) : spec_SweepOrder.f g = some (sweepO g) ∧ impl_SweepOrder.f g = some (sweepO g) ∧ (sweepO g).1.length ≤ 144 ∧ ∀ c ∈ (sweepO g).1, 0 ≤ c ∧ c < 144 := by
  obtain ⟨wi, hi, s⟩ := g
  unfold sweepO
  cases hg : gridB (wi, hi, s)
  · refine ⟨?_, ?_, by simp, by simp⟩
    · unfold spec_SweepOrder.f spec_SweepOrder.fn spec_SweepOrder.top
      rw [spec_l31Code_f, code00, hg]; rfl
    · unfold impl_SweepOrder.f impl_SweepOrder.fn impl_SweepOrder.top
      rw [impl_IsGrid_f, hg]; rfl
  · have hgb := gridB_iff.1 hg
    simp only at hgb
    obtain ⟨w, rfl⟩ := Int.eq_ofNat_of_zero_le (show 0 ≤ wi by omega)
    obtain ⟨hh, rfl⟩ := Int.eq_ofNat_of_zero_le (show 0 ≤ hi by omega)
    have hs : s.length = w * hh := by have := hgb.2.2.2.2; rw [← Int.natCast_mul] at this; omega
    have e1 := impl_SweepOrder_l s w hh hs (by omega) (by omega)
    have e2 := spec_SweepOrder_l s w hh hs (by omega) (by omega)
    simp only [if_true, Int.toNat_natCast]
    refine ⟨?_, ?_, by omega, e1.1.2⟩
    · unfold spec_SweepOrder.f spec_SweepOrder.fn spec_SweepOrder.top
      rw [spec_l31Code_f, code00, hg]
      simp only [and_self, and_true, true_and, decide_true, decide_false, if_true, if_false, mid_get, mid_set, mid_getn, mid_setn, bt_mid, Option.bind_some, Bool.not_true, Bool.not_false, Bool.false_eq_true, Bool.true_eq_false, beq_self_eq_true, bne_self_eq_false, Int.toNat_natCast]
      exact e2.2
    · unfold impl_SweepOrder.f impl_SweepOrder.fn impl_SweepOrder.top
      rw [impl_IsGrid_f, hg]
      simp only [and_self, and_true, true_and, decide_true, decide_false, if_true, if_false, mid_get, mid_set, mid_getn, mid_setn, bt_mid, Option.bind_some, Bool.not_true, Bool.not_false, Bool.false_eq_true, Bool.true_eq_false, beq_self_eq_true, bne_self_eq_false, Int.toNat_natCast]
      exact e1.2
theorem SweepOrder_core (g : Int × Int × List Bool) (h : OkGrid g) : ∃ w, spec_SweepOrder.f g = some w ∧ impl_SweepOrder.f g = some w ∧ Lm (Rg .i64) w.1 := by
  obtain ⟨h1, h2, h3, h4⟩ := SweepOrder_both g
  exact ⟨_, h1, h2, by omega, fun c hc => wf64.2 (by have := h4 c hc; omega)⟩
end Go.Pl

namespace Go.Pl
open Go.Ev
set_option linter.unusedVariables false
noncomputable section
def spec_WalkLength.g6 (L6 : List Int → Int → Int → (Int × Int × List Bool) → Option (Int × Int)) (cells1 : List Int) (n7 : Int) (i8 : Int) (g2 : Int × Int × List Bool) : Option (Int × Int) :=
  if (decide ((i8 : Int) < (cells1.length : Int))) = true then
    if (0 : Int) ≤ (IntKind.i64.wrap (i8 - 1)) ∧ ((IntKind.i64.wrap (i8 - 1)) : Int) < cells1.length then
      if (0 : Int) ≤ i8 ∧ (i8 : Int) < cells1.length then
        (spec_l31Far.f g2 (cells1.getD ((IntKind.i64.wrap (i8 - 1)) : Int).toNat 0) (cells1.getD (i8 : Int).toNat 0)).bind fun r2 =>
        L6 cells1 (IntKind.i64.wrap (n7 + r2)) (IntKind.i64.wrap (i8 + 1)) g2
      else
        none
    else
      none
  else
    some (n7, 0)
def spec_WalkLength.l6 (n : Nat) : Nat → List Int → Int → Int → (Int × Int × List Bool) → Option (Int × Int)
  | 0 => fun _ _ _ _ => none
  | k + 1 => spec_WalkLength.g6 (spec_WalkLength.l6 n k)
def spec_WalkLength.top (I6 : List Int → Int → Int → (Int × Int × List Bool) → Option (Int × Int)) (g0 : Int × Int × List Bool) (cells1 : List Int) : Option (Int × Int) :=
  (spec_l31Cells.f g0 cells1).bind fun r1 =>
  if ((r1 : Int) != 0) = true then
    some (0, r1)
  else
    I6 cells1 0 1 g0
def spec_WalkLength.fn (n : Nat) (g0 : Int × Int × List Bool) (cells1 : List Int) : Option (Int × Int) := spec_WalkLength.top (spec_WalkLength.l6 n n) g0 cells1
def spec_WalkLength.f (g0 : Int × Int × List Bool) (cells1 : List Int) : Option (Int × Int) := spec_WalkLength.fn NN g0 cells1
end
end Go.Pl

namespace Go.Pl
open Go.Ev
set_option linter.unusedVariables false
noncomputable section
def impl_DudsLeft.g7 (L7 : List Int → Int → Int → (Int × Int × List Bool) → List Int → Option (List Int × Int)) (v16 : List Int) (v17 : Int) (v18 : Int) (g2 : Int × Int × List Bool) (out6 : List Int) : Option (List Int × Int) :=
  if (decide ((v18 : Int) < v17)) = true then
    if (0 : Int) ≤ v18 ∧ (v18 : Int) < v16.length then
      if (0 : Int) ≤ (v16.getD (v18 : Int).toNat 0) ∧ ((v16.getD (v18 : Int).toNat 0) : Int) < g2.2.2.length then
        if (!(g2.2.2.getD ((v16.getD (v18 : Int).toNat 0) : Int).toNat false)) = true then
          if out6.length + ([v16.getD (v18 : Int).toNat 0]).length < room 8 then
            L7 v16 v17 (IntKind.i64.wrap (v18 + 1)) g2 (out6 ++ ([v16.getD (v18 : Int).toNat 0]))
          else
            none
        else
          L7 v16 v17 (IntKind.i64.wrap (v18 + 1)) g2 out6
      else
        none
    else
      none
  else
    some (out6, 0)
def impl_DudsLeft.l7 (n : Nat) : Nat → List Int → Int → Int → (Int × Int × List Bool) → List Int → Option (List Int × Int)
  | 0 => fun _ _ _ _ _ => none
  | k + 1 => impl_DudsLeft.g7 (impl_DudsLeft.l7 n k)
def impl_DudsLeft.top (I7 : List Int → Int → Int → (Int × Int × List Bool) → List Int → Option (List Int × Int)) (g0 : Int × Int × List Bool) (duds1 : List Int) : Option (List Int × Int) :=
  (impl_IsGrid.f g0).bind fun r1 =>
  if (!r1) = true then
    some ([], 1)
  else
    (impl_areCells.f g0 duds1).bind fun r2 =>
    if (!r2) = true then
      some ([], 2)
    else
      I7 duds1 (duds1.length : Int) 0 g0 []
def impl_DudsLeft.fn (n : Nat) (g0 : Int × Int × List Bool) (duds1 : List Int) : Option (List Int × Int) := impl_DudsLeft.top (impl_DudsLeft.l7 n n) g0 duds1
def impl_DudsLeft.f (g0 : Int × Int × List Bool) (duds1 : List Int) : Option (List Int × Int) := impl_DudsLeft.fn NN g0 duds1
end
end Go.Pl

namespace Go.Pl
open Go.Ev
set_option linter.unusedVariables false
noncomputable section
def spec_DudsLeft.g6 (L6 : List Int → Int → (Int × Int × List Bool) → List Int → Option (List Int × Int)) (duds1 : List Int) (i8 : Int) (g2 : Int × Int × List Bool) (out7 : List Int) : Option (List Int × Int) :=
  if (decide ((i8 : Int) < (duds1.length : Int))) = true then
    if (0 : Int) ≤ i8 ∧ (i8 : Int) < duds1.length then
      if (0 : Int) ≤ (duds1.getD (i8 : Int).toNat 0) ∧ ((duds1.getD (i8 : Int).toNat 0) : Int) < g2.2.2.length then
        if (!(g2.2.2.getD ((duds1.getD (i8 : Int).toNat 0) : Int).toNat false)) = true then
          if (0 : Int) ≤ i8 ∧ (i8 : Int) < duds1.length then
            if out7.length + ([duds1.getD (i8 : Int).toNat 0]).length < room 8 then
              L6 duds1 (IntKind.i64.wrap (i8 + 1)) g2 (out7 ++ ([duds1.getD (i8 : Int).toNat 0]))
            else
              none
          else
            none
        else
          L6 duds1 (IntKind.i64.wrap (i8 + 1)) g2 out7
      else
        none
    else
      none
  else
    some (out7, 0)
def spec_DudsLeft.l6 (n : Nat) : Nat → List Int → Int → (Int × Int × List Bool) → List Int → Option (List Int × Int)
  | 0 => fun _ _ _ _ => none
  | k + 1 => spec_DudsLeft.g6 (spec_DudsLeft.l6 n k)
def spec_DudsLeft.top (I6 : List Int → Int → (Int × Int × List Bool) → List Int → Option (List Int × Int)) (g0 : Int × Int × List Bool) (duds1 : List Int) : Option (List Int × Int) :=
  (spec_l31Cells.f g0 duds1).bind fun r1 =>
  if ((r1 : Int) != 0) = true then
    some ([], r1)
  else
    I6 duds1 0 g0 []
def spec_DudsLeft.fn (n : Nat) (g0 : Int × Int × List Bool) (duds1 : List Int) : Option (List Int × Int) := spec_DudsLeft.top (spec_DudsLeft.l6 n n) g0 duds1
def spec_DudsLeft.f (g0 : Int × Int × List Bool) (duds1 : List Int) : Option (List Int × Int) := spec_DudsLeft.fn NN g0 duds1
end
end Go.Pl

namespace Go.Pl
open Go.Ev
set_option linter.unusedVariables false
set_option linter.unusedSimpArgs false
def walkF (D : Int → Int → Int) : Int → List Int → Int
  | _, [] => 0
  | x, a :: r => D x a + walkF D a r
def walkL (D : Int → Int → Int) : List Int → Int
  | [] => 0
  | a :: r => walkF D a r
theorem impl_WalkLength_loop (G : Int × Int × List Bool) (hw : 1 ≤ G.1) : ∀ (r p : List Int) (x s : Int) (k : Nat), p.length + r.length + 1 ≤ 1000 → r.length < k → (∀ c ∈ x :: r, 0 ≤ c ∧ c ≤ 1000) → 0 ≤ s → s ≤ 10000 * p.length →
    impl_WalkLength.l7 NN k (p ++ [x] ++ r) s ((p.length : Int) + 1) G = some (s + walkF (farD G.1) x r, 0) := by
  intro r
  induction r with
  | nil =>
    intro p x s k _ hk _ _ _
    obtain ⟨k, rfl⟩ : ∃ j, k = j + 1 := ⟨k - 1, by omega⟩
    simp [impl_WalkLength.l7, impl_WalkLength.g7, walkF]
  | cons a r ih =>
    intro p x s k hb hk hc hs0 hs1
    simp only [List.length_cons] at hb hk
    obtain ⟨k, rfl⟩ : ∃ j, k = j + 1 := ⟨k - 1, by omega⟩
    have hl : ((p ++ [x] ++ a :: r).length : Int) = p.length + r.length + 2 := by simp; omega
    have w1 := w64 (n := (p.length : Int) + 1 - 1) (by omega) (by omega)
    have w2 := w64 (n := (p.length : Int) + 1 + 1) (by omega) (by omega)
    have c1 : (p.length : Int) + 1 < ((p ++ [x] ++ a :: r).length : Int) := by omega
    have c2 : (0 : Int) ≤ (p.length : Int) + 1 - 1 := by omega
    have c3 : (p.length : Int) + 1 - 1 < ((p ++ [x] ++ a :: r).length : Int) := by omega
    have c4 : (0 : Int) ≤ (p.length : Int) + 1 := by omega
    have g1 : (p ++ [x] ++ a :: r).getD ((p.length : Int) + 1).toNat 0 = a := by
      rw [show ((p.length : Int) + 1).toNat = (p ++ [x]).length by simp, mid_getn]
    have g2 : (p ++ [x] ++ a :: r).getD ((p.length : Int) + 1 - 1).toNat 0 = x := by
      rw [show ((p.length : Int) + 1 - 1).toNat = p.length by omega, snoc_getl]
    have hx := hc x (by simp)
    have ha := hc a (by simp)
    have hD := farD_bd hw hx.1 hx.2 ha.1 ha.2
    have w3 := w64 (n := s + farD G.1 x a) (by omega) (by omega)
    simp only [impl_WalkLength.l7, impl_WalkLength.g7, w1, w2, c1, c2, c3, c4, g1, g2, and_self, decide_true, if_true, decide_eq_true_eq, impl_distanceOf_f G x a hw hx.1 hx.2 ha.1 ha.2, Option.bind_some, w3]
    have := ih (p ++ [x]) a (s + farD G.1 x a) k (by simp; omega) (by omega) (fun c h => hc c (by simp at h ⊢; right; exact h)) (by omega) (by simp; omega)
    simp only [walkF]
    rw [← Int.add_assoc, ← this]
    simp
theorem impl_WalkLength_l (G : Int × Int × List Bool) (hw : 1 ≤ G.1) (xs : List Int) (hl : xs.length ≤ 200) (hc : ∀ c ∈ xs, 0 ≤ c ∧ c ≤ 1000) : impl_WalkLength.l7 NN NN xs 0 1 G = some (walkL (farD G.1) xs, 0) := by
  cases xs with
  | nil =>
    obtain ⟨k, hk⟩ : ∃ j, NN = j + 1 := ⟨NN - 1, by have := NNb; omega⟩
    rw [show impl_WalkLength.l7 NN NN = impl_WalkLength.l7 NN (k + 1) by rw [← hk]]
    simp [impl_WalkLength.l7, impl_WalkLength.g7, walkL]
  | cons a r =>
    simp only [List.length_cons] at hl
    have := impl_WalkLength_loop G hw r [] a 0 NN (by simp; omega) (NN_lt (by omega)) hc (by omega) (by simp)
    simpa [walkL] using this
theorem spec_WalkLength_loop (G : Int × Int × List Bool) (hw : 1 ≤ G.1) : ∀ (r p : List Int) (x s : Int) (k : Nat), p.length + r.length + 1 ≤ 1000 → r.length < k → (∀ c ∈ x :: r, 0 ≤ c ∧ c ≤ 1000) → 0 ≤ s → s ≤ 10000 * p.length →
    spec_WalkLength.l6 NN k (p ++ [x] ++ r) s ((p.length : Int) + 1) G = some (s + walkF (farD G.1) x r, 0) := by
  intro r
  induction r with
  | nil =>
    intro p x s k _ hk _ _ _
    obtain ⟨k, rfl⟩ : ∃ j, k = j + 1 := ⟨k - 1, by omega⟩
    simp [spec_WalkLength.l6, spec_WalkLength.g6, walkF]
  | cons a r ih =>
    intro p x s k hb hk hc hs0 hs1
    simp only [List.length_cons] at hb hk
    obtain ⟨k, rfl⟩ : ∃ j, k = j + 1 := ⟨k - 1, by omega⟩
    have hl : ((p ++ [x] ++ a :: r).length : Int) = p.length + r.length + 2 := by simp; omega
    have w1 := w64 (n := (p.length : Int) + 1 - 1) (by omega) (by omega)
    have w2 := w64 (n := (p.length : Int) + 1 + 1) (by omega) (by omega)
    have c1 : (p.length : Int) + 1 < ((p ++ [x] ++ a :: r).length : Int) := by omega
    have c2 : (0 : Int) ≤ (p.length : Int) + 1 - 1 := by omega
    have c3 : (p.length : Int) + 1 - 1 < ((p ++ [x] ++ a :: r).length : Int) := by omega
    have c4 : (0 : Int) ≤ (p.length : Int) + 1 := by omega
    have g1 : (p ++ [x] ++ a :: r).getD ((p.length : Int) + 1).toNat 0 = a := by
      rw [show ((p.length : Int) + 1).toNat = (p ++ [x]).length by simp, mid_getn]
    have g2 : (p ++ [x] ++ a :: r).getD ((p.length : Int) + 1 - 1).toNat 0 = x := by
      rw [show ((p.length : Int) + 1 - 1).toNat = p.length by omega, snoc_getl]
    have hx := hc x (by simp)
    have ha := hc a (by simp)
    have hD := farD_bd hw hx.1 hx.2 ha.1 ha.2
    have w3 := w64 (n := s + farD G.1 x a) (by omega) (by omega)
    simp only [spec_WalkLength.l6, spec_WalkLength.g6, w1, w2, c1, c2, c3, c4, g1, g2, and_self, decide_true, if_true, decide_eq_true_eq, spec_l31Far_f G x a hw hx.1 hx.2 ha.1 ha.2, Option.bind_some, w3]
    have := ih (p ++ [x]) a (s + farD G.1 x a) k (by simp; omega) (by omega) (fun c h => hc c (by simp at h ⊢; right; exact h)) (by omega) (by simp; omega)
    simp only [walkF]
    rw [← Int.add_assoc, ← this]
    simp
theorem spec_WalkLength_l (G : Int × Int × List Bool) (hw : 1 ≤ G.1) (xs : List Int) (hl : xs.length ≤ 200) (hc : ∀ c ∈ xs, 0 ≤ c ∧ c ≤ 1000) : spec_WalkLength.l6 NN NN xs 0 1 G = some (walkL (farD G.1) xs, 0) := by
  cases xs with
  | nil =>
    obtain ⟨k, hk⟩ : ∃ j, NN = j + 1 := ⟨NN - 1, by have := NNb; omega⟩
    rw [show spec_WalkLength.l6 NN NN = spec_WalkLength.l6 NN (k + 1) by rw [← hk]]
    simp [spec_WalkLength.l6, spec_WalkLength.g6, walkL]
  | cons a r =>
    simp only [List.length_cons] at hl
    have := spec_WalkLength_loop G hw r [] a 0 NN (by simp; omega) (NN_lt (by omega)) hc (by omega) (by simp)
    simpa [walkL] using this
def walkR (g : Int × Int × List Bool) (cells : List Int) : Int × Int := if gridB g = true then (if cellsB g cells = true then (walkL (farD g.1) cells, 0) else (0, 2)) else (0, 1)
theorem WalkLength_both (g : Int × Int × List Bool) (cells : List Int) (h2 : cells.length ≤ 1000000) : spec_WalkLength.f g cells = some (walkR g cells) ∧ impl_WalkLength.f g cells = some (walkR g cells) := by
  unfold spec_WalkLength.f spec_WalkLength.fn spec_WalkLength.top impl_WalkLength.f impl_WalkLength.fn impl_WalkLength.top walkR
  rw [spec_l31Cells_f g cells h2, impl_IsGrid_f]
  cases hg : gridB g
  · exact ⟨rfl, rfl⟩
  simp only [Option.bind_some, Bool.not_true, Bool.false_eq_true, if_false, if_true]
  rw [impl_areCells_f g cells hg h2]
  cases hc : cellsB g cells
  · exact ⟨rfl, rfl⟩
  have hi := cellsB_iff hg hc
  have hgb := gridB_iff.1 hg
  exact ⟨spec_WalkLength_l g hgb.1 cells hi.1 (fun c h => by have := hi.2 c h; omega), impl_WalkLength_l g hgb.1 cells hi.1 (fun c h => by have := hi.2 c h; omega)⟩
theorem WalkLength_core (g : Int × Int × List Bool) (cells : List Int) (h : OkGrid g) (h2 : Lm (Rg .i64) cells) : ∃ w, spec_WalkLength.f g cells = some w ∧ impl_WalkLength.f g cells = some w ∧ True :=
  ⟨_, (WalkLength_both g cells h2.1).1, (WalkLength_both g cells h2.1).2, trivial⟩
def dudS (s : List Bool) (out : List Int) (c : Int) : List Int := if s.getD c.toNat false = true then out else out ++ [c]
def dudsL (s : List Bool) (cells : List Int) : List Int := cells.foldl (dudS s) []
noncomputable def impl_DudsLeft_call (k : Nat) (i : Int) (st : List Int) (w hh : Int) (s : List Bool) (xs : List Int) := impl_DudsLeft.l7 NN k xs xs.length i (w, hh, s) st
noncomputable def spec_DudsLeft_call (k : Nat) (i : Int) (st : List Int) (w hh : Int) (s : List Bool) (xs : List Int) := spec_DudsLeft.l6 NN k xs i (w, hh, s) st
theorem impl_DudsLeft_l (w hh : Int) (s : List Bool) (xs : List Int) (hl : xs.length ≤ 200) (hc : ∀ c ∈ xs, 0 ≤ c ∧ c < (s.length : Int) ∧ c < 144) : (dudsL s xs).length ≤ 200 ∧ (∀ c ∈ dudsL s xs, 0 ≤ c ∧ c < 144) ∧ impl_DudsLeft.l7 NN NN xs xs.length 0 (w, hh, s) [] = some (dudsL s xs, 0) := by
  have := fold_fix (E := fun c => 0 ≤ c ∧ c < (s.length : Int) ∧ c < 144) (fun p st => st.length ≤ p.length ∧ ∀ c ∈ st, 0 ≤ c ∧ c < 144) (fun _ => dudS s) (fun st => some (st, (0 : Int))) (fun k i st => impl_DudsLeft_call k i st w hh s xs) xs ?_ ?_ [] hc ⟨by simp, by simp⟩ (by omega) NN (NN_lt (by omega))
  · rw [foldi_foldl] at this
    exact ⟨Nat.le_trans this.1.1 hl, this.1.2, this.2⟩
  · intro k st _
    simp [impl_DudsLeft_call, impl_DudsLeft.l7, impl_DudsLeft.g7]
  · intro k p b r st hx hb hI c0 c1 c2 cw g
    have hr : st.length + 1 < room 8 := by rw [room8]; omega
    refine ⟨⟨?_, ?_⟩, ?_⟩
    · unfold dudS; rw [List.length_append, List.length_singleton]; split <;> (try simp) <;> omega
    · intro c hc
      unfold dudS at hc
      split at hc
      · exact hI.2 c hc
      · rcases List.mem_append.1 hc with h | h
        · exact hI.2 c h
        · rw [List.mem_singleton.1 h]; omega
    · simp only [impl_DudsLeft_call, impl_DudsLeft.l7, impl_DudsLeft.g7, c0, c1, cw, and_self, and_true, true_and, decide_true, decide_false, if_true, if_false, mid_get, mid_set, mid_getn, mid_setn, bt_mid, Option.bind_some, Bool.not_true, Bool.not_false, Bool.false_eq_true, Bool.true_eq_false, beq_self_eq_true, bne_self_eq_false, Int.toNat_natCast, g, hb.1, hb.2.1, List.length_singleton, hr]
      unfold dudS
      cases s.getD b.toNat false <;> simp
theorem spec_DudsLeft_l (w hh : Int) (s : List Bool) (xs : List Int) (hl : xs.length ≤ 200) (hc : ∀ c ∈ xs, 0 ≤ c ∧ c < (s.length : Int) ∧ c < 144) : (dudsL s xs).length ≤ 200 ∧ (∀ c ∈ dudsL s xs, 0 ≤ c ∧ c < 144) ∧ spec_DudsLeft.l6 NN NN xs 0 (w, hh, s) [] = some (dudsL s xs, 0) := by
  have := fold_fix (E := fun c => 0 ≤ c ∧ c < (s.length : Int) ∧ c < 144) (fun p st => st.length ≤ p.length ∧ ∀ c ∈ st, 0 ≤ c ∧ c < 144) (fun _ => dudS s) (fun st => some (st, (0 : Int))) (fun k i st => spec_DudsLeft_call k i st w hh s xs) xs ?_ ?_ [] hc ⟨by simp, by simp⟩ (by omega) NN (NN_lt (by omega))
  · rw [foldi_foldl] at this
    exact ⟨Nat.le_trans this.1.1 hl, this.1.2, this.2⟩
  · intro k st _
    simp [spec_DudsLeft_call, spec_DudsLeft.l6, spec_DudsLeft.g6]
  · intro k p b r st hx hb hI c0 c1 c2 cw g
    have hr : st.length + 1 < room 8 := by rw [room8]; omega
    refine ⟨⟨?_, ?_⟩, ?_⟩
    · unfold dudS; rw [List.length_append, List.length_singleton]; split <;> (try simp) <;> omega
    · intro c hc
      unfold dudS at hc
      split at hc
      · exact hI.2 c hc
      · rcases List.mem_append.1 hc with h | h
        · exact hI.2 c h
        · rw [List.mem_singleton.1 h]; omega
    · simp only [spec_DudsLeft_call, spec_DudsLeft.l6, spec_DudsLeft.g6, c0, c1, cw, and_self, and_true, true_and, decide_true, decide_false, if_true, if_false, mid_get, mid_set, mid_getn, mid_setn, bt_mid, Option.bind_some, Bool.not_true, Bool.not_false, Bool.false_eq_true, Bool.true_eq_false, beq_self_eq_true, bne_self_eq_false, Int.toNat_natCast, g, hb.1, hb.2.1, List.length_singleton, hr]
      unfold dudS
      cases s.getD b.toNat false <;> simp
def dudsR (g : Int × Int × List Bool) (cells : List Int) : List Int × Int := if gridB g = true then (if cellsB g cells = true then (dudsL g.2.2 cells, 0) else ([], 2)) else ([], 1)
theorem DudsLeft_both (g : Int × Int × List Bool) (cells : List Int) (h2 : cells.length ≤ 1000000) : spec_DudsLeft.f g cells = some (dudsR g cells) ∧ impl_DudsLeft.f g cells = some (dudsR g cells) ∧ (dudsR g cells).1.length ≤ 200 ∧ ∀ c ∈ (dudsR g cells).1, 0 ≤ c ∧ c < 144 := by
  unfold spec_DudsLeft.f spec_DudsLeft.fn spec_DudsLeft.top impl_DudsLeft.f impl_DudsLeft.fn impl_DudsLeft.top dudsR
  rw [spec_l31Cells_f g cells h2, impl_IsGrid_f]
  cases hg : gridB g
  · exact ⟨rfl, rfl, by simp, by simp⟩
  simp only [Option.bind_some, Bool.not_true, Bool.false_eq_true, if_false, if_true]
  rw [impl_areCells_f g cells hg h2]
  cases hc : cellsB g cells
  · exact ⟨rfl, rfl, by simp, by simp⟩
  have hi := cellsB_iff hg hc
  obtain ⟨w, hh, s⟩ := g
  have e1 := impl_DudsLeft_l w hh s cells hi.1 hi.2
  have e2 := spec_DudsLeft_l w hh s cells hi.1 hi.2
  exact ⟨e2.2.2, e1.2.2, by simpa using e1.1, by simpa using e1.2.1⟩
theorem DudsLeft_core (g : Int × Int × List Bool) (cells : List Int) (h : OkGrid g) (h2 : Lm (Rg .i64) cells) : ∃ w, spec_DudsLeft.f g cells = some w ∧ impl_DudsLeft.f g cells = some w ∧ Lm (Rg .i64) w.1 := by
  obtain ⟨h3, h4, h5, h6⟩ := DudsLeft_both g cells h2.1
  exact ⟨_, h3, h4, by omega, fun c hc => wf64.2 (by have := h6 c hc; omega)⟩
end Go.Pl

namespace Go.Pl
open Go.Ev
set_option linter.unusedVariables false
noncomputable section
def spec_DrawSweepOrder.top (code0 : List Int) : Option (Int × Int × List Bool) :=
  (spec_l01From.f code0).bind fun r1 =>
  (spec_l31Draw.f r1).bind fun r2 =>
  some (r2.1.1, (r2.1.2.1, r2.1.2.2))
def spec_DrawSweepOrder.fn (n : Nat) (code0 : List Int) : Option (Int × Int × List Bool) := spec_DrawSweepOrder.top code0
def spec_DrawSweepOrder.f (code0 : List Int) : Option (Int × Int × List Bool) := spec_DrawSweepOrder.fn NN code0
end
end Go.Pl

namespace Go.Pl
open Go.Ev
set_option linter.unusedVariables false
noncomputable section
def spec_DrawWalkLength.g5 (L5 : Int → Int → Int → (List Int × Int × Int) → Int → Int → List Int → List Bool → List Bool → Option ((Int × Int × List Bool) × List Int)) (n7 : Int) (v2a : Int) (v2ba : Int) (s4 : List Int × Int × Int) (g5a : Int) (g5ba : Int) (out6 : List Int) (w4 : List Bool) (w5 : List Bool) : Option ((Int × Int × List Bool) × List Int) :=
  if (decide ((0 : Int) < n7)) = true then
    (spec_l01Next.f s4 40).bind fun r4 =>
    (spec_l01Next.f r4.2 (IntKind.i64.wrap ((IntKind.i64.wrap (g5a * g5ba)) + (IntKind.i64.wrap (Int.tdiv r4.1 39))))).bind fun r5 =>
    if out6.length + ([r5.1]).length < room 8 then
      L5 (IntKind.i64.wrap (n7 - 1)) v2a v2ba r5.2 g5a g5ba (out6 ++ ([r5.1])) w4 w5
    else
      none
  else
    (spec_l01Next.f s4 30).bind fun r6 =>
    if ((r6.1 : Int) == 0) = true then
      (spec_l01Next.f r6.2 2).bind fun r7 =>
      if (0 : Int) ≤ (IntKind.i64.wrap (200 + r7.1)) ∧ ((IntKind.i64.wrap (200 + r7.1)) : Int) < room 8 ∧ ((IntKind.i64.wrap (200 + r7.1)) : Int) = (IntKind.i64.wrap (200 + r7.1)) then
        some ((g5a, (g5ba, w5)), List.replicate ((IntKind.i64.wrap (200 + r7.1)) : Int).toNat 0)
      else
        none
    else
      some ((g5a, (g5ba, w5)), out6)
def spec_DrawWalkLength.l5 (n : Nat) : Nat → Int → Int → Int → (List Int × Int × Int) → Int → Int → List Int → List Bool → List Bool → Option ((Int × Int × List Bool) × List Int)
  | 0 => fun _ _ _ _ _ _ _ _ _ => none
  | k + 1 => spec_DrawWalkLength.g5 (spec_DrawWalkLength.l5 n k)
def spec_DrawWalkLength.top (I5 : Int → Int → Int → (List Int × Int × Int) → Int → Int → List Int → List Bool → List Bool → Option ((Int × Int × List Bool) × List Int)) (code0 : List Int) : Option ((Int × Int × List Bool) × List Int) :=
  (spec_l01From.f code0).bind fun r1 =>
  (spec_l31Draw.f r1).bind fun r2 =>
  (spec_l01Next.f r2.2 8).bind fun r3 =>
  I5 r3.1 0 0 r3.2 r2.1.1 r2.1.2.1 [] [] r2.1.2.2
def spec_DrawWalkLength.fn (n : Nat) (code0 : List Int) : Option ((Int × Int × List Bool) × List Int) := spec_DrawWalkLength.top (spec_DrawWalkLength.l5 n n) code0
def spec_DrawWalkLength.f (code0 : List Int) : Option ((Int × Int × List Bool) × List Int) := spec_DrawWalkLength.fn NN code0
end
end Go.Pl

namespace Go.Pl
open Go.Ev
set_option linter.unusedVariables false
set_option linter.unusedSimpArgs false
theorem good31_ok {s : List Int × Int × Int} (hs : SrcOk s) : ∃ g s', spec_l31Good.f s = some (g, s') ∧ SrcOk s' ∧ gridB g = true ∧ g.2.2.length ≤ 144 := by
  unfold spec_l31Good.f spec_l31Good.fn spec_l31Good.top
  obtain ⟨a, s1, e1, o1, a0, a1⟩ := next_ok hs 6 (by omega)
  obtain ⟨b, s2, e2, o2, b0, b1⟩ := next_ok o1 6 (by omega)
  obtain ⟨m, s3, e3, o3, m1⟩ := pick_ok o2 [2, 3, 1, 5] (by simp) (by simp)
  have hm : 0 ≤ m ∧ m ≤ 5 := by simp at m1; omega
  have w1 := w64 (n := 1 + a) (by omega) (by omega)
  have w2 := w64 (n := 1 + b) (by omega) (by omega)
  have h3 := mul_le144 (a := 1 + a) (b := 1 + b) (by omega) (by omega) (by omega) (by omega)
  have w3 := w64 (n := (1 + a) * (1 + b)) (by omega) (by omega)
  simp only [e1, e2, e3, Option.bind_some, w1, w2]
  have key : ∀ (d i k : Nat) (s : List Int × Int × Int) (w : List Bool), (i : Int) + d = (1 + a) * (1 + b) → d < k → SrcOk s → w.length = i → ∃ g s', spec_l31Good.l4 NN k m i s 0 0 (1 + a) (1 + b) [] w = some (g, s') ∧ SrcOk s' ∧ gridB g = true ∧ g.2.2.length ≤ 144 := by
    intro d
    induction d with
    | zero =>
      intro i k s w hi hk ho hw
      obtain ⟨k, rfl⟩ : ∃ j, k = j + 1 := ⟨k - 1, by omega⟩
      have n1 : ¬ (i : Int) < (1 + a) * (1 + b) := by omega
      refine ⟨(1 + a, 1 + b, w), s, by simp only [spec_l31Good.l4, spec_l31Good.g4, w3, n1, decide_false, Bool.false_eq_true, if_false], ho, gridB_iff.2 ⟨by simp only; omega, by simp only; omega, by simp only; omega, by simp only; omega, by simp only; omega⟩, by simp only; omega⟩
    | succ d ih =>
      intro i k s w hi hk ho hw
      obtain ⟨k, rfl⟩ : ∃ j, k = j + 1 := ⟨k - 1, by omega⟩
      have n1 : (i : Int) < (1 + a) * (1 + b) := by omega
      obtain ⟨x, s', e, o, x0, x1⟩ := next_ok ho m (by omega)
      have w4 := w64 (n := (i : Int) + 1) (by omega) (by omega)
      obtain ⟨g, s2, i1, i2⟩ := ih (i + 1) k s' (w ++ [x == 0]) (by omega) (by omega) o (by simp [hw])
      refine ⟨g, s2, ?_, i2⟩
      simp only [spec_l31Good.l4, spec_l31Good.g4, w3, n1, decide_true, if_true, e, Option.bind_some, w4]
      rw [if_pos (by rw [room1]; simp; omega)]
      exact i1
  obtain ⟨n, hn⟩ := Int.eq_ofNat_of_zero_le (show 0 ≤ (1 + a) * (1 + b) by omega)
  exact key n 0 NN s3 [] (by omega) (NN_lt (by omega)) o3 rfl
/-- a drawn grid -/
def GridS (g : Int × Int × List Bool) : Prop := (0 ≤ g.1 ∧ g.1 ≤ 13) ∧ (0 ≤ g.2.1 ∧ g.2.1 ≤ 13) ∧ g.2.2.length ≤ 145
theorem gridS_ok {g : Int × Int × List Bool} (h : GridS g) : OkGrid g := ⟨wf64.2 (by have := h.1; omega), wf64.2 (by have := h.2.1; omega), by have := h.2.2; omega, fun _ _ => trivial⟩
theorem draw31_ok {s : List Int × Int × Int} (hs : SrcOk s) : ∃ g s', spec_l31Draw.f s = some (g, s') ∧ SrcOk s' ∧ GridS g := by
  unfold spec_l31Draw.f spec_l31Draw.fn spec_l31Draw.top
  obtain ⟨x, s1, e1, o1, x0, x1⟩ := next_ok hs 24 (by omega)
  simp only [e1, Option.bind_some]
  by_cases h0 : x = 0
  · subst h0
    obtain ⟨a, s2, e2, o2, a1⟩ := pick_ok o1 [0, 1, 12, 13] (by simp) (by simp)
    obtain ⟨b, s3, e3, o3, b1⟩ := pick_ok o2 [0, 1, 12, 13] (by simp) (by simp)
    have ha : 0 ≤ a ∧ a ≤ 13 := by simp at a1; omega
    have hb : 0 ≤ b ∧ b ≤ 13 := by simp at b1; omega
    simp only [beq_self_eq_true, if_true, e2, e3, Option.bind_some]
    rw [if_pos ⟨hb.1, by rw [room1]; omega, trivial⟩]
    exact ⟨_, _, rfl, o3, ha, ⟨by simp only; omega, by simp only; omega⟩, by simp only [List.length_replicate]; omega⟩
  · have b0 : (x == 0) = false := by rw [beq_eq_false_iff_ne]; exact h0
    obtain ⟨g, s2, e2, o2, g1, g2⟩ := good31_ok o1
    have hg := gridB_iff.1 g1
    simp only [b0, Bool.false_eq_true, if_false]
    by_cases h1 : x = 1
    · subst h1
      simp only [beq_self_eq_true, if_true, e2, Option.bind_some]
      rw [if_pos (by rw [room1]; simp; omega)]
      exact ⟨_, _, rfl, o2, ⟨by simp only; omega, by simp only; omega⟩, ⟨by simp only; omega, by simp only; omega⟩, by simp; omega⟩
    · have b1 : (x == 1) = false := by rw [beq_eq_false_iff_ne]; exact h1
      simp only [b1, Bool.false_eq_true, if_false, e2, Option.bind_some]
      exact ⟨_, _, rfl, o2, ⟨by simp only; omega, by simp only; omega⟩, ⟨by simp only; omega, by simp only; omega⟩, by simp only; omega⟩
theorem drawSweep_ok {code : List Int} (h : CodeOk code) : ∃ g, spec_DrawSweepOrder.f code = some g ∧ GridS g := by
  unfold spec_DrawSweepOrder.f spec_DrawSweepOrder.fn spec_DrawSweepOrder.top
  obtain ⟨s, e, o⟩ := from_ok h
  obtain ⟨g, s2, e2, o2, g2⟩ := draw31_ok o
  simp only [e, e2, Option.bind_some]
  exact ⟨g, rfl, g2⟩
theorem drawWalk_ok {code : List Int} (h : CodeOk code) : ∃ g cells, spec_DrawWalkLength.f code = some (g, cells) ∧ GridS g ∧ cells.length ≤ 1000 ∧ ∀ c ∈ cells, 0 ≤ c ∧ c ≤ 1000 := by
  unfold spec_DrawWalkLength.f spec_DrawWalkLength.fn spec_DrawWalkLength.top
  obtain ⟨s, e, o⟩ := from_ok h
  obtain ⟨g, s2, e2, o2, g2⟩ := draw31_ok o
  obtain ⟨n, s3, e3, o3, n0, n1⟩ := next_ok o2 8 (by omega)
  simp only [e, e2, e3, Option.bind_some]
  obtain ⟨gw, gh, gs⟩ := g
  have hg := g2
  obtain ⟨⟨q1, q2⟩, ⟨q3, q4⟩, q5⟩ := hg
  simp only at q1 q2 q3 q4 q5
  have hmul : 0 ≤ gw * gh ∧ gw * gh ≤ 169 := by
    refine ⟨Int.mul_nonneg q1 q3, ?_⟩
    have := Int.mul_le_mul q2 q4 q3 (by omega)
    omega
  have wm := w64 (n := gw * gh) (by omega) (by omega)
  have key : ∀ (d k : Nat) (s : List Int × Int × Int) (out : List Int), d < k → SrcOk s → out.length + d ≤ 1000 → (∀ c ∈ out, 0 ≤ c ∧ c ≤ 1000) → ∃ cells, spec_DrawWalkLength.l5 NN k d 0 0 s gw gh out [] gs = some ((gw, gh, gs), cells) ∧ cells.length ≤ 1000 ∧ ∀ c ∈ cells, 0 ≤ c ∧ c ≤ 1000 := by
    intro d
    induction d with
    | zero =>
      intro k s out hk ho hl hc
      obtain ⟨k, rfl⟩ : ∃ j, k = j + 1 := ⟨k - 1, by omega⟩
      obtain ⟨x, s4, e4, o4, x0, x1⟩ := next_ok ho 30 (by omega)
      obtain ⟨y, s5, e5, o5, y0, y1⟩ := next_ok o4 2 (by omega)
      have w1 := w64 (n := 200 + y) (by omega) (by omega)
      simp only [spec_DrawWalkLength.l5, spec_DrawWalkLength.g5, show ¬ (0 : Int) < ((0 : Nat) : Int) from by omega, decide_false, Bool.false_eq_true, if_false, e4, e5, Option.bind_some, w1]
      split
      · rw [if_pos ⟨by omega, by rw [room8]; omega, trivial⟩]
        refine ⟨_, rfl, by rw [List.length_replicate]; omega, fun c hc => ?_⟩
        rw [List.mem_replicate] at hc; omega
      · exact ⟨_, rfl, by omega, hc⟩
    | succ d ih =>
      intro k s out hk ho hl hc
      obtain ⟨k, rfl⟩ : ∃ j, k = j + 1 := ⟨k - 1, by omega⟩
      obtain ⟨x, s4, e4, o4, x0, x1⟩ := next_ok ho 40 (by omega)
      have hd : Int.tdiv x 39 = x / 39 := Int.tdiv_eq_ediv_of_nonneg x0
      have w1 := w64 (n := Int.tdiv x 39) (by omega) (by omega)
      have w2 := w64 (n := gw * gh + Int.tdiv x 39) (by omega) (by omega)
      obtain ⟨y, s5, e5, o5, y0, y1⟩ := next_ok o4 (gw * gh + Int.tdiv x 39) (by omega)
      have w3 := w64 (n := ((d + 1 : Nat) : Int) - 1) (by omega) (by omega)
      obtain ⟨cells, i1, i2⟩ := ih k s5 (out ++ [y]) (by omega) o5 (by simp; omega) (fun c h => by
        rcases List.mem_append.1 h with h | h
        · exact hc c h
        · rw [List.mem_singleton.1 h]; omega)
      refine ⟨cells, ?_, i2⟩
      simp only [spec_DrawWalkLength.l5, spec_DrawWalkLength.g5, show (0 : Int) < ((d + 1 : Nat) : Int) from by omega, decide_true, if_true, e4, Option.bind_some, wm, w1, w2, e5, w3]
      rw [if_pos (by rw [room8]; simp; omega), show ((d + 1 : Nat) : Int) - 1 = (d : Int) by omega]
      exact i1
  obtain ⟨N, hN⟩ := Int.eq_ofNat_of_zero_le n0
  subst hN
  obtain ⟨cells, i1, i2, i3⟩ := key N NN s3 [] (NN_lt (by omega)) o3 (by simp; omega) (by simp)
  exact ⟨_, cells, i1, g2, i2, i3⟩
end Go.Pl

namespace Go.Pl
open Go.Ev
set_option linter.unusedVariables false
set_option linter.unusedSimpArgs false
def freeB (s : List Bool) (i : Int) : Bool := !(s.getD i.toNat false)
theorem addS_free (s : List Bool) (i : Int) (out : List Int) : addS s i out = out ++ [i].filter (freeB s) := by
  unfold addS
  cases h : s.getD i.toNat false
  · have : freeB s i = true := by unfold freeB; rw [h]; rfl
    rw [List.filter_cons, this]; simp
  · have : freeB s i = false := by unfold freeB; rw [h]; rfl
    rw [List.filter_cons, this]; simp
theorem foldi_addS (s : List Bool) (f : Nat → Int) : ∀ (n i : Nat) (out : List Int), foldi (fun k st (_ : Unit) => addS s (f k) st) i out (List.replicate n ()) = out ++ ((List.range' i n).map f).filter (freeB s) := by
  intro n
  induction n with
  | zero => intro i out; simp [foldi]
  | succ n ih =>
    intro i out
    rw [List.replicate_succ, foldi, ih, addS_free, List.range'_succ, List.map_cons, List.append_assoc]
    congr 1
    rw [show f i :: (List.range' (i + 1) n).map f = [f i] ++ (List.range' (i + 1) n).map f from rfl, List.filter_append]
def rowI (w y : Nat) : List Int := (List.range w).map (idxS w y)
def rowU (w y : Nat) : List Int := (List.range w).map fun k => ((y * w + k : Nat) : Int)
theorem sweepR_eq (s : List Bool) (w y : Nat) (out : List Int) : sweepR s w y out = out ++ (rowI w y).filter (freeB s) := by
  unfold sweepR rowI
  rw [foldi_addS, List.range_eq_range']
theorem sweepL_eq (s : List Bool) (w h : Nat) : sweepL s w h = (List.range h).flatMap fun y => (rowI w y).filter (freeB s) := by
  have key : ∀ (n i : Nat) (out : List Int), foldi (fun y st (_ : Unit) => sweepR s w y st) i out (List.replicate n ()) = out ++ (List.range' i n).flatMap fun y => (rowI w y).filter (freeB s) := by
    intro n
    induction n with
    | zero => intro i out; simp [foldi]
    | succ n ih => intro i out; rw [List.replicate_succ, foldi, ih, sweepR_eq, List.range'_succ, List.flatMap_cons, List.append_assoc]
  unfold sweepL
  rw [key, List.range_eq_range']; rfl
theorem cellsL_eq (s : List Bool) : cellsL s = ((List.range s.length).map fun (i : Nat) => (i : Int)).filter (freeB s) := by
  have key : ∀ (r p : List Bool) (out : List Int), s = p ++ r → foldi addC p.length out r = out ++ ((List.range' p.length r.length).map fun (i : Nat) => (i : Int)).filter (freeB s) := by
    intro r
    induction r with
    | nil => intro p out _; simp [foldi]
    | cons b r ih =>
      intro p out hs
      have := ih (p ++ [b]) (addC p.length out b) (by rw [hs]; simp)
      rw [List.length_append, List.length_singleton] at this
      rw [foldi, this, List.length_cons, List.range'_succ, List.map_cons, List.filter_cons]
      have hf : freeB s (p.length : Int) = !b := by
        unfold freeB
        rw [Int.toNat_natCast, hs, mid_getn]
      rw [hf]
      unfold addC
      cases b <;> simp
  have := key s [] [] rfl
  unfold cellsL
  rw [List.range_eq_range']
  simpa using this
theorem rowI_perm (w y : Nat) : (rowI w y).Perm (rowU w y) := by
  by_cases hm : y % 2 = 1
  · have : rowI w y = (rowU w y).reverse := by
      apply List.ext_getElem
      · simp [rowI, rowU]
      · intro i h1 h2
        simp only [rowI, List.length_map, List.length_range] at h1
        simp only [rowI, rowU, List.getElem_map, List.getElem_range, List.getElem_reverse, List.length_map, List.length_range, idxS, if_pos hm]
        omega
    rw [this]; exact List.reverse_perm _
  · have : rowI w y = rowU w y := by
      apply List.ext_getElem
      · simp [rowI, rowU]
      · intro i h1 h2
        simp only [rowI, rowU, List.getElem_map, List.getElem_range, idxS, if_neg hm]
        omega
    rw [this]
theorem rows_all (w : Nat) : ∀ h : Nat, ((List.range (h * w)).map fun (i : Nat) => (i : Int)) = (List.range h).flatMap (rowU w) := by
  intro h
  induction h with
  | zero => simp
  | succ h ih =>
    rw [Nat.add_mul, Nat.one_mul, List.range_add, List.map_append, ih, List.range_succ, List.flatMap_append, List.map_map]
    congr 1
    simp [rowU]
theorem flatMap_perm {α β : Type} (f g : α → List β) (h : ∀ a, (f a).Perm (g a)) : ∀ l : List α, (l.flatMap f).Perm (l.flatMap g) := by
  intro l
  induction l with
  | nil => exact List.Perm.refl _
  | cons a l ih => rw [List.flatMap_cons, List.flatMap_cons]; exact (h a).append ih
theorem sweep_perm (s : List Bool) (w h : Nat) (hs : s.length = w * h) : (sweepL s w h).Perm (cellsL s) := by
  rw [sweepL_eq, cellsL_eq, hs, Nat.mul_comm w h, rows_all]
  have e : ((List.range h).flatMap (rowU w)).filter (freeB s) = (List.range h).flatMap fun y => (rowU w y).filter (freeB s) := by
    generalize List.range h = l
    induction l with
    | nil => rfl
    | cons a l ih => rw [List.flatMap_cons, List.flatMap_cons, List.filter_append, ih]
  rw [e]
  exact flatMap_perm _ _ (fun y => (rowI_perm w y).filter _) _
theorem absI_symm (a b : Int) : absI (a - b) = absI (b - a) := by unfold absI; split <;> split <;> omega
theorem farD_symm (w a b : Int) : farD w a b = farD w b a := by unfold farD; rw [absI_symm, absI_symm (a.tdiv w)]
theorem walkF_snoc (D : Int → Int → Int) : ∀ (r : List Int) (x y z : Int), walkF D x (r ++ [y, z]) = walkF D x (r ++ [y]) + D y z := by
  intro r
  induction r with
  | nil => intro x y z; simp [walkF]
  | cons a r ih => intro x y z; simp only [List.cons_append, walkF, ih]; omega
theorem walkL_snoc (D : Int → Int → Int) (r : List Int) (y z : Int) : walkL D (r ++ [y, z]) = walkL D (r ++ [y]) + D y z := by
  cases r with
  | nil => simp [walkL, walkF]
  | cons a r => simp only [List.cons_append, walkL]; exact walkF_snoc D r a y z
theorem walkL_reverse (D : Int → Int → Int) (hD : ∀ a b, D a b = D b a) : ∀ (xs : List Int), walkL D xs.reverse = walkL D xs := by
  intro xs
  induction xs with
  | nil => rfl
  | cons a r ih =>
    cases r with
    | nil => rfl
    | cons b r =>
      rw [List.reverse_cons, List.reverse_cons, List.append_assoc]
      show walkL D (r.reverse ++ [b, a]) = _
      rw [walkL_snoc]
      rw [List.reverse_cons] at ih
      rw [ih, hD b a]
      simp only [walkL, walkF]; omega
theorem cellsB_reverse (g : Int × Int × List Bool) (cells : List Int) : cellsB g cells.reverse = cellsB g cells := by
  unfold cellsB; rw [List.length_reverse, List.all_reverse]
theorem walkR_reverse (g : Int × Int × List Bool) (cells : List Int) : walkR g cells.reverse = walkR g cells := by
  unfold walkR; rw [cellsB_reverse, walkL_reverse _ (farD_symm g.1)]
theorem dudsL_mem (s : List Bool) (cells : List Int) : ∀ c ∈ dudsL s cells, s.getD c.toNat false = false ∧ c ∈ cells := by
  have key : ∀ (r : List Int) (out : List Int), (∀ c ∈ out, s.getD c.toNat false = false ∧ c ∈ cells) → (∀ c ∈ r, c ∈ cells) → ∀ c ∈ r.foldl (dudS s) out, s.getD c.toNat false = false ∧ c ∈ cells := by
    intro r
    induction r with
    | nil => intro out h _ c hc; exact h c hc
    | cons a r ih =>
      intro out h hr c hc
      refine ih (dudS s out a) (fun x hx => ?_) (fun x hx => hr x (by simp [hx])) c hc
      unfold dudS at hx
      split at hx
      · exact h x hx
      · rename_i hn
        rcases List.mem_append.1 hx with hx | hx
        · exact h x hx
        · rw [List.mem_singleton.1 hx]; exact ⟨by simpa using hn, hr a (by simp)⟩
  exact key cells [] (by simp) (fun c hc => hc)
end Go.Pl

namespace Go.Pl
open Go.Ev
set_option linter.unusedVariables false
set_option linter.unusedSimpArgs false
theorem spec_l31Own_f (g : Int × Int × List Bool) (h : g.2.2.length ≤ 1000000) : spec_l31Own.f g = some g := by
  unfold spec_l31Own.f spec_l31Own.fn spec_l31Own.top
  rw [if_pos (by rw [room1]; simp; omega)]; rfl
theorem impl_copyGrid_f (g : Int × Int × List Bool) (h : g.2.2.length ≤ 1000000) : impl_copyGrid.f g = some g := by
  unfold impl_copyGrid.f impl_copyGrid.fn impl_copyGrid.top
  rw [if_pos (by rw [room1]; simp; omega)]; rfl
def searchC (g : Int × Int × List Bool) (x y : Int) : (Int × Int × List Bool) × Int :=
  if gridB g = true then (if cellB g x y = true then (if g.2.2.getD (y * g.1 + x).toNat false = true then ((0, 0, []), 5) else ((g.1, g.2.1, g.2.2.set (y * g.1 + x).toNat true), 0)) else ((0, 0, []), 2)) else ((0, 0, []), 1)
theorem impl_SearchCell_f (g : Int × Int × List Bool) (x y : Int) (h : g.2.2.length ≤ 1000000) : impl_SearchCell.f g x y = some (searchC g x y) := by
  unfold impl_SearchCell.f impl_SearchCell.fn impl_SearchCell.top searchC
  rw [impl_IsGrid_f]
  cases hg : gridB g
  · rfl
  simp only [and_self, and_true, true_and, decide_true, decide_false, if_true, if_false, mid_get, mid_set, mid_getn, mid_setn, bt_mid, Option.bind_some, Bool.not_true, Bool.not_false, Bool.false_eq_true, Bool.true_eq_false, beq_self_eq_true, bne_self_eq_false, Int.toNat_natCast]
  rw [impl_isCell_f g x y hg]
  cases hc : cellB g x y
  · rfl
  have hca := cell_at hg hc
  have e1 := w64 (n := y * g.1) (by omega) (by omega)
  have e2 := w64 (n := y * g.1 + x) (by omega) (by omega)
  have e3 : (0 : Int) ≤ y * g.1 + x := by omega
  simp only [e1, e2, e3, hca.2.2.2.2.2.1, and_self, and_true, true_and, decide_true, decide_false, if_true, if_false, mid_get, mid_set, mid_getn, mid_setn, bt_mid, Option.bind_some, Bool.not_true, Bool.not_false, Bool.false_eq_true, Bool.true_eq_false, beq_self_eq_true, bne_self_eq_false, Int.toNat_natCast]
  rw [impl_copyGrid_f g h]
  simp only [Option.bind_some, hca.2.2.2.2.2.1, and_self, if_true]
  split <;> rfl
theorem spec_SearchCell_f (g : Int × Int × List Bool) (x y : Int) (h : g.2.2.length ≤ 1000000) : spec_SearchCell.f g x y = some (searchC g x y) := by
  unfold spec_SearchCell.f spec_SearchCell.fn spec_SearchCell.top searchC
  rw [spec_l31Code_f]
  unfold codeG
  cases hg : gridB g
  · rfl
  cases hc : cellB g x y
  · rfl
  have hca := cell_at hg hc
  have e1 := w64 (n := y * g.1) (by omega) (by omega)
  have e2 := w64 (n := y * g.1 + x) (by omega) (by omega)
  have e3 : (0 : Int) ≤ y * g.1 + x := by omega
  simp only [e1, e2, e3, hca.2.2.2.2.2.1, and_self, and_true, true_and, decide_true, decide_false, if_true, if_false, mid_get, mid_set, mid_getn, mid_setn, bt_mid, Option.bind_some, Bool.not_true, Bool.not_false, Bool.false_eq_true, Bool.true_eq_false, beq_self_eq_true, bne_self_eq_false, Int.toNat_natCast]
  rw [spec_l31Own_f g h]
  simp only [Option.bind_some, hca.2.2.2.2.2.1, and_self, if_true]
  split <;> rfl
theorem searchC_ok (g : Int × Int × List Bool) (x y : Int) (h : OkGrid g) : OkGrid (searchC g x y).1 := by
  have z : OkGrid (0, 0, []) := ⟨rfl, rfl, by simp, by simp⟩
  unfold searchC
  split
  · split
    · split
      · exact z
      · exact ⟨h.1, h.2.1, by simpa using h.2.2.1, fun _ _ => trivial⟩
    · exact z
  · exact z
theorem SearchCell_core (g : Int × Int × List Bool) (x y : Int) (h : OkGrid g) (_ : Rg .i64 x) (_ : Rg .i64 y) : ∃ w, spec_SearchCell.f g x y = some w ∧ impl_SearchCell.f g x y = some w ∧ OkGrid w.1 :=
  ⟨_, spec_SearchCell_f g x y h.2.2.1, impl_SearchCell_f g x y h.2.2.1, searchC_ok g x y h⟩
def fillR (w : Int) (y : Int) (s : List Bool) : List Bool := foldi (fun k st (_ : Unit) => st.set (y * w + k).toNat true) 0 s (List.replicate w.toNat ())
def searchR (g : Int × Int × List Bool) (y : Int) : (Int × Int × List Bool) × Int :=
  if gridB g = true then (if cellB g 0 y = true then ((g.1, g.2.1, fillR g.1 y g.2.2), 0) else ((0, 0, []), 2)) else ((0, 0, []), 1)
theorem impl_SearchRow_l (g : Int × Int × List Bool) (y a b : Int) (w3 : List Bool) (h1 : 1 ≤ g.1) (h2 : g.1 ≤ 12) (hy : 0 ≤ y * g.1) (hl : y * g.1 + g.1 ≤ (g.2.2.length : Int)) (hl2 : g.2.2.length ≤ 144) : (fillR g.1 y g.2.2).length = g.2.2.length ∧ impl_SearchRow.l7 NN NN y 0 g a b g.1 g.2.1 w3 g.2.2 = some ((g.1, g.2.1, fillR g.1 y g.2.2), 0) := by
  have := fold_fix (E := fun _ => True) (fun _ st => st.length = g.2.2.length) (fun k st (_ : Unit) => st.set (y * g.1 + k).toNat true) (fun st => some ((g.1, g.2.1, st), (0 : Int))) (fun k i st => impl_SearchRow.l7 NN k y i g a b g.1 g.2.1 w3 st) (List.replicate g.1.toNat ()) ?_ ?_ g.2.2 (fun _ _ => trivial) rfl (by simp; omega) NN (NN_lt (by simp; omega))
  · exact this
  · intro k st _
    have e : ((g.1.toNat : Nat) : Int) = g.1 := by omega
    simp [impl_SearchRow.l7, impl_SearchRow.g7, e] <;> omega
  · intro k p c r st hx _ hI c0 c1 c2 cw _
    rw [List.length_replicate] at c1
    have c1' : (p.length : Int) < g.1 := by omega
    have e1 := w64 (n := y * g.1) (by omega) (by omega)
    have e2 := w64 (n := y * g.1 + (p.length : Int)) (by omega) (by omega)
    have e3 : (0 : Int) ≤ y * g.1 + (p.length : Int) := by omega
    have e4 : y * g.1 + (p.length : Int) < (st.length : Int) := by omega
    refine ⟨by simpa using hI, ?_⟩
    simp only [impl_SearchRow.l7, impl_SearchRow.g7, c1', cw, e1, e2, e3, e4, and_self, and_true, true_and, decide_true, decide_false, if_true, if_false, mid_get, mid_set, mid_getn, mid_setn, bt_mid, Option.bind_some, Bool.not_true, Bool.not_false, Bool.false_eq_true, Bool.true_eq_false, beq_self_eq_true, bne_self_eq_false, Int.toNat_natCast]
theorem spec_SearchRow_l (g : Int × Int × List Bool) (y a b : Int) (w3 : List Bool) (h1 : 1 ≤ g.1) (h2 : g.1 ≤ 12) (hy : 0 ≤ y * g.1) (hl : y * g.1 + g.1 ≤ (g.2.2.length : Int)) (hl2 : g.2.2.length ≤ 144) : (fillR g.1 y g.2.2).length = g.2.2.length ∧ spec_SearchRow.l6 NN NN y 0 g a b g.1 g.2.1 w3 g.2.2 = some ((g.1, g.2.1, fillR g.1 y g.2.2), 0) := by
  have := fold_fix (E := fun _ => True) (fun _ st => st.length = g.2.2.length) (fun k st (_ : Unit) => st.set (y * g.1 + k).toNat true) (fun st => some ((g.1, g.2.1, st), (0 : Int))) (fun k i st => spec_SearchRow.l6 NN k y i g a b g.1 g.2.1 w3 st) (List.replicate g.1.toNat ()) ?_ ?_ g.2.2 (fun _ _ => trivial) rfl (by simp; omega) NN (NN_lt (by simp; omega))
  · exact this
  · intro k st _
    have e : ((g.1.toNat : Nat) : Int) = g.1 := by omega
    simp [spec_SearchRow.l6, spec_SearchRow.g6, e] <;> omega
  · intro k p c r st hx _ hI c0 c1 c2 cw _
    rw [List.length_replicate] at c1
    have c1' : (p.length : Int) < g.1 := by omega
    have e1 := w64 (n := y * g.1) (by omega) (by omega)
    have e2 := w64 (n := y * g.1 + (p.length : Int)) (by omega) (by omega)
    have e3 : (0 : Int) ≤ y * g.1 + (p.length : Int) := by omega
    have e4 : y * g.1 + (p.length : Int) < (st.length : Int) := by omega
    refine ⟨by simpa using hI, ?_⟩
    simp only [spec_SearchRow.l6, spec_SearchRow.g6, c1', cw, e1, e2, e3, e4, and_self, and_true, true_and, decide_true, decide_false, if_true, if_false, mid_get, mid_set, mid_getn, mid_setn, bt_mid, Option.bind_some, Bool.not_true, Bool.not_false, Bool.false_eq_true, Bool.true_eq_false, beq_self_eq_true, bne_self_eq_false, Int.toNat_natCast]
theorem impl_SearchRow_f (g : Int × Int × List Bool) (y : Int) (h : g.2.2.length ≤ 1000000) : impl_SearchRow.f g y = some (searchR g y) := by
  unfold impl_SearchRow.f impl_SearchRow.fn impl_SearchRow.top searchR
  rw [impl_IsGrid_f]
  cases hg : gridB g
  · rfl
  simp only [and_self, and_true, true_and, decide_true, decide_false, if_true, if_false, mid_get, mid_set, mid_getn, mid_setn, bt_mid, Option.bind_some, Bool.not_true, Bool.not_false, Bool.false_eq_true, Bool.true_eq_false, beq_self_eq_true, bne_self_eq_false, Int.toNat_natCast]
  rw [impl_isCell_f g 0 y hg]
  cases hc : cellB g 0 y
  · rfl
  have hgb := gridB_iff.1 hg
  have hca := cell_at hg hc
  have h3 : cellB g (g.1 - 1) y = true := by
    unfold cellB at hc ⊢
    simp only [Bool.and_eq_true, inB_iff] at hc ⊢
    omega
  have hcb := cell_at hg h3
  simp only [and_self, and_true, true_and, decide_true, decide_false, if_true, if_false, mid_get, mid_set, mid_getn, mid_setn, bt_mid, Option.bind_some, Bool.not_true, Bool.not_false, Bool.false_eq_true, Bool.true_eq_false, beq_self_eq_true, bne_self_eq_false, Int.toNat_natCast]
  rw [impl_copyGrid_f g h]
  exact (impl_SearchRow_l g y 0 0 [] hgb.1 hgb.2.1 (by omega) (by omega) (by omega)).2
theorem spec_SearchRow_f (g : Int × Int × List Bool) (y : Int) (h : g.2.2.length ≤ 1000000) : spec_SearchRow.f g y = some (searchR g y) := by
  unfold spec_SearchRow.f spec_SearchRow.fn spec_SearchRow.top searchR
  rw [spec_l31Code_f]
  unfold codeG
  cases hg : gridB g
  · rfl
  cases hc : cellB g 0 y
  · rfl
  have hgb := gridB_iff.1 hg
  have hca := cell_at hg hc
  have h3 : cellB g (g.1 - 1) y = true := by
    unfold cellB at hc ⊢
    simp only [Bool.and_eq_true, inB_iff] at hc ⊢
    omega
  have hcb := cell_at hg h3
  simp only [and_self, and_true, true_and, decide_true, decide_false, if_true, if_false, mid_get, mid_set, mid_getn, mid_setn, bt_mid, Option.bind_some, Bool.not_true, Bool.not_false, Bool.false_eq_true, Bool.true_eq_false, beq_self_eq_true, bne_self_eq_false, Int.toNat_natCast]
  rw [spec_l31Own_f g h]
  exact (spec_SearchRow_l g y 0 0 [] hgb.1 hgb.2.1 (by omega) (by omega) (by omega)).2
theorem fillR_len (w y : Int) (s : List Bool) : (fillR w y s).length = s.length := by
  have key : ∀ (xs : List Unit) (i : Nat) (st : List Bool), (foldi (fun k st (_ : Unit) => st.set (y * w + k).toNat true) i st xs).length = st.length := by
    intro xs
    induction xs with
    | nil => intro i st; rfl
    | cons a r ih => intro i st; simp only [foldi]; rw [ih]; simp
  exact key _ _ _
theorem searchR_ok (g : Int × Int × List Bool) (y : Int) (h : OkGrid g) : OkGrid (searchR g y).1 := by
  have z : OkGrid (0, 0, []) := ⟨rfl, rfl, by simp, by simp⟩
  unfold searchR
  split
  · split
    · exact ⟨h.1, h.2.1, by simp only; rw [fillR_len]; exact h.2.2.1, fun _ _ => trivial⟩
    · exact z
  · exact z
theorem SearchRow_core (g : Int × Int × List Bool) (y : Int) (h : OkGrid g) (_ : Rg .i64 y) : ∃ w, spec_SearchRow.f g y = some w ∧ impl_SearchRow.f g y = some w ∧ OkGrid w.1 :=
  ⟨_, spec_SearchRow_f g y h.2.2.1, impl_SearchRow_f g y h.2.2.1, searchR_ok g y h⟩
end Go.Pl

namespace Go.Pl
open Go.Ev
set_option linter.unusedVariables false
set_option linter.unusedSimpArgs false
theorem likeInts_self (a : List Int) (hl : a.length ≤ 140737488355328) : laws_likeInts.f a a = some true := by
  unfold laws_likeInts.f laws_likeInts.fn laws_likeInts.top
  simp only [bne_self_eq_false, Bool.false_eq_true, if_false]
  refine eqS_loop (E := fun _ => True) (fun k a b i => laws_likeInts.l4 NN k a b i) a (fun _ _ => trivial) ?_ ?_ NN (NN_lt (by omega))
  · intro k p x r hx ha
    subst ha
    have hm := mid_len p r x
    have c1 : (p.length : Int) < ((p ++ x :: r).length : Int) := by omega
    have c0 : (0 : Int) ≤ (p.length : Int) := by omega
    have cw := w64 (n := (p.length : Int) + 1) (by omega) (by omega)
    simp only [laws_likeInts.l4, laws_likeInts.g4, c0, c1, cw, and_self, and_true, true_and, decide_true, decide_false, if_true, if_false, mid_get, mid_set, mid_getn, mid_setn, bt_mid, Option.bind_some, Bool.not_true, Bool.not_false, Bool.false_eq_true, Bool.true_eq_false, beq_self_eq_true, bne_self_eq_false, Int.toNat_natCast]
  · intro k
    simp [laws_likeInts.l4, laws_likeInts.g4]
theorem hasInt_f (xs : List Int) (x : Int) (hl : xs.length ≤ 140737488355328) : laws_hasInt.f xs x = some (decide (x ∈ xs)) := by
  have := find_loop (E := fun _ => True) (fun c : Int => c == x) (fun _ _ => some true) (fun _ => some false) (fun k xs i => laws_hasInt.l2 NN k xs x i) ?_ ?_ xs (fun _ _ => trivial) (by omega) NN (NN_lt (by omega))
  · refine this.trans ?_
    have key : ∀ (xs : List Int) (i : Nat), (firstOf (fun c : Int => c == x) i xs).elim (some false) (fun _ => some true) = some (decide (x ∈ xs)) := by
      intro xs
      induction xs with
      | nil => intro i; simp [firstOf]
      | cons a r ih =>
        intro i
        by_cases h : a = x
        · subst h; simp [firstOf]
        · have h1 : (a == x) = false := by rw [beq_eq_false_iff_ne]; exact h
          have h2 : ¬ x = a := fun e => h e.symm
          simp only [firstOf, h1, Bool.false_eq_true, if_false, List.mem_cons, h2, false_or]
          exact ih _
    exact key xs 0
  · intro k p
    simp [laws_hasInt.l2, laws_hasInt.g2]
  · intro k p a r _ c0 c1 c2 cw
    simp only [laws_hasInt.l2, laws_hasInt.g2, c0, c1, cw, and_self, and_true, true_and, decide_true, decide_false, if_true, if_false, mid_get, mid_set, mid_getn, mid_setn, bt_mid, Option.bind_some, Bool.not_true, Bool.not_false, Bool.false_eq_true, Bool.true_eq_false, beq_self_eq_true, bne_self_eq_false, Int.toNat_natCast]
end Go.Pl

namespace Go.Pl
open Go.Ev
set_option linter.unusedVariables false
set_option linter.unusedSimpArgs false
theorem likeBools_self (a : List Bool) (hl : a.length ≤ 140737488355328) : laws_likeBools.f a a = some true := by
  unfold laws_likeBools.f laws_likeBools.fn laws_likeBools.top
  simp only [bne_self_eq_false, Bool.false_eq_true, if_false]
  refine eqS_loop (E := fun _ => True) (fun k a b i => laws_likeBools.l4 NN k a b i) a (fun _ _ => trivial) ?_ ?_ NN (NN_lt (by omega))
  · intro k p x r hx ha
    subst ha
    have hm := mid_len p r x
    have c1 : (p.length : Int) < ((p ++ x :: r).length : Int) := by omega
    have c0 : (0 : Int) ≤ (p.length : Int) := by omega
    have cw := w64 (n := (p.length : Int) + 1) (by omega) (by omega)
    simp only [laws_likeBools.l4, laws_likeBools.g4, c0, c1, cw, and_self, and_true, true_and, decide_true, decide_false, if_true, if_false, mid_get, mid_set, mid_getn, mid_setn, bt_mid, Option.bind_some, Bool.not_true, Bool.not_false, Bool.false_eq_true, Bool.true_eq_false, beq_self_eq_true, bne_self_eq_false, Int.toNat_natCast]
  · intro k
    simp [laws_likeBools.l4, laws_likeBools.g4]
theorem likeGrid_self (g : Int × Int × List Bool) (hl : g.2.2.length ≤ 140737488355328) : laws_likeGrid.f (g.1, (g.2.1, g.2.2)) (g.1, (g.2.1, g.2.2)) = some true := by
  unfold laws_likeGrid.f laws_likeGrid.fn laws_likeGrid.top
  simp only [beq_self_eq_true, if_true, likeBools_self _ hl, Option.bind_some]
theorem drawCell_ok {code : List Int} (h : CodeOk code) : ∃ g x y, spec_DrawSearchCell.f code = some (g, x, y) ∧ GridS g := by
  unfold spec_DrawSearchCell.f spec_DrawSearchCell.fn spec_DrawSearchCell.top
  obtain ⟨s, e, o⟩ := from_ok h
  obtain ⟨g, s1, e1, o1, g1⟩ := draw31_ok o
  obtain ⟨a, s2, e2, o2, a0, a1⟩ := next_ok o1 12 (by omega)
  have ha := Int.tdiv_eq_ediv_of_nonneg (b := 11) a0
  have w1 := w64 (n := Int.tdiv a 11) (by omega) (by omega)
  have q1 := g1.1
  have q2 := g1.2.1
  have w2 := w64 (n := g.1 + Int.tdiv a 11) (by omega) (by omega)
  obtain ⟨x, s3, e3, o3, x0, x1⟩ := next_ok o2 (g.1 + Int.tdiv a 11) (by omega)
  obtain ⟨b, s4, e4, o4, b0, b1⟩ := next_ok o3 12 (by omega)
  have hb := Int.tdiv_eq_ediv_of_nonneg (b := 11) b0
  have w3 := w64 (n := Int.tdiv b 11) (by omega) (by omega)
  have w4 := w64 (n := g.2.1 + Int.tdiv b 11) (by omega) (by omega)
  obtain ⟨y, s5, e5, o5, y0, y1⟩ := next_ok o4 (g.2.1 + Int.tdiv b 11) (by omega)
  simp only [e, e1, e2, e3, e4, e5, w1, w2, w3, w4, Option.bind_some]
  exact ⟨g, x, y, rfl, g1⟩
theorem drawRow_ok {code : List Int} (h : CodeOk code) : ∃ g y, spec_DrawSearchRow.f code = some (g, y) ∧ GridS g := by
  unfold spec_DrawSearchRow.f spec_DrawSearchRow.fn spec_DrawSearchRow.top
  obtain ⟨s, e, o⟩ := from_ok h
  obtain ⟨g, s1, e1, o1, g1⟩ := draw31_ok o
  have q2 := g1.2.1
  have w1 := w64 (n := g.2.1 + 1) (by omega) (by omega)
  obtain ⟨a, s2, e2, o2, a0, a1⟩ := next_ok o1 (g.2.1 + 1) (by omega)
  obtain ⟨b, s3, e3, o3, b0, b1⟩ := next_ok o2 24 (by omega)
  simp only [e, e1, e2, e3, w1, Option.bind_some]
  exact ⟨g, _, rfl, g1⟩
theorem cells_mem (s : List Bool) (c : Int) : c ∈ cellsL s ↔ (0 ≤ c ∧ c < (s.length : Int)) ∧ s.getD c.toNat false = false := by
  rw [cellsL_eq, List.mem_filter, List.mem_map]
  unfold freeB
  constructor
  · rintro ⟨⟨i, h1, rfl⟩, h2⟩
    rw [List.mem_range] at h1
    exact ⟨⟨by omega, by omega⟩, by simpa using h2⟩
  · rintro ⟨⟨h1, h2⟩, h3⟩
    exact ⟨⟨c.toNat, List.mem_range.2 (by omega), by omega⟩, by rw [h3]; rfl⟩
theorem cells_sorted (s : List Bool) : (cellsL s).Pairwise (· < ·) := by
  rw [cellsL_eq]
  refine List.Pairwise.filter _ ?_
  rw [List.pairwise_map]
  exact List.Pairwise.imp (fun h => by omega) List.pairwise_lt_range
theorem cells_nodup (s : List Bool) : (cellsL s).Nodup := List.Pairwise.imp (fun {a b} h => by omega) (cells_sorted s)
theorem cells_set (s : List Bool) (t : Int) (h0 : 0 ≤ t) (h1 : t < (s.length : Int)) (h2 : s.getD t.toNat false = false) : ((cellsL (s.set t.toNat true)).length : Int) = (cellsL s).length - 1 ∧ t ∉ cellsL (s.set t.toNat true) := by
  have e : cellsL (s.set t.toNat true) = (cellsL s).filter (· != t) := by
    rw [cellsL_eq, cellsL_eq, List.filter_filter, List.length_set]
    refine List.filter_congr fun c hc => ?_
    obtain ⟨i, hi, rfl⟩ := List.mem_map.1 hc
    rw [List.mem_range] at hi
    unfold freeB
    rw [Int.toNat_natCast]
    by_cases he : t.toNat = i
    · have : ((i : Int) != t) = false := by rw [show (i : Int) = t by omega]; exact bne_self_eq_false t
      rw [this, he, List.getD_eq_getElem?_getD, List.getElem?_set_self (by omega)]; rfl
    · have : ((i : Int) != t) = true := by rw [bne_iff_ne]; omega
      rw [this, List.getD_eq_getElem?_getD, List.getElem?_set_ne he, ← List.getD_eq_getElem?_getD]; rfl
  have hm : t ∈ cellsL s := (cells_mem s t).2 ⟨⟨h0, h1⟩, h2⟩
  rw [e, ← (cells_nodup s).erase_eq_filter t]
  have := List.length_erase_of_mem hm
  have := List.length_pos_of_mem hm
  refine ⟨by omega, fun h => ?_⟩
  rw [(cells_nodup s).erase_eq_filter t, List.mem_filter] at h
  simp at h
theorem nearF_min (D : Int → Int) : ∀ (r : List Int) (b : Int), (b :: r).Pairwise (· < ·) → ∀ c ∈ b :: r, D (nearF D b r) ≤ D c ∧ (D c = D (nearF D b r) → nearF D b r ≤ c) := by
  intro r
  induction r with
  | nil =>
    intro b _ c hc
    rw [List.mem_singleton.1 hc]
    exact ⟨Int.le_refl _, fun _ => Int.le_refl _⟩
  | cons a r ih =>
    intro b hp c hc
    rw [List.pairwise_cons] at hp
    obtain ⟨hp1, hp2⟩ := hp
    have hp3 := List.pairwise_cons.1 hp2
    show D (nearF D (if D a < D b then a else b) r) ≤ D c ∧ (D c = D (nearF D (if D a < D b then a else b) r) → nearF D (if D a < D b then a else b) r ≤ c)
    by_cases h : D a < D b
    · rw [if_pos h]
      have k := ih a hp2
      rcases List.mem_cons.1 hc with rfl | hc
      · have := k a (by simp)
        exact ⟨by omega, fun e => by omega⟩
      · exact k c hc
    · rw [if_neg h]
      have k := ih b (List.pairwise_cons.2 ⟨fun x hx => hp1 x (by simp [hx]), hp3.2⟩)
      rcases List.mem_cons.1 hc with rfl | hc
      · exact k c (by simp)
      · rcases List.mem_cons.1 hc with rfl | hc
        · have k2 := k b (by simp)
          have := hp1 c (by simp)
          exact ⟨by omega, fun e => by have := k2.2 (by omega); omega⟩
        · exact k c (by simp [hc])
theorem near_zero {g : Int × Int × List Bool} {x y : Int} (h : (nearR g x y).2.2 = 0) : gridB g = true ∧ cellB g x y = true ∧ ∃ a r, cellsL g.2.2 = a :: r ∧ nearR g x y = (nearF (farD g.1 · (y * g.1 + x)) a r, farD g.1 (nearF (farD g.1 · (y * g.1 + x)) a r) (y * g.1 + x), 0) := by
  unfold nearR at h ⊢
  by_cases h1 : gridB g = true
  · rw [if_pos h1] at h ⊢
    by_cases h2 : cellB g x y = true
    · rw [if_pos h2] at h ⊢
      refine ⟨h1, h2, ?_⟩
      cases hc : cellsL g.2.2 with
      | nil => rw [hc] at h; simp [nearX] at h
      | cons a r => exact ⟨a, r, rfl, rfl⟩
    · rw [if_neg h2] at h; simp at h
  · rw [if_neg h1] at h; simp at h
theorem search_zero {g : Int × Int × List Bool} {x y : Int} (h : (searchC g x y).2 = 0) : gridB g = true ∧ cellB g x y = true ∧ g.2.2.getD (y * g.1 + x).toNat false = false ∧ searchC g x y = ((g.1, g.2.1, g.2.2.set (y * g.1 + x).toNat true), 0) := by
  unfold searchC at h ⊢
  by_cases h1 : gridB g = true
  · rw [if_pos h1] at h ⊢
    by_cases h2 : cellB g x y = true
    · rw [if_pos h2] at h ⊢
      by_cases h3 : g.2.2.getD (y * g.1 + x).toNat false = true
      · rw [if_pos h3] at h; simp at h
      · rw [if_neg h3]
        exact ⟨h1, h2, by simpa using h3, rfl⟩
    · rw [if_neg h2] at h; simp at h
  · rw [if_neg h1] at h; simp at h
theorem row_zero {g : Int × Int × List Bool} {y : Int} (h : (searchR g y).2 = 0) : gridB g = true ∧ cellB g 0 y = true ∧ searchR g y = ((g.1, g.2.1, fillR g.1 y g.2.2), 0) := by
  unfold searchR at h ⊢
  by_cases h1 : gridB g = true
  · rw [if_pos h1] at h ⊢
    by_cases h2 : cellB g 0 y = true
    · rw [if_pos h2]
      exact ⟨h1, h2, rfl⟩
    · rw [if_neg h2] at h; simp at h
  · rw [if_neg h1] at h; simp at h
theorem fill_get (w y : Int) (s : List Bool) (j : Nat) (hj : j < s.length) (h : (fillR w y s).getD j false = false) : s.getD j false = false ∧ ∀ k : Nat, (k : Int) < w → (y * w + k).toNat ≠ j := by
  have key : ∀ (n i : Nat) (st : List Bool), j < st.length → (foldi (fun k st (_ : Unit) => st.set (y * w + k).toNat true) i st (List.replicate n ())).getD j false = false → st.getD j false = false ∧ ∀ k : Nat, i ≤ k → k < i + n → (y * w + k).toNat ≠ j := by
    intro n
    induction n with
    | zero => intro i st _ h; exact ⟨h, fun k h1 h2 => by omega⟩
    | succ n ih =>
      intro i st hj h
      rw [List.replicate_succ, foldi] at h
      obtain ⟨h1, h2⟩ := ih (i + 1) _ (by simpa using hj) h
      have hne : (y * w + (i : Int)).toNat ≠ j := by
        intro e
        rw [e, List.getD_eq_getElem?_getD, List.getElem?_set_self hj] at h1
        cases h1
      rw [List.getD_eq_getElem?_getD, List.getElem?_set_ne hne, ← List.getD_eq_getElem?_getD] at h1
      refine ⟨h1, fun k k1 k2 => ?_⟩
      by_cases hk : k = i
      · rw [hk]; exact hne
      · exact h2 k (by omega) (by omega)
  obtain ⟨h1, h2⟩ := key w.toNat 0 s hj h
  exact ⟨h1, fun k hk => h2 k (by omega) (by omega)⟩
theorem grids_end (g : Int × Int × List Bool) (x y : Int) (h : (searchC g x y).2 = 0) : (impl_CellsLeft.f ((searchC g x y).1.1, ((searchC g x y).1.2.1, (searchC g x y).1.2.2))).bind (fun r20 =>
    if ((r20.2 : Int) == 0) = true then
      if (((r20.1.length : Int) : Int) == (IntKind.i64.wrap (((cellsR g).1.length : Int) - 1))) = true then
        (laws_hasInt.f r20.1 (IntKind.i64.wrap ((IntKind.i64.wrap (y * g.1)) + x))).bind fun r21 =>
        some (!r21)
      else
        some false
    else
      some false) = some true := by
  obtain ⟨h1, h2, h3, h4⟩ := search_zero h
  have hca := cell_at h1 h2
  have hg := gridB_iff.1 h1
  rw [h4]
  have hs := cells_set g.2.2 (y * g.1 + x) (by omega) (by omega) h3
  have hg2 : gridB (g.1, g.2.1, g.2.2.set (y * g.1 + x).toNat true) = true := gridB_iff.2 ⟨hg.1, hg.2.1, hg.2.2.1, hg.2.2.2.1, by simp only [List.length_set]; exact hg.2.2.2.2⟩
  have hl := @cellsL_in g.2.2
  have w1 := w64 (n := y * g.1) (by omega) (by omega)
  have w2 := w64 (n := y * g.1 + x) (by omega) (by omega)
  have w3 := w64 (n := ((cellsL g.2.2).length : Int) - 1) (by omega) (by omega)
  simp only
  rw [impl_CellsLeft_f _ (by simp only [List.length_set]; omega)]
  unfold cellsR
  rw [if_pos hg2, if_pos h1]
  simp only [Option.bind_some, w1, w2, w3, hs.1, beq_self_eq_true, if_true]
  rw [hasInt_f _ _ (by omega), decide_eq_false hs.2]
  rfl
theorem NN0 : 0 < NN := by have := NNb; omega
theorem grids_tail (g : Int × Int × List Bool) (x y : Int) (I L : Int → Int → Int → Int → Int → Int → Int → Int → Int → Int → Int → List Int → List Bool → List Bool → Option Bool) (k d three i : Int) (hi : three = 0 → ¬ i < ((cellsR g).1.length : Int)) (hd : three = 0 → (searchC g x y).2 = 0 → d = 0) :
    laws_FnGrids.g28 I (laws_FnGrids.l1000033 NN NN) L x y (searchC g x y).2 k d three i g.1 g.2.1 (searchC g x y).1.1 (searchC g x y).1.2.1 (cellsR g).1 g.2.2 (searchC g x y).1.2.2 = some true := by
  have he := grids_end g x y
  generalize (searchC g x y).2 = bad at he hd
  unfold laws_FnGrids.g28
  rw [laws_FnGrids.c1000033 NN0]
  unfold laws_FnGrids.g1000033
  by_cases h3 : three = 0
  · have e3 : (three == 0) = true := by rw [h3]; rfl
    by_cases hb : bad = 0
    · have e1 : (bad == 0) = true := by rw [hb]; rfl
      have e2 : (bad != 0) = false := by rw [hb]; rfl
      have e4 : (d != 0) = false := by rw [hd h3 hb]; rfl
      simp only [e1, e2, e3, e4, decide_eq_false (hi h3), if_true, Bool.false_eq_true, if_false]
      exact he hb
    · have e1 : (bad == 0) = false := by rw [beq_eq_false_iff_ne]; exact hb
      have e2 : (bad != 0) = true := by rw [bne_iff_ne]; exact hb
      simp only [e1, e2, e3, decide_eq_false (hi h3), if_true, Bool.false_eq_true, if_false]
  · have e3 : (three == 0) = false := by rw [beq_eq_false_iff_ne]; exact h3
    by_cases hb : bad = 0
    · have e2 : (bad != 0) = false := by rw [hb]; rfl
      simp only [e2, e3, Bool.false_eq_true, if_false]
      exact he hb
    · have e2 : (bad != 0) = true := by rw [bne_iff_ne]; exact hb
      simp only [e2, e3, if_true, Bool.false_eq_true, if_false]
theorem grids_l28 (g : Int × Int × List Bool) (x y : Int) :
    laws_FnGrids.l28 NN NN x y (searchC g x y).2 (nearR g x y).1 (nearR g x y).2.1 (nearR g x y).2.2 0 g.1 g.2.1 (searchC g x y).1.1 (searchC g x y).1.2.1 (cellsR g).1 g.2.2 (searchC g x y).1.2.2 = some true := by
  by_cases h3 : (nearR g x y).2.2 = 0
  · obtain ⟨h1, h2, a, r, hc, hn⟩ := near_zero h3
    have hca := cell_at h1 h2
    have hgb := gridB_iff.1 h1
    have hcl : (cellsR g).1 = cellsL g.2.2 := by unfold cellsR; rw [if_pos h1]
    have hin := @cellsL_in g.2.2
    have hm := nearF_min (farD g.1 · (y * g.1 + x)) r a (hc ▸ cells_sorted g.2.2)
    rw [hn]
    generalize nearF (farD g.1 · (y * g.1 + x)) a r = m at hm hn
    have hd : (searchC g x y).2 = 0 → farD g.1 m (y * g.1 + x) = 0 := fun hb => by
      obtain ⟨q1, q2, q3, q4⟩ := search_zero hb
      have ht : y * g.1 + x ∈ cellsL g.2.2 := (cells_mem _ _).2 ⟨⟨by omega, by omega⟩, q3⟩
      have k1 := (hm _ (hc ▸ ht)).1
      have k2 : farD g.1 (y * g.1 + x) (y * g.1 + x) = 0 := by unfold farD absI; simp
      have k3 : 0 ≤ farD g.1 m (y * g.1 + x) := by unfold farD absI; split <;> split <;> omega
      omega
    have := (fold_fix (E := fun c => c ∈ cellsL g.2.2) (fun _ _ => True) (fun _ (_ : Unit) _ => ()) (fun _ => some true) (fun k i _ => laws_FnGrids.l28 NN k x y (searchC g x y).2 m (farD g.1 m (y * g.1 + x)) 0 i g.1 g.2.1 (searchC g x y).1.1 (searchC g x y).1.2.1 (cellsL g.2.2) g.2.2 (searchC g x y).1.2.2) (cellsL g.2.2) ?_ ?_ () (fun _ h => h) trivial (by omega) NN (NN_lt (by omega))).2
    · rw [hcl]
      exact this
    · intro k _ _
      have ht := grids_tail g x y (laws_FnGrids.l1000030 NN (laws_FnGrids.l28 NN k) NN) (laws_FnGrids.l28 NN k) m (farD g.1 m (y * g.1 + x)) 0 ((cellsL g.2.2).length : Int) (fun _ => by rw [hcl]; omega) (fun _ => hd)
      rw [hcl] at ht
      exact ht
    · intro k p c r' _ hxs hcm _ c0 c1 c2 cw g0
      refine ⟨trivial, ?_⟩
      have w1 := w64 (n := y * g.1) (by omega) (by omega)
      have w2 := w64 (n := y * g.1 + x) (by omega) (by omega)
      have hb := hin.2 c hcm
      have hcb : cellsB g [y * g.1 + x, c] = true := by
        unfold cellsB
        simp only [List.length_cons, List.length_nil, List.all_cons, List.all_nil, Bool.and_true, Bool.and_eq_true, decide_eq_true_eq, inB_iff]
        omega
      have hw : walkR g [y * g.1 + x, c] = (farD g.1 c (y * g.1 + x), 0) := by
        unfold walkR
        rw [if_pos h1, if_pos hcb, farD_symm g.1 c]
        simp [walkL, walkF]
      have hmc := hm c (hc ▸ hcm)
      have n1 : ¬ farD g.1 c (y * g.1 + x) < farD g.1 m (y * g.1 + x) := by have := hmc.1; omega
      show laws_FnGrids.g28 (laws_FnGrids.l1000030 NN (laws_FnGrids.l28 NN k) NN) (laws_FnGrids.l1000033 NN NN) (laws_FnGrids.l28 NN k) _ _ _ _ _ _ _ _ _ _ _ _ _ _ = _
      simp only [laws_FnGrids.g28, laws_FnGrids.c1000030 NN0, laws_FnGrids.g1000030, laws_FnGrids.c1000031 NN0, laws_FnGrids.g1000031, laws_FnGrids.c1000029 NN0, laws_FnGrids.g1000029, c0, c1, cw, and_self, and_true, true_and, decide_true, decide_false, if_true, if_false, mid_get, mid_set, mid_getn, mid_setn, bt_mid, Option.bind_some, Bool.not_true, Bool.not_false, Bool.false_eq_true, Bool.true_eq_false, beq_self_eq_true, bne_self_eq_false, Int.toNat_natCast, g0, w1, w2, show (g.1, g.2.1, g.2.2) = g from rfl, (WalkLength_both g [y * g.1 + x, c] (by simp)).2, hw, n1, bne_self_eq_false]
      by_cases he : farD g.1 c (y * g.1 + x) = farD g.1 m (y * g.1 + x)
      · have n2 : ¬ c < m := by have := hmc.2 he; omega
        simp only [he, beq_self_eq_true, n2, decide_false, Bool.false_eq_true, if_false, if_true]
      · have n3 : (farD g.1 c (y * g.1 + x) == farD g.1 m (y * g.1 + x)) = false := by rw [beq_eq_false_iff_ne]; exact he
        simp only [n3, Bool.false_eq_true, if_false, if_true]
  · obtain ⟨k, hk⟩ : ∃ j, NN = j + 1 := ⟨NN - 1, by have := NNb; omega⟩
    rw [show laws_FnGrids.l28 NN NN = laws_FnGrids.g28 (laws_FnGrids.l1000030 NN (laws_FnGrids.l28 NN k) NN) (laws_FnGrids.l1000033 NN NN) (laws_FnGrids.l28 NN k) by
      conv => lhs; rw [show laws_FnGrids.l28 NN NN = laws_FnGrids.l28 NN (k + 1) by rw [← hk]]
      rfl]
    exact grids_tail g x y _ _ _ _ _ 0 (fun h => absurd h h3) (fun h => absurd h h3)
theorem FnGrids_true (code : List Int) (hyp : Ls (Rg .u8) code) : laws_FnGrids.f code = some true := by
  unfold laws_FnGrids.f laws_FnGrids.fn laws_FnGrids.top
  rw [big_f]
  by_cases hb : (4096 : Int) < (code.length : Int)
  · simp [hb]
  have hco := code_of hyp hb
  obtain ⟨g, x, y, e1, g1⟩ := drawCell_ok hco
  obtain ⟨z, row, e2, z1⟩ := drawRow_ok hco
  have l28 := grids_l28 g x y
  have hgl := g1.2.2
  have hzl := z1.2.2
  have hin := @cellsL_in g.2.2
  have hcl : (cellsR g).1.length ≤ 1000 := by unfold cellsR; split <;> simp <;> omega
  have hsl : (searchC g x y).1.2.2.length ≤ 1000 := by
    have := (searchC_ok g x y (gridS_ok g1)).2.2.1
    unfold searchC; split
    · split
      · split <;> simp <;> omega
      · simp
    · simp
  have hrl : (searchR z row).1.2.2.length ≤ 1000 := by
    unfold searchR; split
    · split
      · simp only [fillR_len]; omega
      · simp
    · simp
  simp only [hb, decide_false, Bool.false_eq_true, if_false, Option.bind_some, e1, e2]
  rw [show (g.1, g.2.1, g.2.2) = g from rfl, show (z.1, z.2.1, z.2.2) = z from rfl, impl_SearchCell_f g x y (by omega), spec_SearchCell_f g x y (by omega), impl_CellsLeft_f g (by omega), spec_CellsLeft_f g (by omega), (NearestLeft_both g x y).1, (NearestLeft_both g x y).2, impl_SearchRow_f z row (by omega), spec_SearchRow_f z row (by omega)]
  simp only [Option.bind_some, bne_self_eq_false, if_true, if_false, likeGrid_self _ (show (searchC g x y).1.2.2.length ≤ 140737488355328 by omega), likeGrid_self _ (show (searchR z row).1.2.2.length ≤ 140737488355328 by omega), likeInts_self _ (show (cellsR g).1.length ≤ 140737488355328 by omega), Bool.not_true, Bool.false_eq_true]
  by_cases h5 : (searchR z row).2 = 0
  · obtain ⟨q1, q2, q3⟩ := row_zero h5
    have hgz := gridB_iff.1 q1
    have hcz := cell_at q1 q2
    rw [q3]
    have hg2 : gridB (z.1, z.2.1, fillR z.1 row z.2.2) = true := gridB_iff.2 ⟨hgz.1, hgz.2.1, hgz.2.2.1, hgz.2.2.2.1, by simp only [fillR_len]; exact hgz.2.2.2.2⟩
    have hfl := fillR_len z.1 row z.2.2
    have hin2 := @cellsL_in (fillR z.1 row z.2.2)
    simp only [beq_self_eq_true, if_true]
    rw [impl_CellsLeft_f _ (by simp only; omega), spec_CellsLeft_f _ (by simp only; omega)]
    have hc2 : cellsR (z.1, z.2.1, fillR z.1 row z.2.2) = (cellsL (fillR z.1 row z.2.2), 0) := by unfold cellsR; rw [if_pos hg2]
    simp only [Option.bind_some, hc2, bne_self_eq_false, if_true, likeInts_self _ (show (cellsL (fillR z.1 row z.2.2)).length ≤ 140737488355328 by omega), Bool.not_true, Bool.false_eq_true, if_false]
    have := all_loop (E := fun c => c ∈ cellsL (fillR z.1 row z.2.2)) (fun _ => true) (fun _ => some true) (fun k xs i => laws_FnGrids.l21 NN k x y (searchC g x y).2 (nearR g x y).1 (nearR g x y).2.1 (nearR g x y).2.2 row 0 i g.1 g.2.1 (searchC g x y).1.1 (searchC g x y).1.2.1 (cellsR g).1 z.1 z.2.1 z.1 z.2.1 xs g.2.2 (searchC g x y).1.2.2 z.2.2 (fillR z.1 row z.2.2)) ?_ ?_ (cellsL (fillR z.1 row z.2.2)) (fun _ h => h) (by omega) NN (NN_lt (by omega))
    · refine this.trans ?_
      simp
    · intro k p
      have n1 : ¬ (p.length : Int) < (p.length : Int) := by omega
      simp only [laws_FnGrids.l21, laws_FnGrids.g21, n1, decide_false, Bool.false_eq_true, if_false, bne_self_eq_false, if_true, impl_IsGrid_f, hg2, Option.bind_some, Bool.not_true]
      exact l28
    · intro k p c r hcm c0 c1 cw
      obtain ⟨⟨b1, b2⟩, b3⟩ := (cells_mem _ c).1 hcm
      rw [hfl] at b2
      obtain ⟨f1, f2⟩ := fill_get z.1 row z.2.2 c.toNat (by omega) b3
      have hz1 : ¬ z.1 = 0 := by omega
      have hdv := Int.tdiv_eq_ediv_of_nonneg (b := z.1) b1
      have hmd := Int.emod_def c z.1
      have hm1 := Int.emod_nonneg c hz1
      have hm2 := Int.emod_lt_of_pos c (show 0 < z.1 by omega)
      have hdb : 0 ≤ c / z.1 ∧ c / z.1 ≤ c := ⟨Int.ediv_nonneg b1 (by omega), Int.ediv_le_self _ b1⟩
      have w1 := w64 (n := Int.tdiv c z.1) (by omega) (by omega)
      have hne : ((Int.tdiv c z.1 : Int) == row) = false := by
        rw [beq_eq_false_iff_ne, hdv]
        intro e
        rw [e] at hmd
        have e2 : z.1 * row = row * z.1 := Int.mul_comm _ _
        exact f2 (c - row * z.1).toNat (by omega) (by omega)
      simp only [laws_FnGrids.l21, laws_FnGrids.g21, c0, c1, cw, and_self, and_true, true_and, decide_true, decide_false, if_true, if_false, mid_get, mid_set, mid_getn, mid_setn, bt_mid, Option.bind_some, Bool.not_true, Bool.not_false, Bool.false_eq_true, Bool.true_eq_false, beq_self_eq_true, bne_self_eq_false, Int.toNat_natCast, hz1, w1, hne, b1, b2, f1]
  · have e5 : ((searchR z row).2 == 0) = false := by rw [beq_eq_false_iff_ne]; exact h5
    simp only [e5, Bool.false_eq_true, if_false]
    exact l28
end Go.Pl
