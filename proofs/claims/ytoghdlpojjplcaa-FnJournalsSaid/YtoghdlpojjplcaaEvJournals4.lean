/- Part 4 of what the law FnJournals stands on: an evaluator of the model's code, proved sound; the functions as plain texts; their contracts. -/
import Derived.Test.YtoghdlpojjplcaaChecked
import Derived.Test.YtoghdlpojjplcaaProg
import Derived.Test.YtoghdlpojjplcaaRows
import Derived.Below
import Derived.Calls
import Derived.Carry
import Derived.ChangeArms
import Derived.ChangeKeysEq
import Derived.ChangeOld
import Derived.Deep.Quiet
import Derived.KernelRfl
import Derived.Laws.Append
import Derived.Laws.BytesString
import Derived.Laws.MakeOwn
import Derived.Laws.Strings
import Derived.Laws.StructEq
import Derived.OpenShut
import Derived.OrdersHeld
import Derived.ProofKit
import Derived.ShutString
import Derived.SizedLaws
import Derived.Tactics
import Derived.WalkKit
import Derived.WideShapes
import Derived.Test.YtoghdlpojjplcaaEvJournals3
/- Words for the plain laws. -/
namespace Go.Pl
open Go.Ev
set_option linter.unusedVariables false

theorem wf64 {n : Int} : (Lit.int .i64 n).wf = true ↔ (-9223372036854775808 ≤ n ∧ n ≤ 9223372036854775807) := by
  simp only [Lit.wf, Bool.and_eq_true, decide_eq_true_eq]
  have e1 : IntKind.i64.min = -9223372036854775808 := by decide
  have e2 : IntKind.i64.max = 9223372036854775807 := by decide
  omega
theorem wf8 {n : Int} : (Lit.int .u8 n).wf = true ↔ (0 ≤ n ∧ n ≤ 255) := by
  simp only [Lit.wf, Bool.and_eq_true, decide_eq_true_eq]
  have e1 : IntKind.u8.min = 0 := by decide
  have e2 : IntKind.u8.max = 255 := by decide
  omega
theorem w8 {n : Int} (h1 : 0 ≤ n) (h2 : n < 256) : IntKind.u8.wrap n = n := by
  simp only [IntKind.wrap, IntKind.bits, IntKind.signed]
  simp
  omega
theorem w8_range (n : Int) : 0 ≤ IntKind.u8.wrap n ∧ IntKind.u8.wrap n < 256 := by
  simp only [IntKind.wrap, IntKind.bits, IntKind.signed]
  simp
  omega

/-! Rows, taken apart where a loop stands. -/
theorem mid_get {α : Type} (p r : List α) (x z : α) : (p ++ x :: r).getD (p.length : Int).toNat z = x := by simp
theorem mid_set {α : Type} (p r : List α) (x y : α) : (p ++ x :: r).set (p.length : Int).toNat y = p ++ y :: r := by simp
theorem mid_getn {α : Type} (p r : List α) (x z : α) : (p ++ x :: r).getD p.length z = x := by simp
theorem mid_setn {α : Type} (p r : List α) (x y : α) : (p ++ x :: r).set p.length y = p ++ y :: r := by simp
theorem mid_len {α : Type} (p r : List α) (x : α) : ((p ++ x :: r).length : Int) = (p.length : Int) + r.length + 1 := by simp; omega
theorem mid_nil {α : Type} (p : List α) : p ++ [] = p := by simp
theorem mid_snoc {α : Type} (p r : List α) (x : α) : (p ++ [x]) ++ r = p ++ x :: r := by simp
theorem snoc_len {α : Type} (p : List α) (x : α) : ((p ++ [x]).length : Int) = (p.length : Int) + 1 := by simp
/-- A loop over a row: l stands for its rounds, f for what it comes to. -/
theorem loop_mid {α ρ σ : Type} {B : Nat} (l : Nat → List α → Int → σ → Option ρ) (f : List α → List α → σ → Option ρ)
    (hnil : ∀ k pre st, pre.length ≤ B → l (k + 1) pre (pre.length : Int) st = f pre [] st)
    (hcons : ∀ k pre a r st, pre.length + r.length + 1 ≤ B → (∀ st', l k (pre ++ a :: r) ((pre.length : Int) + 1) st' = f (pre ++ [a]) r st') → l (k + 1) (pre ++ a :: r) (pre.length : Int) st = f pre (a :: r) st) :
    ∀ r pre k st, pre.length + r.length ≤ B → r.length < k → l k (pre ++ r) (pre.length : Int) st = f pre r st := by
  intro r
  induction r with
  | nil =>
    intro pre k st h1 h2
    obtain ⟨k, rfl⟩ : ∃ j, k = j + 1 := ⟨k - 1, by omega⟩
    rw [List.append_nil]
    exact hnil k pre st (by simpa using h1)
  | cons a r ih =>
    intro pre k st h1 h2
    simp only [List.length_cons] at h1 h2
    obtain ⟨k, rfl⟩ : ∃ j, k = j + 1 := ⟨k - 1, by omega⟩
    refine hcons k pre a r st (by omega) fun st' => ?_
    have := ih (pre ++ [a]) k st' (by simp; omega) (by omega)
    rw [mid_snoc, snoc_len] at this
    exact this
/-- The same, where the row itself is written. -/
theorem loop_mid0 {α ρ σ : Type} {B : Nat} (l : Nat → List α → Int → σ → Option ρ) (f : List α → List α → σ → Option ρ)
    (hnil : ∀ k pre st, pre.length ≤ B → l (k + 1) pre (pre.length : Int) st = f pre [] st)
    (hcons : ∀ k pre a r st, pre.length + r.length + 1 ≤ B → (∀ st', l k (pre ++ a :: r) ((pre.length : Int) + 1) st' = f (pre ++ [a]) r st') → l (k + 1) (pre ++ a :: r) (pre.length : Int) st = f pre (a :: r) st)
    (xs : List α) (k : Nat) (st : σ) (h1 : xs.length ≤ B) (h2 : xs.length < k) : l k xs 0 st = f [] xs st := by
  have := loop_mid l f hnil hcons xs [] k st (by simpa using h1) h2
  simpa using this
/-- A loop by a measure. -/
theorem loop_by {ρ σ : Type} (l : Nat → σ → Option ρ) (μ : σ → Nat) (Q : σ → Option ρ → Prop)
    (h : ∀ k st, (∀ st', μ st' < μ st → Q st' (l k st')) → Q st (l (k + 1) st)) : ∀ k st, μ st < k → Q st (l k st) := by
  intro k
  induction k with
  | zero => intro st h; omega
  | succ k ih => intro st hk; exact h k st fun st' h' => ih st' (by omega)

/-! Bytes. -/
theorem ba_toList {a b : ByteArray} : a.toList = b.toList ↔ a = b := by
  rw [ByteArray.toList_eq, ByteArray.toList_eq]
  exact ⟨fun h => ByteArray.ext (Array.toList_inj.mp h), fun h => by rw [h]⟩
theorem ba_beq (a b : ByteArray) : (a.toList == b.toList) = decide (a = b) := by
  by_cases h : a = b
  · subst h; simp
  · rw [decide_eq_false h, beq_eq_false_iff_ne]; exact fun e => h (ba_toList.1 e)
def bl (s : ByteArray) : List UInt8 := s.data.toList
def ob (l : List UInt8) : ByteArray := ⟨l.toArray⟩
theorem bl_ob (l : List UInt8) : bl (ob l) = l := by simp [bl, ob]
theorem ob_bl (s : ByteArray) : ob (bl s) = s := by simp [bl, ob]
theorem bl_inj {a b : ByteArray} (h : bl a = bl b) : a = b := by rw [← ob_bl a, h, ob_bl]
theorem ob_inj {a b : List UInt8} (h : ob a = ob b) : a = b := by rw [← bl_ob a, h, bl_ob]
theorem bl_length (s : ByteArray) : (bl s).length = s.size := by simp only [bl, Array.length_toList]; rfl
theorem ob_size (l : List UInt8) : (ob l).size = l.length := by rw [← bl_length, bl_ob]
theorem bl_append (a b : ByteArray) : bl (a ++ b) = bl a ++ bl b := by simp [bl]
theorem ob_append (a b : List UInt8) : ob a ++ ob b = ob (a ++ b) := by apply bl_inj; rw [bl_append, bl_ob, bl_ob, bl_ob]
theorem bl_lit (a : Array UInt8) : bl (⟨a⟩ : ByteArray) = a.toList := rfl
theorem lit_ob (l : List UInt8) : (⟨l.toArray⟩ : ByteArray) = ob l := rfl
theorem bl_extract (s : ByteArray) (i j : Nat) : bl (s.extract i j) = ((bl s).take j).drop i := by
  simp only [bl, ByteArray.data_extract, Array.toList_extract, List.extract]
  rw [List.drop_take]
theorem ob_extract (l : List UInt8) (i j : Nat) : (ob l).extract i j = ob ((l.take j).drop i) := by apply bl_inj; rw [bl_extract, bl_ob, bl_ob]
theorem ob_toList (l : List UInt8) : (ob l).toList = l := by rw [ByteArray.toList_eq]; rfl
theorem ba_bl (s : ByteArray) : s.toList = bl s := by rw [ByteArray.toList_eq]; rfl
theorem bt_ob (l : List UInt8) (i : Int) : bt (ob l) i = ((l.getD i.toNat 0).toNat : Int) := rfl
theorem bt_mid (p r : List UInt8) (c : UInt8) : bt (ob (p ++ c :: r)) (p.length : Int) = (c.toNat : Int) := by rw [bt_ob, mid_get]
theorem bt_range (s : ByteArray) (i : Int) : 0 ≤ bt s i ∧ bt s i ≤ 255 := by
  unfold bt
  have := UInt8.toNat_lt ((s.data.toList.getD i.toNat 0))
  omega
theorem u8_lt (c : UInt8) : c.toNat < 256 := UInt8.toNat_lt c
theorem u8_eq {a : UInt8} {n : Nat} (h : n < 256) : ((a.toNat : Int) = (n : Int)) ↔ a = UInt8.ofNat n := by
  constructor
  · intro e
    apply UInt8.toNat_inj.mp
    rw [UInt8.toNat_ofNat']; omega
  · rintro rfl
    rw [UInt8.toNat_ofNat']; omega
theorem bytesOf_ob (l : List Int) : bytesOf l = ob (l.map fun n => UInt8.ofNat n.toNat) := rfl
/-- Every string is of bytes. -/
theorem ob_all {P : ByteArray → Prop} (h : ∀ l, P (ob l)) (s : ByteArray) : P s := by rw [← ob_bl s]; exact h _
/-- A loop over a string's bytes. -/
theorem loop_str0 {ρ σ : Type} {B : Nat} (l : Nat → ByteArray → Int → σ → Option ρ) (f : List UInt8 → List UInt8 → σ → Option ρ)
    (hnil : ∀ k pre st, pre.length ≤ B → l (k + 1) (ob pre) (pre.length : Int) st = f pre [] st)
    (hcons : ∀ k pre a r st, pre.length + r.length + 1 ≤ B → (∀ st', l k (ob (pre ++ a :: r)) ((pre.length : Int) + 1) st' = f (pre ++ [a]) r st') → l (k + 1) (ob (pre ++ a :: r)) (pre.length : Int) st = f pre (a :: r) st)
    (s : ByteArray) (k : Nat) (st : σ) (h1 : s.size ≤ B) (h2 : s.size < k) : l k s 0 st = f [] (bl s) st := by
  have := loop_mid0 (fun k xs i st => l k (ob xs) i st) f hnil hcons (bl s) k st (by rw [bl_length]; exact h1) (by rw [bl_length]; exact h2)
  rw [ob_bl] at this
  exact this
theorem room1 : room 1 = 140737488355328 := by decide
theorem room8 : room 8 = 17592186044416 := by decide
theorem room16 : room 16 = 8796093022208 := by decide
theorem room24 : room 24 = 5864062014805 := by decide
theorem room32 : room 32 = 4398046511104 := by decide
theorem room40 : room 40 = 3518437208883 := by decide
theorem NNb : (1000000000000 : Nat) < NN := by rw [NN_eq]; omega
theorem NN_lt {n : Nat} (h : n < 1152921504606846976) : n < NN := by rw [NN_eq]; omega
theorem some_iff {b c : Bool} (h : b = true ↔ c = true) : some b = some c := by
  congr 1; exact Bool.eq_iff_iff.mpr h
end Go.Pl

/- A law's row: what its arguments are, in plain words. -/
namespace Go.Ev
set_option linter.unusedVariables false
set_option linter.unusedSimpArgs false
open Go.RowKit Go.WideShapes Go.ChangeShapes Go.ChangeAt
variable {P : Program}

def Rg (k : IntKind) (n : Int) : Prop := (Lit.int k n).wf = true
def Sz (s : ByteArray) : Prop := s.size ≤ 140737488355328
def Ls {α : Type} (Q : α → Prop) (xs : List α) : Prop := xs.length ≤ 140737488355328 ∧ ∀ x ∈ xs, Q x
def Plain : (t : Ty) → t.I → Prop
  | .int k, n => Rg k n
  | .bool, _ => True
  | .str, s => Sz s
  | .sl _ t, xs => Ls (Plain t) xs
  | .slb _ _, _ => True
  | .pair a b, x => Plain a x.1 ∧ Plain b x.2
  | .arr n t, xs => xs.length = n ∧ ∀ x ∈ xs, Plain t x
def PlainAll : (ts : List Ty) → Tup ts → Prop
  | [], _ => True
  | [t], x => Plain t x
  | t :: u :: r, x => Plain t x.1 ∧ PlainAll (u :: r) x.2
def okE (B : TypeId → Nat) : Ty → Bool
  | .sl e t => decide (1 ≤ B e) && okE B t
  | .slb e t => decide (1 ≤ B e) && okE B t
  | .pair a b => okE B a && okE B b
  | .arr _ t => okE B t
  | _ => true
theorem reach_lt : reachBytes ≤ 140737488355328 := by decide
theorem fit_plain {B : TypeId → Nat} : ∀ (t : Ty) (x : t.I), okE B t = true → Fit B t x → Plain t x := by
  intro t
  induction t with
  | int k => intro x _ h; exact h
  | bool => intro x _ h; trivial
  | str => intro x _ h; exact Nat.le_trans h reach_lt
  | sl e t ih =>
    intro x ho h
    simp only [okE, Bool.and_eq_true, decide_eq_true_eq] at ho
    refine ⟨?_, fun y hy => ih y ho.2 (h.2 y hy)⟩
    have h1 : x.length * 1 ≤ x.length * B e := Nat.mul_le_mul_left _ ho.1
    have h2 := h.1
    have h3 := reach_lt
    omega
  | slb e t ih => intro x ho h; trivial
  | pair a b iha ihb =>
    intro x ho h
    simp only [okE, Bool.and_eq_true] at ho
    exact ⟨iha _ ho.1 h.1, ihb _ ho.2 h.2⟩
  | arr n t ih => intro x ho h; exact ⟨h.1, fun y hy => ih y ho (h.2 y hy)⟩
theorem fit_plainAll {B : TypeId → Nat} : ∀ (ts : List Ty) (x : Tup ts), ts.all (okE B) = true → FitAll B ts x → PlainAll ts x := by
  intro ts
  induction ts with
  | nil => intro x _ _; trivial
  | cons t r ih =>
    intro x ho h
    simp only [List.all_cons, Bool.and_eq_true] at ho
    cases r with
    | nil => exact fit_plain t x ho.1 h
    | cons u r => exact ⟨fit_plain t x.1 ho.1 h.1, ih x.2 ho.2 h.2⟩
theorem ok_all {tab : List TRow} (h : okB P tab = true) : tab.all (rowB P tab) = true := by
  unfold okB at h; simp only [Bool.and_eq_true] at h; exact h.2.2
theorem bytes_sound {tab : List TRow} (h : okB P tab = true) : ∀ t x, tabT tab t = some x → P.bytesOf t = tabB tab t := by
  intro t x ht
  have hs := tab_sound (ok_all h)
  obtain ⟨ty, n⟩ := x
  obtain ⟨i, h1, h2⟩ := (hs.1 t ty n ht).info
  unfold Program.bytesOf
  rw [h1]
  exact hs.2 t _ ht i h1
section
variable {H : Type} {enc : TypeId × Value → H} {w : World} {base : Nat} {spare : Nat → Bool} {held : Bool}
theorem law_row {tab : List TRow} (hok : okB P tab = true) (hpos : posB tab = true) {f : FuncId} {c : Con} (hg : Good P f c) (hps : (c.ps.map (·.2)).map ((Kn.val, ·)) = c.ps) (hE : (c.ps.map (·.2)).all (okE (tabB tab)) = true)
    (hlaw : ∀ x, PlainAll (c.ps.map (·.2)) x → ∃ r, c.F x = some r ∧ kds' c.rs (dats _ r) = [(.val, ⟨.bool, true⟩)])
    {r : Reach} {b0 : Nat} {ts : List TypeId} {args : Array Value} {ds : List (DataW H)} {p : List MemPlace} (hts : tysOf (tabT tab) ts = some (c.ps.map (·.2))) (h : DataW.TrodAll enc P w base spare held ts args.toList ds p)
    (hval : ∀ (j : Nat) t v, ts[j]? = some t → args[j]? = some v → Value.okWide P w r b0 t v) {vt : List TypeId} {gs : List (DataW H)} (hgs : vt = [] ∨ gs = []) (hw : (DataW.weightsEach P (ts ++ vt) (ds ++ gs)).all (· ≤ reachBytes) = true) (hl : ts.length = ds.length) :
    Calls P f args w fun e w' => e = .returned (.bool true) ∧ Below w.heap.size w w' := by
  refine law_calls (tab_sound (ok_all hok)).1 (bytes_sound hok) (posB_sound hpos) hg hps (fun x hx => hlaw x (fit_plainAll _ x hE hx)) hts h (fun j t v hj hv => hval j t v hj (by simpa using hv)) ?_
  have key : ∀ (ts : List TypeId) (ds : List (DataW H)), ts.length = ds.length → ∀ m ∈ DataW.weightsEach P ts ds, m ∈ DataW.weightsEach P (ts ++ vt) (ds ++ gs) := by
    intro ts
    induction ts with
    | nil => intro ds hl m hm; cases ds <;> simp [DataW.weightsEach] at hm
    | cons t ts ih =>
      intro ds hl m hm
      cases ds with
      | nil => simp [DataW.weightsEach] at hm
      | cons d ds =>
        simp only [List.cons_append, DataW.weightsEach, List.mem_append] at hm ⊢
        rcases hm with hm | hm
        · exact .inl hm
        · exact .inr (ih ds (by simpa using hl) m hm)
  intro m hm
  have := List.all_eq_true.1 hw m (key ts ds hl m hm)
  simpa using this
end
end Go.Ev

/- What the laws' own helpers do, loop by loop: sizes, copies, comparisons, marks. -/
namespace Go.Pl
open Go.Ev
set_option linter.unusedVariables false

def Sm (s : ByteArray) : Prop := s.size ≤ 1000000
def Lm {α : Type} (Q : α → Prop) (xs : List α) : Prop := xs.length ≤ 1000000 ∧ ∀ x ∈ xs, Q x

theorem eqS_loop {α : Type} {E : α → Prop} (l : Nat → List α → List α → Int → Option Bool) (a : List α) (hE : ∀ x ∈ a, E x)
    (hs : ∀ k p x r, E x → a = p ++ x :: r → l (k + 1) a a p.length = l k a a ((p.length : Int) + 1)) (he : ∀ k, l (k + 1) a a a.length = some true) :
    ∀ k, a.length < k → l k a a 0 = some true := by
  have key : ∀ (r p : List α) (k : Nat), a = p ++ r → r.length < k → l k a a p.length = some true := by
    intro r
    induction r with
    | nil =>
      intro p k h hk
      obtain ⟨k, rfl⟩ : ∃ j, k = j + 1 := ⟨k - 1, by omega⟩
      rw [List.append_nil] at h
      rw [← h]; exact he k
    | cons x r ih =>
      intro p k h hk
      simp only [List.length_cons] at hk
      obtain ⟨k, rfl⟩ : ∃ j, k = j + 1 := ⟨k - 1, by omega⟩
      rw [hs k p x r (hE x (by rw [h]; simp)) h]
      have := ih (p ++ [x]) k (by rw [h]; simp) (by omega)
      rw [snoc_len] at this
      exact this
  intro k hk
  have := key a [] k (by simp) hk
  simpa using this

theorem szS_loop {α : Type} {Q R : α → Prop} (l : Nat → List α → Int → Int → Option Int)
    (he : ∀ k p left, l (k + 1) p left p.length = some left)
    (hs : ∀ x, Q x → ∀ left, -1000000000000000 ≤ left → left ≤ 1000000 → ∃ s, s ≤ 1000000 ∧ (0 ≤ s → s ≤ left ∧ R x) ∧ ∀ k p r, p.length + r.length + 1 ≤ 140737488355328 → l (k + 1) (p ++ x :: r) left p.length = if s < 0 then some (-1) else l k (p ++ x :: r) s ((p.length : Int) + 1))
    (a : List α) (k : Nat) (left : Int) (h0 : -1000000000000000 ≤ left) (h1 : left ≤ 1000000) (ha : Ls Q a) (hk : a.length < k) : ∃ s, l k a left 0 = some s ∧ s ≤ 1000000 ∧ (0 ≤ s → s ≤ left ∧ ∀ x ∈ a, R x) := by
  have key : ∀ (r p : List α) (k : Nat) (left : Int), p.length + r.length ≤ 140737488355328 → (∀ x ∈ r, Q x) → -1000000000000000 ≤ left → left ≤ 1000000 → r.length < k → ∃ s, l k (p ++ r) left p.length = some s ∧ s ≤ 1000000 ∧ (0 ≤ s → s ≤ left ∧ ∀ x ∈ r, R x) := by
    intro r
    induction r with
    | nil =>
      intro p k left _ _ _ _ hk
      obtain ⟨k, rfl⟩ : ∃ j, k = j + 1 := ⟨k - 1, by omega⟩
      rw [List.append_nil]
      exact ⟨left, he k p left, by omega, fun _ => ⟨by omega, fun x hx => by cases hx⟩⟩
    | cons x r ih =>
      intro p k left hb hq h0 h1 hk
      simp only [List.length_cons] at hk hb
      obtain ⟨k, rfl⟩ : ∃ j, k = j + 1 := ⟨k - 1, by omega⟩
      obtain ⟨s, s1, s2, s3⟩ := hs x (hq x (by simp)) left h0 h1
      rw [s3 k p r (by omega)]
      by_cases hn : s < 0
      · rw [if_pos hn]; exact ⟨-1, rfl, by omega, by omega⟩
      · rw [if_neg hn]
        obtain ⟨u, u1, u2, u3⟩ := ih (p ++ [x]) k s (by simp; omega) (fun y hy => hq y (by simp [hy])) (by omega) (by omega) (by omega)
        rw [mid_snoc, snoc_len] at u1
        refine ⟨u, u1, by omega, fun h => ⟨by have := (u3 h).1; have := (s2 (by omega)).1; omega, fun y hy => ?_⟩⟩
        rcases List.mem_cons.1 hy with rfl | hy
        · exact (s2 (by omega)).2
        · exact (u3 h).2 y hy
  have := key a [] k left (by simpa using ha.1) ha.2 h0 h1 hk
  simpa using this

theorem toS_loop {α : Type} {Z R : α → Prop} (l5 l9 : Nat → List α → Int → List α → Option (List α × List α))
    (he9 : ∀ k a (out : List α), (a.length : Int) ≤ out.length → l9 (k + 1) a out.length out = some (out.take a.length, out.drop a.length))
    (hs9 : ∀ k a (i : Nat) (out : List α), i < out.length → out.length ≤ 140737488355328 → ∃ z, Z z ∧ l9 (k + 1) a i out = l9 k a ((i : Int) + 1) (out.set i z))
    (he5 : ∀ k a (out : List α), l5 (k + 1) a a.length out = l9 NN a a.length out)
    (hs5 : ∀ k (p r : List α) x (q s : List α) y, R x → p.length = q.length → p.length + r.length + 1 ≤ 140737488355328 → p.length + s.length + 1 ≤ 140737488355328 → l5 (k + 1) (p ++ x :: r) p.length (q ++ y :: s) = l5 k (p ++ x :: r) ((p.length : Int) + 1) (q ++ x :: s))
    (a : List α) (out : List α) (k : Nat) (ha : ∀ x ∈ a, R x) (h : a.length ≤ out.length) (hb : out.length ≤ 140737488355328) (hk : a.length < k) :
    ∃ fil, l5 k a 0 out = some (a, fil) ∧ fil.length = out.length - a.length ∧ ∀ x ∈ fil, Z x := by
  have hN : 140737488355328 < NN := NN_lt (by omega)
  have k9 : ∀ (d : Nat) (k : Nat) (i : Nat) (out : List α), out.length ≤ 140737488355328 → i + d = out.length → d < k → a.length ≤ i → out.take a.length = a → (∀ j x, a.length ≤ j → j < i → out[j]? = some x → Z x) →
      ∃ fil, l9 k a i out = some (a, fil) ∧ fil.length = out.length - a.length ∧ ∀ x ∈ fil, Z x := by
    intro d
    induction d with
    | zero =>
      intro k i out hb hi hk ha ht hz
      obtain ⟨k, rfl⟩ : ∃ j, k = j + 1 := ⟨k - 1, by omega⟩
      obtain rfl : i = out.length := by omega
      refine ⟨_, by rw [he9 k a out (by omega), ht], by simp, fun x hx => ?_⟩
      obtain ⟨m, hm⟩ := List.mem_iff_getElem?.1 hx
      rw [List.getElem?_drop] at hm
      exact hz _ x (by omega) (List.getElem?_eq_some_iff.1 hm).1 hm
    | succ d ih =>
      intro k i out hb hi hk ha ht hz
      obtain ⟨k, rfl⟩ : ∃ j, k = j + 1 := ⟨k - 1, by omega⟩
      obtain ⟨z, z1, z2⟩ := hs9 k a i out (by omega) hb
      rw [z2]
      obtain ⟨fil, f1, f2, f3⟩ := ih k (i + 1) (out.set i z) (by simpa using hb) (by simp; omega) (by omega) (by omega) (by rw [List.take_set_of_le ha]; exact ht) (fun j x h1 h2 h3 => by
        by_cases hj : i = j
        · subst hj
          rw [List.getElem?_set_self (by omega)] at h3
          cases h3; exact z1
        · rw [List.getElem?_set_ne hj] at h3
          exact hz j x h1 (by omega) h3)
      exact ⟨fil, f1, by simpa using f2, f3⟩
  have k5 : ∀ (r p : List α) (s : List α) (k : Nat), p ++ r = a → p.length + s.length ≤ 140737488355328 → r.length ≤ s.length → r.length < k → (∀ x ∈ r, R x) →
      ∃ fil, l5 k a p.length (p ++ s) = some (a, fil) ∧ fil.length = p.length + s.length - a.length ∧ ∀ x ∈ fil, Z x := by
    intro r
    induction r with
    | nil =>
      intro p s k h3 h4 h5 hk _
      obtain ⟨k, rfl⟩ : ∃ j, k = j + 1 := ⟨k - 1, by omega⟩
      rw [List.append_nil] at h3
      subst h3
      rw [he5]
      obtain ⟨fil, f1, f2, f3⟩ := k9 s.length NN p.length (p ++ s) (by simp; omega) (by simp) (by omega) (by omega) (by rw [List.take_left' rfl]) (fun j x h1 h2 => by omega)
      exact ⟨fil, f1, by rw [f2]; simp, f3⟩
    | cons x r ih =>
      intro p s k h3 h4 h5 hk hR
      simp only [List.length_cons] at h5 hk
      obtain ⟨k, rfl⟩ : ∃ j, k = j + 1 := ⟨k - 1, by omega⟩
      cases s with
      | nil => simp at h5
      | cons y s =>
        have hs := hs5 k p r x p s y (hR x (by simp)) rfl (by simp only [List.length_cons] at h4 h5; omega) (by simp only [List.length_cons] at h4; omega)
        rw [h3] at hs
        rw [hs]
        obtain ⟨fil, f1, f2, f3⟩ := ih (p ++ [x]) s k (by rw [← h3]; simp) (by simp only [List.length_append, List.length_cons, List.length_nil] at h4 ⊢; omega) (by simp only [List.length_cons] at h5; omega) (by omega) (fun z hz => hR z (by simp [hz]))
        rw [mid_snoc, snoc_len] at f1
        exact ⟨fil, f1, by rw [f2]; simp only [List.length_append, List.length_cons, List.length_nil]; omega, f3⟩
  obtain ⟨fil, f1, f2, f3⟩ := k5 a [] out k rfl (by simpa using hb) h hk ha
  exact ⟨fil, by simpa using f1, by simpa using f2, f3⟩

/-- Rows that are marked, and looked at afterwards. -/
theorem mark_held {α : Type} {Q : α → Prop} (l : Nat → List α → Int → Int → Option (Int × List α)) (lh : Nat → List α → Int → Int → Option Int) (C : Nat) (K : Int)
    (he : ∀ k p n, l (k + 1) p n p.length = some (n, p)) (heh : ∀ k p n, lh (k + 1) p n p.length = some n)
    (hs : ∀ x, Q x → ∀ n, 0 ≤ n → n ≤ K → ∃ x' n', n ≤ n' ∧ n' ≤ n + C ∧ (∀ k p r, p.length + r.length + 1 ≤ 1000000 → l (k + 1) (p ++ x :: r) n p.length = l k (p ++ x' :: r) n' ((p.length : Int) + 1))
      ∧ (∀ k p r, p.length + r.length + 1 ≤ 1000000 → lh (k + 1) (p ++ x' :: r) n p.length = lh k (p ++ x' :: r) n' ((p.length : Int) + 1)))
    (a : List α) (ha : Lm Q a) (n : Int) (h0 : 0 ≤ n) (h1 : n + (1000000 * C : Nat) ≤ K) (k kh : Nat) (hk : 1000000 < k) (hkh : 1000000 < kh) :
    ∃ n' a', l k a n 0 = some (n', a') ∧ lh kh a' n 0 = some n' ∧ n ≤ n' ∧ n' ≤ n + (1000000 * C : Nat) := by
  have key : ∀ (r p : List α) (k : Nat) (n : Int), p.length + r.length ≤ 1000000 → (∀ x ∈ r, Q x) → 0 ≤ n → n + ((r.length * C : Nat) : Int) ≤ K → r.length < k →
      ∃ n' r', l k (p ++ r) n p.length = some (n', p ++ r') ∧ r'.length = r.length ∧ n ≤ n' ∧ n' ≤ n + ((r.length * C : Nat) : Int) ∧ (∀ (q : List α) kh, q.length = p.length → r.length < kh → lh kh (q ++ r') n q.length = some n') := by
    intro r
    induction r with
    | nil =>
      intro p k n _ _ h0 _ hk
      obtain ⟨k, rfl⟩ : ∃ j, k = j + 1 := ⟨k - 1, by omega⟩
      refine ⟨n, [], by rw [List.append_nil]; exact he k p n, rfl, by omega, by simp, fun q kh _ hkh => ?_⟩
      obtain ⟨kh, rfl⟩ : ∃ j, kh = j + 1 := ⟨kh - 1, by simp at hkh; omega⟩
      rw [List.append_nil]; exact heh kh q n
    | cons x r ih =>
      intro p k n hb hq h0 hK hk
      simp only [List.length_cons] at hk hb hK
      obtain ⟨k, rfl⟩ : ∃ j, k = j + 1 := ⟨k - 1, by omega⟩
      have hm : (r.length + 1) * C = r.length * C + C := by rw [Nat.add_mul, Nat.one_mul]
      rw [hm] at hK
      obtain ⟨x', n1, a1, a2, a3, a4⟩ := hs x (hq x (by simp)) n h0 (by omega)
      rw [a3 k p r (by omega)]
      obtain ⟨n', r', b1, b2, b3, b4, b5⟩ := ih (p ++ [x']) k n1 (by simp; omega) (fun y hy => hq y (by simp [hy])) (by omega) (by omega) (by omega)
      rw [mid_snoc, snoc_len] at b1
      refine ⟨n', x' :: r', by rw [b1]; simp, by simp [b2], by omega, by simp only [List.length_cons]; rw [hm]; omega, fun q kh hq' hkh => ?_⟩
      simp only [List.length_cons] at hkh
      obtain ⟨kh, rfl⟩ : ∃ j, kh = j + 1 := ⟨kh - 1, by omega⟩
      rw [a4 kh q r' (by omega)]
      have := b5 (q ++ [x']) kh (by simp [hq']) (by omega)
      rw [mid_snoc, snoc_len] at this
      exact this
  have hle : ((a.length * C : Nat) : Int) ≤ ((1000000 * C : Nat) : Int) := Int.ofNat_le.2 (Nat.mul_le_mul_right _ ha.1)
  obtain ⟨n', r', b1, b2, b3, b4, b5⟩ := key a [] k n (by simpa using ha.1) ha.2 h0 (by omega) (by have := ha.1; omega)
  have := b5 [] kh rfl (by have := ha.1; omega)
  exact ⟨n', r', by simpa using b1, by simpa using this, b3, by omega⟩
theorem mem_mid {α : Type} {a p r : List α} {x : α} (h : a = p ++ x :: r) : x ∈ a := by rw [h]; simp
end Go.Pl

/- Loops of a few sorts, and what they come to. -/
namespace Go.Pl
open Go.Ev
set_option linter.unusedVariables false

/-- false at the first element that fails -/
theorem all_loop {α : Type} {E : α → Prop} (P : α → Bool) (fin : List α → Option Bool) (l : Nat → List α → Int → Option Bool)
    (hn : ∀ k p, l (k + 1) p p.length = fin p)
    (hc : ∀ k p a r, E a → (0 : Int) ≤ (p.length : Int) → (p.length : Int) < ((p ++ a :: r).length : Int) → IntKind.i64.wrap ((p.length : Int) + 1) = (p.length : Int) + 1 → l (k + 1) (p ++ a :: r) p.length = if P a = true then l k (p ++ a :: r) ((p.length : Int) + 1) else some false)
    (xs : List α) (hE : ∀ x ∈ xs, E x) (hB : xs.length ≤ 140737488355328) (k : Nat) (hk : xs.length < k) : l k xs 0 = if xs.all P = true then fin xs else some false := by
  have key : ∀ (r p : List α) (k : Nat), p.length + r.length ≤ 140737488355328 → (∀ x ∈ r, E x) → r.length < k → l k (p ++ r) p.length = if r.all P = true then fin (p ++ r) else some false := by
    intro r
    induction r with
    | nil =>
      intro p k _ _ hk
      obtain ⟨k, rfl⟩ : ∃ j, k = j + 1 := ⟨k - 1, by omega⟩
      rw [List.append_nil, hn]; simp
    | cons a r ih =>
      intro p k hb he hk
      simp only [List.length_cons] at hk hb
      obtain ⟨k, rfl⟩ : ∃ j, k = j + 1 := ⟨k - 1, by omega⟩
      have hm := mid_len p r a
      rw [hc k p a r (he a (by simp)) (by omega) (by omega) (w64 (by omega) (by omega))]
      have := ih (p ++ [a]) k (by simp; omega) (fun y hy => he y (by simp [hy])) (by omega)
      rw [mid_snoc, snoc_len] at this
      rw [this]
      cases h : P a <;> simp [h]
  have := key xs [] k (by simpa using hB) hE hk
  simpa using this
/-- the same over a string's bytes -/
theorem all_loop_str (P : UInt8 → Bool) (fin : ByteArray → Option Bool) (l : Nat → ByteArray → Int → Option Bool)
    (hn : ∀ k p, l (k + 1) (ob p) p.length = fin (ob p))
    (hc : ∀ k p a r, (0 : Int) ≤ (p.length : Int) → (p.length : Int) < ((ob (p ++ a :: r)).size : Int) → IntKind.i64.wrap ((p.length : Int) + 1) = (p.length : Int) + 1 → l (k + 1) (ob (p ++ a :: r)) p.length = if P a = true then l k (ob (p ++ a :: r)) ((p.length : Int) + 1) else some false)
    (s : ByteArray) (hB : s.size ≤ 140737488355328) (k : Nat) (hk : s.size < k) : l k s 0 = if (bl s).all P = true then fin s else some false := by
  have := all_loop (E := fun _ => True) P (fun x => fin (ob x)) (fun k x i => l k (ob x) i) hn (fun k p a r _ h1 h2 h3 => hc k p a r h1 (by rw [ob_size]; exact h2) h3) (bl s) (fun _ _ => trivial) (by rw [bl_length]; exact hB) k (by rw [bl_length]; exact hk)
  rw [ob_bl] at this
  exact this

def foldi {α σ : Type} (f : Nat → σ → α → σ) : Nat → σ → List α → σ
  | _, st, [] => st
  | i, st, a :: r => foldi f (i + 1) (f i st a) r
theorem foldi_foldl {α σ : Type} (f : σ → α → σ) : ∀ (xs : List α) (i : Nat) (st : σ), foldi (fun _ => f) i st xs = xs.foldl f st := by
  intro xs
  induction xs with
  | nil => intro i st; rfl
  | cons a r ih => intro i st; exact ih _ _
theorem foldi_append {α σ : Type} (f : Nat → σ → α → σ) : ∀ (xs ys : List α) (i : Nat) (st : σ), foldi f i st (xs ++ ys) = foldi f (i + xs.length) (foldi f i st xs) ys := by
  intro xs
  induction xs with
  | nil => intro ys i st; rfl
  | cons a r ih => intro ys i st; simp only [List.cons_append, foldi, List.length_cons]; rw [ih, show i + 1 + r.length = i + (r.length + 1) by omega]
/-- a state that goes from element to element; I: what holds of it behind a part of the row -/
theorem fold_loop {α σ ρ : Type} {E : α → Prop} (I : List α → σ → Prop) (f : Nat → σ → α → σ) (fin : List α → σ → Option ρ) (l : Nat → List α → Int → σ → Option ρ)
    (hn : ∀ k p st, I p st → l (k + 1) p p.length st = fin p st)
    (hc : ∀ k p a r st, E a → I p st → (0 : Int) ≤ (p.length : Int) → (p.length : Int) < ((p ++ a :: r).length : Int) → p.length < 140737488355328 → IntKind.i64.wrap ((p.length : Int) + 1) = (p.length : Int) + 1 →
      I (p ++ [a]) (f p.length st a) ∧ l (k + 1) (p ++ a :: r) p.length st = l k (p ++ a :: r) ((p.length : Int) + 1) (f p.length st a))
    (xs : List α) (st : σ) (hE : ∀ x ∈ xs, E x) (hI : I [] st) (hB : xs.length ≤ 140737488355328) (k : Nat) (hk : xs.length < k) :
    I xs (foldi f 0 st xs) ∧ l k xs 0 st = fin xs (foldi f 0 st xs) := by
  have key : ∀ (r p : List α) (k : Nat) (st : σ), p.length + r.length ≤ 140737488355328 → (∀ x ∈ r, E x) → I p st → r.length < k → I (p ++ r) (foldi f p.length st r) ∧ l k (p ++ r) p.length st = fin (p ++ r) (foldi f p.length st r) := by
    intro r
    induction r with
    | nil =>
      intro p k st _ _ hI hk
      obtain ⟨k, rfl⟩ : ∃ j, k = j + 1 := ⟨k - 1, by omega⟩
      rw [List.append_nil]; exact ⟨hI, hn k p st hI⟩
    | cons a r ih =>
      intro p k st hb he hI hk
      simp only [List.length_cons] at hk hb
      obtain ⟨k, rfl⟩ : ∃ j, k = j + 1 := ⟨k - 1, by omega⟩
      have hm := mid_len p r a
      obtain ⟨h1, h2⟩ := hc k p a r st (he a (by simp)) hI (by omega) (by omega) (by omega) (w64 (by omega) (by omega))
      have := ih (p ++ [a]) k (f p.length st a) (by simp; omega) (fun y hy => he y (by simp [hy])) h1 (by omega)
      rw [mid_snoc, snoc_len] at this
      rw [h2]
      simpa [foldi] using this
  have := key xs [] k st (by simpa using hB) hE hI hk
  simpa using this
/-- the same over a string's bytes -/
theorem fold_loop_str {σ ρ : Type} (I : List UInt8 → σ → Prop) (f : Nat → σ → UInt8 → σ) (fin : ByteArray → σ → Option ρ) (l : Nat → ByteArray → Int → σ → Option ρ)
    (hn : ∀ k p st, I p st → l (k + 1) (ob p) p.length st = fin (ob p) st)
    (hc : ∀ k p a r st, I p st → (0 : Int) ≤ (p.length : Int) → (p.length : Int) < ((ob (p ++ a :: r)).size : Int) → p.length < 140737488355328 → IntKind.i64.wrap ((p.length : Int) + 1) = (p.length : Int) + 1 →
      I (p ++ [a]) (f p.length st a) ∧ l (k + 1) (ob (p ++ a :: r)) p.length st = l k (ob (p ++ a :: r)) ((p.length : Int) + 1) (f p.length st a))
    (s : ByteArray) (st : σ) (hI : I [] st) (hB : s.size ≤ 140737488355328) (k : Nat) (hk : s.size < k) :
    I (bl s) (foldi f 0 st (bl s)) ∧ l k s 0 st = fin s (foldi f 0 st (bl s)) := by
  have := fold_loop (E := fun _ => True) I f (fun x => fin (ob x)) (fun k x i st => l k (ob x) i st) hn (fun k p a r st _ hI h1 h2 h3 h4 => hc k p a r st hI h1 (by rw [ob_size]; exact h2) h3 h4) (bl s) st (fun _ _ => trivial) hI (by rw [bl_length]; exact hB) k (by rw [bl_length]; exact hk)
  rw [ob_bl] at this
  exact this
/-- fold_loop, of one row: the rounds may look at it as a whole -/
theorem fold_fix {α σ ρ : Type} {E : α → Prop} (I : List α → σ → Prop) (f : Nat → σ → α → σ) (fin : σ → Option ρ) (l : Nat → Int → σ → Option ρ) (xs : List α)
    (hn : ∀ k st, I xs st → l (k + 1) xs.length st = fin st)
    (hc : ∀ k p a r st, xs = p ++ a :: r → E a → I p st → (0 : Int) ≤ (p.length : Int) → (p.length : Int) < (xs.length : Int) → p.length < 140737488355328 → IntKind.i64.wrap ((p.length : Int) + 1) = (p.length : Int) + 1 → (∀ z, xs.getD p.length z = a) →
      I (p ++ [a]) (f p.length st a) ∧ l (k + 1) p.length st = l k ((p.length : Int) + 1) (f p.length st a))
    (st : σ) (hE : ∀ x ∈ xs, E x) (hI : I [] st) (hB : xs.length ≤ 140737488355328) (k : Nat) (hk : xs.length < k) :
    I xs (foldi f 0 st xs) ∧ l k 0 st = fin (foldi f 0 st xs) := by
  have key : ∀ (r p : List α) (k : Nat) (st : σ), xs = p ++ r → (∀ x ∈ r, E x) → I p st → r.length < k → I xs (foldi f p.length st r) ∧ l k p.length st = fin (foldi f p.length st r) := by
    intro r
    induction r with
    | nil =>
      intro p k st hx _ hI hk
      obtain ⟨k, rfl⟩ : ∃ j, k = j + 1 := ⟨k - 1, by omega⟩
      rw [List.append_nil] at hx
      subst hx; exact ⟨hI, hn k st hI⟩
    | cons a r ih =>
      intro p k st hx he hI hk
      simp only [List.length_cons] at hk
      obtain ⟨k, rfl⟩ : ∃ j, k = j + 1 := ⟨k - 1, by omega⟩
      have hm := mid_len p r a
      have hxl : (xs.length : Int) = ((p ++ a :: r).length : Int) := by rw [hx]
      obtain ⟨h1, h2⟩ := hc k p a r st hx (he a (by simp)) hI (by omega) (by omega) (by omega) (w64 (by omega) (by omega)) (fun z => by rw [hx, mid_getn])
      have := ih (p ++ [a]) k (f p.length st a) (by rw [hx]; simp) (fun y hy => he y (by simp [hy])) h1 (by omega)
      rw [snoc_len] at this
      rw [h2]
      simpa [foldi] using this
  have := key xs [] k st (by simp) hE hI hk
  simpa using this
/-- the first element that is looked for, and its number -/
def firstOf {α : Type} (P : α → Bool) : Nat → List α → Option (Nat × α)
  | _, [] => none
  | i, a :: r => if P a = true then some (i, a) else firstOf P (i + 1) r
theorem find_loop {α ρ : Type} {E : α → Prop} (P : α → Bool) (hit : Nat → α → Option ρ) (fin : List α → Option ρ) (l : Nat → List α → Int → Option ρ)
    (hn : ∀ k p, l (k + 1) p p.length = fin p)
    (hc : ∀ k p a r, E a → (0 : Int) ≤ (p.length : Int) → (p.length : Int) < ((p ++ a :: r).length : Int) → p.length < 140737488355328 → IntKind.i64.wrap ((p.length : Int) + 1) = (p.length : Int) + 1 → l (k + 1) (p ++ a :: r) p.length = if P a = true then hit p.length a else l k (p ++ a :: r) ((p.length : Int) + 1))
    (xs : List α) (hE : ∀ x ∈ xs, E x) (hB : xs.length ≤ 140737488355328) (k : Nat) (hk : xs.length < k) : l k xs 0 = (firstOf P 0 xs).elim (fin xs) (fun x => hit x.1 x.2) := by
  have key : ∀ (r p : List α) (k : Nat), p.length + r.length ≤ 140737488355328 → (∀ x ∈ r, E x) → r.length < k → l k (p ++ r) p.length = (firstOf P p.length r).elim (fin (p ++ r)) (fun x => hit x.1 x.2) := by
    intro r
    induction r with
    | nil =>
      intro p k _ _ hk
      obtain ⟨k, rfl⟩ : ∃ j, k = j + 1 := ⟨k - 1, by omega⟩
      rw [List.append_nil, hn]; rfl
    | cons a r ih =>
      intro p k hb he hk
      simp only [List.length_cons] at hk hb
      obtain ⟨k, rfl⟩ : ∃ j, k = j + 1 := ⟨k - 1, by omega⟩
      have hm := mid_len p r a
      rw [hc k p a r (he a (by simp)) (by omega) (by omega) (by omega) (w64 (by omega) (by omega))]
      have := ih (p ++ [a]) k (by simp; omega) (fun y hy => he y (by simp [hy])) (by omega)
      rw [mid_snoc, snoc_len] at this
      rw [this]
      cases h : P a <;> simp [h, firstOf]
  have := key xs [] k (by simpa using hB) hE hk
  simpa using this
end Go.Pl

namespace Go.Pl
open Go.Ev
set_option linter.unusedVariables false
set_option linter.unusedSimpArgs false
def PlRatio (x : Int × Int) : Prop := Rg .i64 x.1 ∧ Rg .i64 x.2
def OkRatio (x : Int × Int) : Prop := Rg .i64 x.1 ∧ Rg .i64 x.2
def PlArticle (x : ByteArray × Int × Int × Int × Int × Int × Int × Int × Int) : Prop := Sz x.1 ∧ Rg .i64 x.2.1 ∧ Rg .i64 x.2.2.1 ∧ Rg .i64 x.2.2.2.1 ∧ Rg .i64 x.2.2.2.2.1 ∧ Rg .i64 x.2.2.2.2.2.1 ∧ Rg .i64 x.2.2.2.2.2.2.1 ∧ Rg .i64 x.2.2.2.2.2.2.2.1 ∧ Rg .i64 x.2.2.2.2.2.2.2.2
def OkArticle (x : ByteArray × Int × Int × Int × Int × Int × Int × Int × Int) : Prop := Sm x.1 ∧ Rg .i64 x.2.1 ∧ Rg .i64 x.2.2.1 ∧ Rg .i64 x.2.2.2.1 ∧ Rg .i64 x.2.2.2.2.1 ∧ Rg .i64 x.2.2.2.2.2.1 ∧ Rg .i64 x.2.2.2.2.2.2.1 ∧ Rg .i64 x.2.2.2.2.2.2.2.1 ∧ Rg .i64 x.2.2.2.2.2.2.2.2
def PlLayer (x : Int × Int × Int) : Prop := Rg .i64 x.1 ∧ Rg .i64 x.2.1 ∧ Rg .i64 x.2.2
def OkLayer (x : Int × Int × Int) : Prop := Rg .i64 x.1 ∧ Rg .i64 x.2.1 ∧ Rg .i64 x.2.2
def PlShot (x : Int × Int × Int × Int) : Prop := Rg .i64 x.1 ∧ Rg .i64 x.2.1 ∧ Rg .i64 x.2.2.1 ∧ Rg .i64 x.2.2.2
def OkShot (x : Int × Int × Int × Int) : Prop := Rg .i64 x.1 ∧ Rg .i64 x.2.1 ∧ Rg .i64 x.2.2.1 ∧ Rg .i64 x.2.2.2
def PlBar (x : Int × Int) : Prop := Rg .i64 x.1 ∧ Rg .i64 x.2
def OkBar (x : Int × Int) : Prop := Rg .i64 x.1 ∧ Rg .i64 x.2
def PlCue (x : Int × Int × ByteArray × Int) : Prop := Rg .i64 x.1 ∧ Rg .i64 x.2.1 ∧ Sz x.2.2.1 ∧ Rg .i64 x.2.2.2
def OkCue (x : Int × Int × ByteArray × Int) : Prop := Rg .i64 x.1 ∧ Rg .i64 x.2.1 ∧ Sm x.2.2.1 ∧ Rg .i64 x.2.2.2
def PlShow (x : (List (Int × Int)) × (List (ByteArray × Int × Int × Int × Int × Int × Int × Int × Int)) × (List (Int × Int × ByteArray × Int))) : Prop := Ls PlBar x.1 ∧ Ls PlArticle x.2.1 ∧ Ls PlCue x.2.2
def OkShow (x : (List (Int × Int)) × (List (ByteArray × Int × Int × Int × Int × Int × Int × Int × Int)) × (List (Int × Int × ByteArray × Int))) : Prop := Lm OkBar x.1 ∧ Lm OkArticle x.2.1 ∧ Lm OkCue x.2.2
def PlFuse (x : Int × Int × Int × Int) : Prop := Rg .i64 x.1 ∧ Rg .i64 x.2.1 ∧ Rg .i64 x.2.2.1 ∧ Rg .i64 x.2.2.2
def OkFuse (x : Int × Int × Int × Int) : Prop := Rg .i64 x.1 ∧ Rg .i64 x.2.1 ∧ Rg .i64 x.2.2.1 ∧ Rg .i64 x.2.2.2
def PlLink (x : Int × Int) : Prop := Rg .i64 x.1 ∧ Rg .i64 x.2
def OkLink (x : Int × Int) : Prop := Rg .i64 x.1 ∧ Rg .i64 x.2
def PlModule (x : Int × Int) : Prop := Rg .i64 x.1 ∧ Rg .i64 x.2
def OkModule (x : Int × Int) : Prop := Rg .i64 x.1 ∧ Rg .i64 x.2
def PlWire (x : Int × Int × Int) : Prop := Rg .i64 x.1 ∧ Rg .i64 x.2.1 ∧ Rg .i64 x.2.2
def OkWire (x : Int × Int × Int) : Prop := Rg .i64 x.1 ∧ Rg .i64 x.2.1 ∧ Rg .i64 x.2.2
def PlCircuit (x : Int × List Int) : Prop := Rg .i64 x.1 ∧ Ls (Rg .i64) x.2
def OkCircuit (x : Int × List Int) : Prop := Rg .i64 x.1 ∧ Lm (Rg .i64) x.2
def PlArea (x : Int × Int × Int × Int × Int) : Prop := Rg .i64 x.1 ∧ Rg .i64 x.2.1 ∧ Rg .i64 x.2.2.1 ∧ Rg .i64 x.2.2.2.1 ∧ Rg .i64 x.2.2.2.2
def OkArea (x : Int × Int × Int × Int × Int) : Prop := Rg .i64 x.1 ∧ Rg .i64 x.2.1 ∧ Rg .i64 x.2.2.1 ∧ Rg .i64 x.2.2.2.1 ∧ Rg .i64 x.2.2.2.2
def PlDemand (x : Int × Int × Int) : Prop := Rg .i64 x.1 ∧ Rg .i64 x.2.1 ∧ Rg .i64 x.2.2
def OkDemand (x : Int × Int × Int) : Prop := Rg .i64 x.1 ∧ Rg .i64 x.2.1 ∧ Rg .i64 x.2.2
def PlRack (x : Int × Int × List Int × List ByteArray) : Prop := Rg .i64 x.1 ∧ Rg .i64 x.2.1 ∧ Ls (Rg .i64) x.2.2.1 ∧ Ls Sz x.2.2.2
def OkRack (x : Int × Int × List Int × List ByteArray) : Prop := Rg .i64 x.1 ∧ Rg .i64 x.2.1 ∧ Lm (Rg .i64) x.2.2.1 ∧ Lm Sm x.2.2.2
def PlField (x : (List (Int × Int × Int)) × (List (Int × Int × Int × Int × Int)) × List Int × List Int × List Int × Int) : Prop := Ls PlDemand x.1 ∧ Ls PlArea x.2.1 ∧ Ls (Rg .i64) x.2.2.1 ∧ Ls (Rg .i64) x.2.2.2.1 ∧ Ls (Rg .i64) x.2.2.2.2.1 ∧ Rg .i64 x.2.2.2.2.2
def OkField (x : (List (Int × Int × Int)) × (List (Int × Int × Int × Int × Int)) × List Int × List Int × List Int × Int) : Prop := Lm OkDemand x.1 ∧ Lm OkArea x.2.1 ∧ Lm (Rg .i64) x.2.2.1 ∧ Lm (Rg .i64) x.2.2.2.1 ∧ Lm (Rg .i64) x.2.2.2.2.1 ∧ Rg .i64 x.2.2.2.2.2
def PlMove (x : Int × ByteArray × Int) : Prop := Rg .i64 x.1 ∧ Sz x.2.1 ∧ Rg .i64 x.2.2
def OkMove (x : Int × ByteArray × Int) : Prop := Rg .i64 x.1 ∧ Sm x.2.1 ∧ Rg .i64 x.2.2
def PlController (x : Bool × Bool × Bool × Bool × Bool × Int) : Prop := True ∧ True ∧ True ∧ True ∧ True ∧ Rg .i64 x.2.2.2.2.2
def OkController (x : Bool × Bool × Bool × Bool × Bool × Int) : Prop := True ∧ True ∧ True ∧ True ∧ True ∧ Rg .i64 x.2.2.2.2.2
def PlSignal (x : Int × Int) : Prop := Rg .i64 x.1 ∧ Rg .i64 x.2
def OkSignal (x : Int × Int) : Prop := Rg .i64 x.1 ∧ Rg .i64 x.2
def PlTry (x : Int × Int × Bool) : Prop := Rg .i64 x.1 ∧ Rg .i64 x.2.1 ∧ True
def OkTry (x : Int × Int × Bool) : Prop := Rg .i64 x.1 ∧ Rg .i64 x.2.1 ∧ True
def PlMagazine (x : Int × List Int) : Prop := Rg .i64 x.1 ∧ Ls (Rg .i64) x.2
def OkMagazine (x : Int × List Int) : Prop := Rg .i64 x.1 ∧ Lm (Rg .i64) x.2
def PlDepot (x : Int × Int × Int) : Prop := Rg .i64 x.1 ∧ Rg .i64 x.2.1 ∧ Rg .i64 x.2.2
def OkDepot (x : Int × Int × Int) : Prop := Rg .i64 x.1 ∧ Rg .i64 x.2.1 ∧ Rg .i64 x.2.2
def PlBox (x : Int × Int) : Prop := Rg .i64 x.1 ∧ Rg .i64 x.2
def OkBox (x : Int × Int) : Prop := Rg .i64 x.1 ∧ Rg .i64 x.2
def PlLine (x : ByteArray × Int) : Prop := Sz x.1 ∧ Rg .i64 x.2
def OkLine (x : ByteArray × Int) : Prop := Sm x.1 ∧ Rg .i64 x.2
def PlPaper (x : ByteArray × Int × (List (ByteArray × Int))) : Prop := Sz x.1 ∧ Rg .i64 x.2.1 ∧ Ls PlLine x.2.2
def OkPaper (x : ByteArray × Int × (List (ByteArray × Int))) : Prop := Sm x.1 ∧ Rg .i64 x.2.1 ∧ Lm OkLine x.2.2
def PlPermit (x : Int × Int × Int × Int × List Int × Int) : Prop := Rg .i64 x.1 ∧ Rg .i64 x.2.1 ∧ Rg .i64 x.2.2.1 ∧ Rg .i64 x.2.2.2.1 ∧ Ls (Rg .i64) x.2.2.2.2.1 ∧ Rg .i64 x.2.2.2.2.2
def OkPermit (x : Int × Int × Int × Int × List Int × Int) : Prop := Rg .i64 x.1 ∧ Rg .i64 x.2.1 ∧ Rg .i64 x.2.2.1 ∧ Rg .i64 x.2.2.2.1 ∧ Lm (Rg .i64) x.2.2.2.2.1 ∧ Rg .i64 x.2.2.2.2.2
def PlGrid (x : Int × Int × List Bool) : Prop := Rg .i64 x.1 ∧ Rg .i64 x.2.1 ∧ Ls (fun _ => True) x.2.2
def OkGrid (x : Int × Int × List Bool) : Prop := Rg .i64 x.1 ∧ Rg .i64 x.2.1 ∧ Lm (fun _ => True) x.2.2
def PlBooking (x : Int × ByteArray × Int) : Prop := Rg .i64 x.1 ∧ Sz x.2.1 ∧ Rg .i64 x.2.2
def OkBooking (x : Int × ByteArray × Int) : Prop := Rg .i64 x.1 ∧ Sm x.2.1 ∧ Rg .i64 x.2.2
def PlEntry (x : Int × ByteArray) : Prop := Rg .u8 x.1 ∧ Sz x.2
def OkEntry (x : Int × ByteArray) : Prop := Rg .u8 x.1 ∧ Sm x.2
def PlDesk (x : (List (Int × ByteArray × Int)) × (List (Int × Int)) × (List (Int × ByteArray × Int))) : Prop := Ls PlMove x.1 ∧ Ls PlSignal x.2.1 ∧ Ls PlBooking x.2.2
def OkDesk (x : (List (Int × ByteArray × Int)) × (List (Int × Int)) × (List (Int × ByteArray × Int))) : Prop := Lm OkMove x.1 ∧ Lm OkSignal x.2.1 ∧ Lm OkBooking x.2.2
end Go.Pl

namespace Go.Pl
open Go.Ev
set_option linter.unusedVariables false
noncomputable section
def spec_AreEntries.top (list0 : List (Int × ByteArray)) : Option Bool :=
  (spec_l33All.f list0).bind fun r1 =>
  if r1 = true then
    some (decide (((list0.length : Int) : Int) ≤ 20))
  else
    some false
def spec_AreEntries.fn (n : Nat) (list0 : List (Int × ByteArray)) : Option Bool := spec_AreEntries.top list0
def spec_AreEntries.f (list0 : List (Int × ByteArray)) : Option Bool := spec_AreEntries.fn NN list0
end
end Go.Pl

namespace Go.Pl
open Go.Ev
set_option linter.unusedVariables false
set_option linter.unusedSimpArgs false
def entC (c : UInt8) : Bool := !(decide ((c.toNat : Int) < 32)) && !(decide (126 < (c.toNat : Int)))
def entB (e : Int × ByteArray) : Bool := decide (97 ≤ e.1) && decide (e.1 ≤ 122) && decide (e.2.size ≤ 40) && (bl e.2).all entC
theorem impl_isEntry_loop (c : Int) (s : ByteArray) (h : s.size ≤ 140737488355328) : impl_isEntry.l4 NN NN 0 (c, s) = if (bl s).all entC = true then some true else some false := by
  refine all_loop_str entC (fun s => some true) (fun k s i => impl_isEntry.l4 NN k i (c, s)) ?_ ?_ s h NN (NN_lt (by omega))
  · intro k p
    show impl_isEntry.g4 _ p.length (c, ob p) = _
    by_cases h1 : (97 : Int) ≤ c <;> by_cases h2 : c ≤ 122 <;> simp [impl_isEntry.g4, ob_size, h1, h2] <;> omega
  · intro k p a r c0 c1 cw
    show impl_isEntry.g4 (impl_isEntry.l4 NN k) p.length (c, ob (p ++ a :: r)) = _
    simp only [impl_isEntry.g4, c0, c1, cw, and_self, and_true, true_and, decide_true, decide_false, if_true, if_false, mid_get, mid_set, mid_getn, mid_setn, bt_mid, Option.bind_some, Bool.not_true, Bool.not_false, Bool.false_eq_true, Bool.true_eq_false, beq_self_eq_true, bne_self_eq_false, Int.toNat_natCast]
    unfold entC
    by_cases h1 : (a.toNat : Int) < 32 <;> by_cases h2 : (126 : Int) < (a.toNat : Int) <;> simp [h1, h2]
theorem spec_l33Is_loop (c : Int) (s : ByteArray) (h : s.size ≤ 140737488355328) : spec_l33Is.l2 NN NN 0 (c, s) = if (bl s).all entC = true then some (decide (97 ≤ c) && decide (c ≤ 122) && decide (s.size ≤ 40)) else some false := by
  refine all_loop_str entC (fun s => some (decide (97 ≤ c) && decide (c ≤ 122) && decide (s.size ≤ 40))) (fun k s i => spec_l33Is.l2 NN k i (c, s)) ?_ ?_ s h NN (NN_lt (by omega))
  · intro k p
    show spec_l33Is.g2 _ p.length (c, ob p) = _
    by_cases h1 : (97 : Int) ≤ c <;> by_cases h2 : c ≤ 122 <;> simp [spec_l33Is.g2, ob_size, h1, h2] <;> omega
  · intro k p a r c0 c1 cw
    show spec_l33Is.g2 (spec_l33Is.l2 NN k) p.length (c, ob (p ++ a :: r)) = _
    simp only [spec_l33Is.g2, c0, c1, cw, and_self, and_true, true_and, decide_true, decide_false, if_true, if_false, mid_get, mid_set, mid_getn, mid_setn, bt_mid, Option.bind_some, Bool.not_true, Bool.not_false, Bool.false_eq_true, Bool.true_eq_false, beq_self_eq_true, bne_self_eq_false, Int.toNat_natCast]
    unfold entC
    by_cases h1 : (a.toNat : Int) < 32 <;> by_cases h2 : (126 : Int) < (a.toNat : Int) <;> simp [h1, h2]
theorem impl_isEntry_f (e : Int × ByteArray) (h : e.2.size ≤ 140737488355328) : impl_isEntry.f e = some (entB e) := by
  obtain ⟨c, s⟩ := e
  unfold impl_isEntry.f impl_isEntry.fn impl_isEntry.top
  simp only
  rw [impl_isEntry_loop c s h]
  unfold entB
  by_cases h1 : c < 97
  · have : ¬ 97 ≤ c := by omega
    simp [h1, this]
  · have e1 : 97 ≤ c := by omega
    by_cases h2 : 122 < c
    · have : ¬ c ≤ 122 := by omega
      simp [h1, h2, this]
    · have e2 : c ≤ 122 := by omega
      by_cases h3 : (40 : Int) < s.size
      · have : ¬ s.size ≤ 40 := by omega
        simp [h1, h2, h3, this]
      · have e3 : s.size ≤ 40 := by omega
        cases h4 : (bl s).all entC <;> simp [h1, h2, h3, e1, e2, e3, h4]
theorem spec_l33Is_f (e : Int × ByteArray) (h : e.2.size ≤ 140737488355328) : spec_l33Is.f e = some (entB e) := by
  obtain ⟨c, s⟩ := e
  unfold spec_l33Is.f spec_l33Is.fn spec_l33Is.top
  rw [spec_l33Is_loop c s h]
  unfold entB
  cases h4 : (bl s).all entC <;> simp
theorem impl_areEntries_f (xs : List (Int × ByteArray)) (h : Ls (fun e => Sz e.2) xs) : impl_areEntries.f xs = some (xs.all entB) := by
  have := all_loop (E := fun e : Int × ByteArray => Sz e.2) entB (fun _ => some true) (fun k xs i => impl_areEntries.l2 NN k xs xs.length i) ?_ ?_ xs h.2 h.1 NN (NN_lt (by have := h.1; omega))
  · unfold impl_areEntries.f impl_areEntries.fn impl_areEntries.top
    refine this.trans ?_
    cases h4 : xs.all entB <;> simp
  · intro k p
    simp [impl_areEntries.l2, impl_areEntries.g2]
  · intro k p a r ha c0 c1 cw
    simp only [impl_areEntries.l2, impl_areEntries.g2, c0, c1, cw, and_self, and_true, true_and, decide_true, decide_false, if_true, if_false, mid_get, mid_set, mid_getn, mid_setn, bt_mid, Option.bind_some, Bool.not_true, Bool.not_false, Bool.false_eq_true, Bool.true_eq_false, beq_self_eq_true, bne_self_eq_false, Int.toNat_natCast]
    rw [impl_isEntry_f a ha]
    cases entB a <;> simp
theorem spec_l33All_f (xs : List (Int × ByteArray)) (h : Ls (fun e => Sz e.2) xs) : spec_l33All.f xs = some (xs.all entB) := by
  have := all_loop (E := fun e : Int × ByteArray => Sz e.2) entB (fun _ => some true) (fun k xs i => spec_l33All.l2 NN k xs i) ?_ ?_ xs h.2 h.1 NN (NN_lt (by have := h.1; omega))
  · unfold spec_l33All.f spec_l33All.fn spec_l33All.top
    refine this.trans ?_
    cases h4 : xs.all entB <;> simp
  · intro k p
    simp [spec_l33All.l2, spec_l33All.g2]
  · intro k p a r ha c0 c1 cw
    simp only [spec_l33All.l2, spec_l33All.g2, c0, c1, cw, and_self, and_true, true_and, decide_true, decide_false, if_true, if_false, mid_get, mid_set, mid_getn, mid_setn, bt_mid, Option.bind_some, Bool.not_true, Bool.not_false, Bool.false_eq_true, Bool.true_eq_false, beq_self_eq_true, bne_self_eq_false, Int.toNat_natCast]
    rw [spec_l33Is_f a ha]
    cases entB a <;> simp
def entsB (xs : List (Int × ByteArray)) : Bool := decide (xs.length ≤ 20) && xs.all entB
theorem impl_AreEntries_f (xs : List (Int × ByteArray)) (h : Ls (fun e => Sz e.2) xs) : impl_AreEntries.f xs = some (entsB xs) := by
  unfold impl_AreEntries.f impl_AreEntries.fn impl_AreEntries.top entsB
  rw [impl_areEntries_f xs h]
  by_cases h1 : xs.length ≤ 20
  · have : (xs.length : Int) ≤ 20 := by omega
    simp [h1, this]
  · have : ¬ (xs.length : Int) ≤ 20 := by omega
    simp [h1, this]
theorem spec_AreEntries_f (xs : List (Int × ByteArray)) (h : Ls (fun e => Sz e.2) xs) : spec_AreEntries.f xs = some (entsB xs) := by
  unfold spec_AreEntries.f spec_AreEntries.fn spec_AreEntries.top entsB
  rw [spec_l33All_f xs h]
  by_cases h1 : xs.length ≤ 20
  · have : (xs.length : Int) ≤ 20 := by omega
    cases h4 : xs.all entB <;> simp [h1, this]
  · have : ¬ (xs.length : Int) ≤ 20 := by omega
    cases h4 : xs.all entB <;> simp [h1, this]
end Go.Pl

namespace Go.Pl
open Go.Ev
set_option linter.unusedVariables false
set_option linter.unusedSimpArgs false
def digs (n : Nat) : List UInt8 := if h : n < 10 then [UInt8.ofNat (48 + n)] else digs (n / 10) ++ [UInt8.ofNat (48 + n % 10)]
  termination_by n
  decreasing_by omega
theorem digs_small {n : Nat} (h : n < 10) : digs n = [UInt8.ofNat (48 + n)] := by rw [digs, dif_pos h]
theorem digs_big {n : Nat} (h : ¬ n < 10) : digs n = digs (n / 10) ++ [UInt8.ofNat (48 + n % 10)] := by rw [digs, dif_neg h]
theorem digs_len : ∀ (d n : Nat), n < 10 ^ (d + 1) → (digs n).length ≤ d + 1 ∧ 1 ≤ (digs n).length := by
  intro d
  induction d with
  | zero => intro n hn; rw [digs_small (by simpa using hn)]; simp
  | succ d ih =>
    intro n hn
    by_cases h : n < 10
    · rw [digs_small h]; simp
    · rw [digs_big h]
      have := ih (n / 10) (by rw [Nat.pow_succ] at hn; omega)
      simp; omega
def decB (n : Int) : ByteArray := ob (if n < 0 then 45 :: digs (-n).toNat else digs n.toNat)
theorem decB_nat (n : Nat) : decB (n : Int) = ob (digs n) := by unfold decB; rw [if_neg (by omega), Int.toNat_natCast]
theorem bytesOf_dig {x : Nat} (h : x < 10) : bytesOf [IntKind.u8.wrap (IntKind.i64.wrap (48 + (x : Int)))] = ob [UInt8.ofNat (48 + x)] := by
  rw [w64 (n := 48 + (x : Int)) (by omega) (by omega), w8 (by omega) (by omega), bytesOf_ob]
  simp only [List.map_cons, List.map_nil]
  rfl
theorem tmod10 (x : Nat) : Int.tmod (x : Int) 10 = ((x % 10 : Nat) : Int) := (Int.ofNat_tmod x 10).symm
theorem tdiv10 (x : Nat) : Int.tdiv (x : Int) 10 = ((x / 10 : Nat) : Int) := (Int.ofNat_tdiv x 10).symm
theorem p19 : (10 : Nat) ^ (18 + 1) = 10000000000000000000 := by decide
theorem impl_decimal_l (S : Int → Option ByteArray) : ∀ (d n : Nat), n < 10 ^ (d + 1) → n ≤ 1000000000000000000 → ∀ (acc : List UInt8) (k : Nat), acc.length + d ≤ 1000 → d < k → impl_decimal.l4 S NN k (n : Int) (ob acc) = some (ob (digs n ++ acc)) := by
  intro d
  induction d with
  | zero =>
    intro n hn _ acc k ha hk
    obtain ⟨k, rfl⟩ : ∃ j, k = j + 1 := ⟨k - 1, by omega⟩
    have hn' : n < 10 := by simpa using hn
    have e0 : (ob [UInt8.ofNat (48 + n % 10)]).size + (ob acc).size ≤ 9223372036854775807 := by rw [ob_size, ob_size]; simp; omega
    have ew := w64 (n := ((n / 10 : Nat) : Int)) (by omega) (by omega)
    have ez : (((n / 10 : Nat) : Int) == 0) = true := by rw [beq_iff_eq]; omega
    simp only [impl_decimal.l4, impl_decimal.g4, tdiv10, tmod10, bytesOf_dig (show n % 10 < 10 by omega), e0, ew, ez, if_true, ob_append]
    rw [digs_small hn', Nat.mod_eq_of_lt hn']
  | succ d ih =>
    intro n hn hm acc k ha hk
    obtain ⟨k, rfl⟩ : ∃ j, k = j + 1 := ⟨k - 1, by omega⟩
    have e0 : (ob [UInt8.ofNat (48 + n % 10)]).size + (ob acc).size ≤ 9223372036854775807 := by rw [ob_size, ob_size]; simp; omega
    have ew := w64 (n := ((n / 10 : Nat) : Int)) (by omega) (by omega)
    simp only [impl_decimal.l4, impl_decimal.g4, tdiv10, tmod10, bytesOf_dig (show n % 10 < 10 by omega), e0, ew, if_true, ob_append]
    by_cases h : n < 10
    · have ez : (((n / 10 : Nat) : Int) == 0) = true := by rw [beq_iff_eq]; omega
      rw [if_pos ez, digs_small h, Nat.mod_eq_of_lt h]
    · have ez : ¬ (((n / 10 : Nat) : Int) == 0) = true := by rw [beq_iff_eq]; omega
      have hn' : n / 10 < 10 ^ (d + 1) := by rw [Nat.pow_succ] at hn; omega
      rw [if_neg ez, ih (n / 10) hn' (by omega) _ k (by simp; omega) (by omega), digs_big h, List.append_assoc]
theorem impl_decimal_fn (S : Int → Option ByteArray) (m : Nat) (h : m ≤ 1000000000000000000) : impl_decimal.fn S NN m = some (decB m) := by
  unfold impl_decimal.fn impl_decimal.top
  have hl := impl_decimal_l S 18 m (by rw [p19]; omega) h [] NN (by simp) (NN_lt (by omega))
  rw [List.append_nil] at hl
  have hn : ¬ (m : Int) < 0 := by omega
  simp only [hn, decide_false, Bool.false_eq_true, if_false]
  rw [decB_nat]; exact hl
theorem NN_succ2 : ∃ j, NN = j + 1 + 1 := ⟨NN - 2, by have := NNb; omega⟩
theorem impl_decimal_f {n : Int} (h0 : -1000000000000000000 ≤ n) (h : n ≤ 1000000000000000000) : impl_decimal.f n = some (decB n) := by
  unfold impl_decimal.f
  obtain ⟨k, hk⟩ := NN_succ2
  rw [hk]
  show impl_decimal.fn (impl_decimal.rc (k + 1)) NN n = some (decB n)
  by_cases hn : 0 ≤ n
  · obtain ⟨m, rfl⟩ : ∃ m : Nat, n = m := ⟨n.toNat, by omega⟩
    exact impl_decimal_fn _ m (by omega)
  · obtain ⟨m, hm⟩ : ∃ m : Nat, -n = m := ⟨(-n).toNat, by omega⟩
    have hl := digs_len 18 m (by rw [p19]; omega)
    have hw : IntKind.i64.wrap (0 - n) = (m : Int) := by rw [w64 (by omega) (by omega)]; omega
    have hf := impl_decimal_fn (impl_decimal.rc k) m (by omega)
    have hlt : n < 0 := by omega
    show impl_decimal.top (impl_decimal.rc (k + 1)) (impl_decimal.l4 (impl_decimal.rc (k + 1)) NN NN) n = some (decB n)
    unfold impl_decimal.top
    simp only [hlt, decide_true, if_true, hw]
    rw [show impl_decimal.rc (k + 1) (m : Int) = impl_decimal.fn (impl_decimal.rc k) NN (m : Int) from rfl, hf]
    simp only [Option.bind_some]
    rw [decB_nat, if_pos (by rw [ob_size, show (⟨#[45]⟩ : ByteArray).size = 1 from rfl]; omega), show (⟨#[45]⟩ : ByteArray) = ob [45] from rfl, ob_append]
    unfold decB; rw [if_pos hlt, hm]; rfl
theorem spec_l01Dec_nat : ∀ (d n : Nat), d ≤ 20 → n < 10 ^ (d + 1) → n ≤ 1000000000000000000 → ∀ k, d < k → spec_l01Dec.rc k (n : Int) = some (ob (digs n)) := by
  intro d
  induction d with
  | zero =>
    intro n _ hn _ k hk
    obtain ⟨k, rfl⟩ : ∃ j, k = j + 1 := ⟨k - 1, by omega⟩
    have hn' : n < 10 := by simpa using hn
    have h1 : (n : Int) < 10 := by omega
    simp only [spec_l01Dec.rc, spec_l01Dec.fn, spec_l01Dec.top, h1, decide_true, if_true, bytesOf_dig hn', digs_small hn']
  | succ d ih =>
    intro n hd hn hm k hk
    obtain ⟨k, rfl⟩ : ∃ j, k = j + 1 := ⟨k - 1, by omega⟩
    by_cases h : n < 10
    · have h1 : (n : Int) < 10 := by omega
      simp only [spec_l01Dec.rc, spec_l01Dec.fn, spec_l01Dec.top, h1, decide_true, if_true, bytesOf_dig h, digs_small h]
    · have hn' : n / 10 < 10 ^ (d + 1) := by rw [Nat.pow_succ] at hn; omega
      have hl := digs_len d (n / 10) hn'
      have h1 : ¬ (n : Int) < 10 := by omega
      have ew := w64 (n := ((n / 10 : Nat) : Int)) (by omega) (by omega)
      have e0 : (ob (digs (n / 10))).size + (ob [UInt8.ofNat (48 + n % 10)]).size ≤ 9223372036854775807 := by rw [ob_size, ob_size]; simp; omega
      simp only [spec_l01Dec.rc, spec_l01Dec.fn, spec_l01Dec.top, h1, decide_false, Bool.false_eq_true, if_false, tdiv10, tmod10, ew, ih (n / 10) (by omega) hn' (by omega) k (by omega), Option.bind_some, bytesOf_dig (show n % 10 < 10 by omega), e0, if_true, ob_append, digs_big h]
theorem spec_l01Dec_f {n : Int} (h0 : 0 ≤ n) (h : n ≤ 1000000000000000000) : spec_l01Dec.f n = some (decB n) := by
  obtain ⟨m, rfl⟩ : ∃ m : Nat, n = m := ⟨n.toNat, by omega⟩
  rw [decB_nat]
  exact spec_l01Dec_nat 18 m (by omega) (by rw [p19]; omega) (by omega) NN (NN_lt (by omega))
theorem decB_size {n : Int} (h0 : -1000000000000000000 ≤ n) (h : n ≤ 1000000000000000000) : (decB n).size ≤ 20 := by
  have hl := digs_len 18 n.toNat (by rw [p19]; omega)
  have hl2 := digs_len 18 (-n).toNat (by rw [p19]; omega)
  unfold decB; rw [ob_size]; split
  · rw [List.length_cons]; omega
  · omega
end Go.Pl

namespace Go.Pl
open Go.Ev
set_option linter.unusedVariables false
set_option linter.unusedSimpArgs false
def ckL : Int → List UInt8 → Int
  | c, [] => c
  | c, b :: r => ckL ((c * 29 + (b.toNat : Int)) % 9973) r
theorem ckL_range : ∀ (l : List UInt8) (c : Int), 0 ≤ c → c ≤ 9972 → 0 ≤ ckL c l ∧ ckL c l ≤ 9972 := by
  intro l
  induction l with
  | nil => intro c h0 h1; exact ⟨h0, h1⟩
  | cons b r ih => intro c h0 h1; simp only [ckL]; exact ih _ (by omega) (by omega)
def ckE (c : Int) (e : Int × ByteArray) : Int := ckL ((c * 29 + e.1) % 9973) (bl e.2)
theorem ckE_range {c : Int} (e : Int × ByteArray) : 0 ≤ ckE c e ∧ ckE c e ≤ 9972 := ckL_range _ _ (by omega) (by omega)
theorem ck_step {c b : Int} (h0 : 0 ≤ c) (h1 : c ≤ 10000) (h2 : 0 ≤ b) (h3 : b ≤ 255) : Int.tmod (IntKind.i64.wrap ((IntKind.i64.wrap (c * 29)) + (IntKind.i64.wrap b))) 9973 = (c * 29 + b) % 9973 := by
  rw [w64 (n := c * 29) (by omega) (by omega), w64 (n := b) (by omega) (by omega), w64 (by omega) (by omega), Int.tmod_eq_emod_of_nonneg (by omega)]
def EnIn (e : Int × ByteArray) : Prop := 0 ≤ e.1 ∧ e.1 ≤ 255 ∧ e.2.size ≤ 1000000
theorem impl_nextCheck_l (kd : Int) : ∀ (r p : List UInt8) (c : Int) (k : Nat), p.length + r.length ≤ 1000000 → r.length < k → 0 ≤ c → c ≤ 10000 → impl_nextCheck.l3 NN k c p.length (kd, ob (p ++ r)) = some (ckL c r) := by
  intro r
  induction r with
  | nil =>
    intro p c k _ hk _ _
    obtain ⟨k, rfl⟩ : ∃ j, k = j + 1 := ⟨k - 1, by omega⟩
    simp [impl_nextCheck.l3, impl_nextCheck.g3, ob_size, ckL]
  | cons b r ih =>
    intro p c k hb hk h0 h1
    simp only [List.length_cons] at hb hk
    obtain ⟨k, rfl⟩ : ∃ j, k = j + 1 := ⟨k - 1, by omega⟩
    have hm := mid_len p r b
    have c0 : (0 : Int) ≤ (p.length : Int) := by omega
    have c1 : (p.length : Int) < ((ob (p ++ b :: r)).size : Int) := by rw [ob_size]; omega
    have cw := w64 (n := (p.length : Int) + 1) (by omega) (by omega)
    have hu := u8_lt b
    have := ih (p ++ [b]) ((c * 29 + (b.toNat : Int)) % 9973) k (by simp; omega) (by omega) (by omega) (by omega)
    rw [mid_snoc, snoc_len] at this
    simp only [impl_nextCheck.l3, impl_nextCheck.g3, c0, c1, cw, and_self, and_true, true_and, decide_true, decide_false, if_true, if_false, mid_get, mid_set, mid_getn, mid_setn, bt_mid, Option.bind_some, Bool.not_true, Bool.not_false, Bool.false_eq_true, Bool.true_eq_false, beq_self_eq_true, bne_self_eq_false, Int.toNat_natCast, ck_step h0 h1 (show (0 : Int) ≤ (b.toNat : Int) by omega) (show (b.toNat : Int) ≤ 255 by omega), this]
    rfl
theorem impl_nextCheck_f {c : Int} (e : Int × ByteArray) (he : EnIn e) (h0 : 0 ≤ c) (h1 : c ≤ 10000) : impl_nextCheck.f c e = some (ckE c e) := by
  obtain ⟨kd, t⟩ := e
  obtain ⟨h2, h3, h4⟩ := he
  simp only at h2 h3 h4
  unfold impl_nextCheck.f impl_nextCheck.fn impl_nextCheck.top ckE
  rw [ck_step h0 h1 h2 h3]
  have := impl_nextCheck_l kd (bl t) [] ((c * 29 + kd) % 9973) NN (by simp [bl_length]; exact h4) (by rw [bl_length]; exact NN_lt (by omega)) (by omega) (by omega)
  rw [List.nil_append, ob_bl] at this
  exact this
theorem spec_l33Check_l (kd : Int) : ∀ (r p : List UInt8) (c : Int) (k : Nat), p.length + r.length ≤ 1000000 → r.length < k → 0 ≤ c → c ≤ 10000 → spec_l33Check.l3 NN k c p.length (kd, ob (p ++ r)) = some (ckL c r) := by
  intro r
  induction r with
  | nil =>
    intro p c k _ hk _ _
    obtain ⟨k, rfl⟩ : ∃ j, k = j + 1 := ⟨k - 1, by omega⟩
    simp [spec_l33Check.l3, spec_l33Check.g3, ob_size, ckL]
  | cons b r ih =>
    intro p c k hb hk h0 h1
    simp only [List.length_cons] at hb hk
    obtain ⟨k, rfl⟩ : ∃ j, k = j + 1 := ⟨k - 1, by omega⟩
    have hm := mid_len p r b
    have c0 : (0 : Int) ≤ (p.length : Int) := by omega
    have c1 : (p.length : Int) < ((ob (p ++ b :: r)).size : Int) := by rw [ob_size]; omega
    have cw := w64 (n := (p.length : Int) + 1) (by omega) (by omega)
    have hu := u8_lt b
    have := ih (p ++ [b]) ((c * 29 + (b.toNat : Int)) % 9973) k (by simp; omega) (by omega) (by omega) (by omega)
    rw [mid_snoc, snoc_len] at this
    simp only [spec_l33Check.l3, spec_l33Check.g3, c0, c1, cw, and_self, and_true, true_and, decide_true, decide_false, if_true, if_false, mid_get, mid_set, mid_getn, mid_setn, bt_mid, Option.bind_some, Bool.not_true, Bool.not_false, Bool.false_eq_true, Bool.true_eq_false, beq_self_eq_true, bne_self_eq_false, Int.toNat_natCast, ck_step h0 h1 (show (0 : Int) ≤ (b.toNat : Int) by omega) (show (b.toNat : Int) ≤ 255 by omega), this]
    rfl
theorem spec_l33Check_f {c : Int} (e : Int × ByteArray) (he : EnIn e) (h0 : 0 ≤ c) (h1 : c ≤ 10000) : spec_l33Check.f c e = some (ckE c e) := by
  obtain ⟨kd, t⟩ := e
  obtain ⟨h2, h3, h4⟩ := he
  simp only at h2 h3 h4
  unfold spec_l33Check.f spec_l33Check.fn spec_l33Check.top ckE
  rw [ck_step h0 h1 h2 h3]
  have := spec_l33Check_l kd (bl t) [] ((c * 29 + kd) % 9973) NN (by simp [bl_length]; exact h4) (by rw [bl_length]; exact NN_lt (by omega)) (by omega) (by omega)
  rw [List.nil_append, ob_bl] at this
  exact this
def lnB (e : Int × ByteArray) (c : Int) : ByteArray := bytesOf [e.1] ++ ⟨#[32]⟩ ++ e.2 ++ ⟨#[32]⟩ ++ decB c ++ ⟨#[10]⟩
theorem bytesOf1_size (k : Int) : (bytesOf [k]).size = 1 := by rw [bytesOf_ob, ob_size]; rfl
theorem lit1_size (c : UInt8) : (⟨#[c]⟩ : ByteArray).size = 1 := rfl
theorem lnB_size (e : Int × ByteArray) {c : Int} (h0 : 0 ≤ c) (h1 : c ≤ 10000) : (lnB e c).size ≤ e.2.size + 24 := by
  have := @decB_size c (by omega) (by omega)
  unfold lnB
  simp only [ByteArray.size_append, bytesOf1_size, lit1_size]; omega
theorem impl_decimal_nn {n : Int} (h0 : 0 ≤ n) (h : n ≤ 1000000000000000000) : impl_decimal.f n = some (decB n) := impl_decimal_f (by omega) h
theorem impl_entryLine_f (e : Int × ByteArray) {c : Int} (ht : e.2.size ≤ 1000000) (h0 : 0 ≤ c) (h1 : c ≤ 10000) : impl_entryLine.f e c = some (lnB e c) := by
  have hd := @decB_size c (by omega) (by omega)
  have z1 : (bytesOf [e.1]).size + (⟨#[32]⟩ : ByteArray).size ≤ 9223372036854775807 := by rw [bytesOf1_size, lit1_size]; omega
  have z2 : (bytesOf [e.1] ++ (⟨#[32]⟩ : ByteArray)).size + e.2.size ≤ 9223372036854775807 := by simp only [ByteArray.size_append, bytesOf1_size, lit1_size]; omega
  have z3 : (bytesOf [e.1] ++ (⟨#[32]⟩ : ByteArray) ++ e.2).size + (⟨#[32]⟩ : ByteArray).size ≤ 9223372036854775807 := by simp only [ByteArray.size_append, bytesOf1_size, lit1_size]; omega
  have z4 : (bytesOf [e.1] ++ (⟨#[32]⟩ : ByteArray) ++ e.2 ++ (⟨#[32]⟩ : ByteArray)).size + (decB c).size ≤ 9223372036854775807 := by simp only [ByteArray.size_append, bytesOf1_size, lit1_size]; omega
  have z5 : (bytesOf [e.1] ++ (⟨#[32]⟩ : ByteArray) ++ e.2 ++ (⟨#[32]⟩ : ByteArray) ++ decB c).size + (⟨#[10]⟩ : ByteArray).size ≤ 9223372036854775807 := by simp only [ByteArray.size_append, bytesOf1_size, lit1_size]; omega
  unfold impl_entryLine.f impl_entryLine.fn impl_entryLine.top
  simp only [impl_decimal_nn h0 (show c ≤ 1000000000000000000 by omega), Option.bind_some, z1, z2, z3, z4, z5, if_true, agree_self]
  rfl
theorem spec_l33Line_f (e : Int × ByteArray) {c : Int} (ht : e.2.size ≤ 1000000) (h0 : 0 ≤ c) (h1 : c ≤ 10000) : spec_l33Line.f e c = some (lnB e c) := by
  have hd := @decB_size c (by omega) (by omega)
  have z1 : (bytesOf [e.1]).size + (⟨#[32]⟩ : ByteArray).size ≤ 9223372036854775807 := by rw [bytesOf1_size, lit1_size]; omega
  have z2 : (bytesOf [e.1] ++ (⟨#[32]⟩ : ByteArray)).size + e.2.size ≤ 9223372036854775807 := by simp only [ByteArray.size_append, bytesOf1_size, lit1_size]; omega
  have z3 : (bytesOf [e.1] ++ (⟨#[32]⟩ : ByteArray) ++ e.2).size + (⟨#[32]⟩ : ByteArray).size ≤ 9223372036854775807 := by simp only [ByteArray.size_append, bytesOf1_size, lit1_size]; omega
  have z4 : (bytesOf [e.1] ++ (⟨#[32]⟩ : ByteArray) ++ e.2 ++ (⟨#[32]⟩ : ByteArray)).size + (decB c).size ≤ 9223372036854775807 := by simp only [ByteArray.size_append, bytesOf1_size, lit1_size]; omega
  have z5 : (bytesOf [e.1] ++ (⟨#[32]⟩ : ByteArray) ++ e.2 ++ (⟨#[32]⟩ : ByteArray) ++ decB c).size + (⟨#[10]⟩ : ByteArray).size ≤ 9223372036854775807 := by simp only [ByteArray.size_append, bytesOf1_size, lit1_size]; omega
  unfold spec_l33Line.f spec_l33Line.fn spec_l33Line.top
  simp only [spec_l01Dec_f h0 (show c ≤ 1000000000000000000 by omega), Option.bind_some, z1, z2, z3, z4, z5, if_true, agree_self]
  rfl
/-- out and check -/
def jF (st : ByteArray × Int) (e : Int × ByteArray) : ByteArray × Int := (st.1 ++ lnB e (ckE st.2 e), ckE st.2 e)
def jText (l : List (Int × ByteArray)) : ByteArray := (l.foldl jF (⟨#[]⟩, 1)).1
theorem impl_journalOf_f (l : List (Int × ByteArray)) (hl : l.length ≤ 1000000) (hin : ∀ e ∈ l, EnIn e) : impl_journalOf.f l = some (jText l) ∧ (jText l).size ≤ 2000000 * l.length := by
  have := fold_fix (E := EnIn) (fun p st => st.1.size ≤ 2000000 * p.length ∧ 0 ≤ st.2 ∧ st.2 ≤ 10000) (fun _ => jF) (fun st => some st.1) (fun k i st => impl_journalOf.l3 NN k st.1 st.2 l l.length i) l ?_ ?_ (⟨#[]⟩, 1) hin ⟨by simp; rfl, by simp, by simp⟩ (by omega) NN (NN_lt (by omega))
  · rw [foldi_foldl] at this
    exact ⟨this.2, this.1.1⟩
  · intro k st _
    simp [impl_journalOf.l3, impl_journalOf.g3]
  · intro k p e r st hx he hI c0 c1 c2 cw g
    obtain ⟨h1, h2, h3⟩ := hI
    have hr := @ckE_range st.2 e
    have hs := @lnB_size e (ckE st.2 e) hr.1 (by omega)
    have h4 := he.2.2
    have hz : st.1.size + (lnB e (ckE st.2 e)).size ≤ 9223372036854775807 := by omega
    refine ⟨⟨?_, by simp only [jF]; omega, by simp only [jF]; omega⟩, ?_⟩
    · simp only [jF, ByteArray.size_append, List.length_append, List.length_singleton]; omega
    · simp only [impl_journalOf.l3, impl_journalOf.g3, c0, c1, cw, and_self, and_true, true_and, decide_true, decide_false, if_true, if_false, mid_get, mid_set, mid_getn, mid_setn, bt_mid, Option.bind_some, Bool.not_true, Bool.not_false, Bool.false_eq_true, Bool.true_eq_false, beq_self_eq_true, bne_self_eq_false, Int.toNat_natCast, g, impl_nextCheck_f e he h2 h3, @impl_entryLine_f e (ckE st.2 e) h4 hr.1 (by omega), hz]
      rfl
theorem spec_l33Write_f (l : List (Int × ByteArray)) (hl : l.length ≤ 1000000) (hin : ∀ e ∈ l, EnIn e) : spec_l33Write.f l = some (jText l) ∧ (jText l).size ≤ 2000000 * l.length := by
  have := fold_fix (E := EnIn) (fun p st => st.1.size ≤ 2000000 * p.length ∧ 0 ≤ st.2 ∧ st.2 ≤ 10000) (fun _ => jF) (fun st => some st.1) (fun k i st => spec_l33Write.l3 NN k l st.1 st.2 i) l ?_ ?_ (⟨#[]⟩, 1) hin ⟨by simp; rfl, by simp, by simp⟩ (by omega) NN (NN_lt (by omega))
  · rw [foldi_foldl] at this
    exact ⟨this.2, this.1.1⟩
  · intro k st _
    simp [spec_l33Write.l3, spec_l33Write.g3]
  · intro k p e r st hx he hI c0 c1 c2 cw g
    obtain ⟨h1, h2, h3⟩ := hI
    have hr := @ckE_range st.2 e
    have hs := @lnB_size e (ckE st.2 e) hr.1 (by omega)
    have h4 := he.2.2
    have hz : st.1.size + (lnB e (ckE st.2 e)).size ≤ 9223372036854775807 := by omega
    refine ⟨⟨?_, by simp only [jF]; omega, by simp only [jF]; omega⟩, ?_⟩
    · simp only [jF, ByteArray.size_append, List.length_append, List.length_singleton]; omega
    · simp only [spec_l33Write.l3, spec_l33Write.g3, c0, c1, cw, and_self, and_true, true_and, decide_true, decide_false, if_true, if_false, mid_get, mid_set, mid_getn, mid_setn, bt_mid, Option.bind_some, Bool.not_true, Bool.not_false, Bool.false_eq_true, Bool.true_eq_false, beq_self_eq_true, bne_self_eq_false, Int.toNat_natCast, g, spec_l33Check_f e he h2 h3, @spec_l33Line_f e (ckE st.2 e) h4 hr.1 (by omega), hz]
      rfl
theorem entB_in {e : Int × ByteArray} (h : entB e = true) : EnIn e := by
  unfold entB at h
  simp only [Bool.and_eq_true, decide_eq_true_eq] at h
  exact ⟨by omega, by omega, by omega⟩
end Go.Pl

namespace Go.Pl
open Go.Ev
set_option linter.unusedVariables false
set_option linter.unusedSimpArgs false
def lb : List UInt8 → Int → Int → Int
  | [], _, b => b
  | c :: r, i, b => lb r (i + 1) (if c = 32 then i else b)
def nlL : List UInt8 → Nat
  | [] => 0
  | c :: r => if c = 10 then 0 else nlL r + 1
theorem nlL_le (l : List UInt8) : nlL l ≤ l.length := by
  induction l with
  | nil => simp [nlL]
  | cons c r ih => simp only [nlL, List.length_cons]; split <;> omega
theorem lb_range : ∀ (l : List UInt8) (i b : Int), b < i → b ≤ lb l i b ∧ lb l i b < i + l.length := by
  intro l
  induction l with
  | nil => intro i b h; simp [lb]; omega
  | cons c r ih =>
    intro i b h
    simp only [lb, List.length_cons]
    by_cases hc : c = 32
    · rw [if_pos hc]; have := ih (i + 1) i (by omega); omega
    · rw [if_neg hc]; have := ih (i + 1) b (by omega); omega
theorem lb_two : ∀ (l : List UInt8) (i b b' : Int), b < i → b' < i → (lb l i b = lb l i b' ∧ i ≤ lb l i b) ∨ (lb l i b = b ∧ lb l i b' = b') := by
  intro l
  induction l with
  | nil => intro i b b' h h'; exact .inr ⟨rfl, rfl⟩
  | cons c r ih =>
    intro i b b' h h'
    simp only [lb]
    by_cases hc : c = 32
    · rw [if_pos hc, if_pos hc]; have := lb_range r (i + 1) i (by omega); exact .inl ⟨rfl, by omega⟩
    · rw [if_neg hc, if_neg hc]
      rcases ih (i + 1) b b' (by omega) (by omega) with ⟨h1, h2⟩ | h1
      · exact .inl ⟨h1, by omega⟩
      · exact .inr h1
theorem u8_ne10 {a : UInt8} (h : a ≠ 10) : ¬ ((a.toNat : Int) = 10) := fun e => h ((u8_eq (n := 10) (by omega)).mp (by omega))
theorem u8_ne32 {a : UInt8} (h : a ≠ 32) : ¬ ((a.toNat : Int) = 32) := fun e => h ((u8_eq (n := 32) (by omega)).mp (by omega))
def eol (s : ByteArray) : Nat := nlL (bl s)
theorem eol_le (s : ByteArray) : eol s ≤ s.size := by have := nlL_le (bl s); rw [bl_length] at this; exact this
def blank (s : ByteArray) : Int := lb ((bl s).take (eol s)) 0 0
theorem bt_nat (s : ByteArray) {i : Nat} (h : i < s.size) : bt s (i : Int) = ((((bl s)[i]'(by rw [bl_length]; exact h)).toNat : Nat) : Int) := by
  unfold bt
  rw [Int.toNat_natCast, List.getD_eq_getElem?_getD, List.getElem?_eq_getElem (by rw [← bl, bl_length]; exact h)]; rfl
theorem drop_all (s : ByteArray) : (bl s).drop s.size = [] := List.drop_of_length_le (by rw [bl_length]; omega)
theorem size_extract_le (s : ByteArray) (i j : Nat) : (s.extract i j).size ≤ s.size := by rw [← bl_length, bl_extract]; simp [bl_length]; omega
theorem size_extract0 (s : ByteArray) {e : Nat} (he : e ≤ s.size) : (s.extract 0 e).size = e := by rw [← bl_length, bl_extract]; simp [bl_length]; omega
theorem extract_extract0 (s : ByteArray) {e b : Nat} (h : b ≤ e) : (s.extract 0 e).extract 2 b = s.extract 2 b := by
  apply bl_inj; rw [bl_extract, bl_extract, bl_extract, List.drop_zero, List.take_take, Nat.min_eq_left h]
theorem bt_extract0 (s : ByteArray) {e : Nat} (h : 0 < e) (he : e ≤ s.size) : bt (s.extract 0 e) 0 = bt s 0 := by
  have h1 := size_extract0 s he
  have := bt_nat (s.extract 0 e) (i := 0) (by omega)
  rw [show ((0 : Nat) : Int) = 0 from rfl] at this
  have h2 := bt_nat s (i := 0) (by omega)
  rw [show ((0 : Nat) : Int) = 0 from rfl] at h2
  rw [this, h2]
  simp [bl_extract]
theorem blank_two (s : ByteArray) : (lb (((bl s).take (eol s)).drop 2) 2 (-1) = -1 ∧ blank s < 2) ∨ (lb (((bl s).take (eol s)).drop 2) 2 (-1) = blank s ∧ 2 ≤ blank s ∧ blank s < eol s) := by
  have hl : ((bl s).take (eol s)).length = eol s := by rw [List.length_take, bl_length]; have := eol_le s; omega
  unfold blank
  match h : (bl s).take (eol s) with
  | [] => left; simp [lb]
  | [x] => left; simp only [List.drop_succ_cons, List.drop_nil, lb]; refine ⟨by trivial, ?_⟩; split <;> omega
  | x :: y :: r =>
    rw [h] at hl; simp only [List.length_cons] at hl
    simp only [List.drop_succ_cons, List.drop_zero, lb]
    have hb : (if y = 32 then (0 + 1 : Int) else if x = 32 then 0 else 0) < 2 := by split <;> (try split) <;> omega
    have h1 := lb_range r (0 + 1 + 1) (if y = 32 then (0 + 1 : Int) else if x = 32 then 0 else 0) (by omega)
    rcases lb_two r 2 (-1) (if y = 32 then (0 + 1 : Int) else if x = 32 then 0 else 0) (by omega) hb with ⟨h2, h3⟩ | ⟨h2, h3⟩
    · right
      rw [show (0 + 1 + 1 : Int) = 2 from rfl] at h1 ⊢
      rw [← h2]
      rw [← h2] at h1
      exact ⟨rfl, h3, by omega⟩
    · left
      rw [show (0 + 1 + 1 : Int) = 2 from rfl, h3]
      exact ⟨h2, hb⟩
def theE (s : ByteArray) : Int × ByteArray := (bt s 0, s.extract 2 (blank s).toNat)
theorem theE_in (s : ByteArray) (hs : s.size ≤ 1000000) : EnIn (theE s) := ⟨(bt_range s 0).1, (bt_range s 0).2, Nat.le_trans (size_extract_le _ _ _) hs⟩
/-- where both readers stop -/
def stops (s : ByteArray) (c : Int) : Prop := eol s = s.size ∨ blank s < 2 ∨ entB (theE s) = false ∨ lnB (theE s) (ckE c (theE s)) ≠ s.extract 0 (eol s + 1)
theorem spec_l33Next_l (s : ByteArray) (hs : s.size ≤ 1000000) (c : Int) (a : Int) (t : ByteArray) : ∀ (d i : Nat), i + d = s.size → ∀ (b : Int) (k : Nat), d < k →
    ∃ k', spec_l33Next.l2 NN k s c (i : Int) b a t = spec_l33Next.l2 NN (k' + 1) s c ((i + nlL ((bl s).drop i) : Nat) : Int) (lb (((bl s).drop i).take (nlL ((bl s).drop i))) i b) a t := by
  intro d
  induction d with
  | zero =>
    intro i hi b k hk
    obtain ⟨k, rfl⟩ : ∃ j, k = j + 1 := ⟨k - 1, by omega⟩
    refine ⟨k, ?_⟩
    rw [List.drop_of_length_le (by rw [bl_length]; omega)]; simp [nlL, lb]
  | succ d ih =>
    intro i hi b k hk
    obtain ⟨k, rfl⟩ : ∃ j, k = j + 1 := ⟨k - 1, by omega⟩
    have hlt : i < (bl s).length := by rw [bl_length]; omega
    have hb := bt_nat s (show i < s.size by omega)
    rw [List.drop_eq_getElem_cons hlt]
    by_cases hc : (bl s)[i] = 10
    · refine ⟨k, ?_⟩
      simp only [nlL]; rw [if_pos hc]; simp [lb]
    · have h10 : ¬ bt s (i : Int) = 10 := by rw [hb]; exact u8_ne10 hc
      have h10' : (bt s (i : Int) != 10) = true := by simpa using h10
      have c0 : (0 : Int) ≤ (i : Int) := by omega
      have c1 : (i : Int) < (s.size : Int) := by omega
      have cw := w64 (n := (i : Int) + 1) (by omega) (by omega)
      simp only [nlL]; rw [if_neg hc, List.take_succ_cons]
      simp only [lb]
      by_cases h32 : (bl s)[i] = 32
      · obtain ⟨k', h⟩ := ih (i + 1) (by omega) (i : Int) k (by omega)
        refine ⟨k', ?_⟩
        have e32 : (bt s (i : Int) == 32) = true := by rw [hb, h32]; rfl
        conv => lhs; simp only [spec_l33Next.l2, spec_l33Next.g2, c0, c1, h10', e32, cw, and_self, and_true, true_and, decide_true, decide_false, if_true, if_false, mid_get, mid_set, mid_getn, mid_setn, bt_mid, Option.bind_some, Bool.not_true, Bool.not_false, Bool.false_eq_true, Bool.true_eq_false, beq_self_eq_true, bne_self_eq_false, Int.toNat_natCast]
        rw [show ((i : Int) + 1) = ((i + 1 : Nat) : Int) by omega, h, if_pos h32, show i + 1 + nlL ((bl s).drop (i + 1)) = i + (nlL ((bl s).drop (i + 1)) + 1) by omega]
      · obtain ⟨k', h⟩ := ih (i + 1) (by omega) b k (by omega)
        refine ⟨k', ?_⟩
        have e32 : (bt s (i : Int) == 32) = false := by rw [hb, beq_eq_false_iff_ne]; exact u8_ne32 h32
        conv => lhs; simp only [spec_l33Next.l2, spec_l33Next.g2, c0, c1, h10', e32, cw, and_self, and_true, true_and, decide_true, decide_false, if_true, if_false, mid_get, mid_set, mid_getn, mid_setn, bt_mid, Option.bind_some, Bool.not_true, Bool.not_false, Bool.false_eq_true, Bool.true_eq_false, beq_self_eq_true, bne_self_eq_false, Int.toNat_natCast]
        rw [show ((i : Int) + 1) = ((i + 1 : Nat) : Int) by omega, h, if_neg h32, show i + 1 + nlL ((bl s).drop (i + 1)) = i + (nlL ((bl s).drop (i + 1)) + 1) by omega]
theorem impl_readJournal_l (s : ByteArray) (hs : s.size ≤ 1000000) (L : ByteArray → Int → List (Int × ByteArray) → Option (List (Int × ByteArray) × Int)) (out : List (Int × ByteArray)) (c : Int) : ∀ (d i : Nat), i + d = s.size → ∀ (k : Nat), d < k →
    ∃ k', impl_readJournal.l5 NN L k s c (i : Int) out = impl_readJournal.l5 NN L (k' + 1) s c ((i + nlL ((bl s).drop i) : Nat) : Int) out := by
  intro d
  induction d with
  | zero =>
    intro i hi k hk
    obtain ⟨k, rfl⟩ : ∃ j, k = j + 1 := ⟨k - 1, by omega⟩
    refine ⟨k, ?_⟩
    rw [List.drop_of_length_le (by rw [bl_length]; omega)]; simp [nlL]
  | succ d ih =>
    intro i hi k hk
    obtain ⟨k, rfl⟩ : ∃ j, k = j + 1 := ⟨k - 1, by omega⟩
    have hlt : i < (bl s).length := by rw [bl_length]; omega
    have hb := bt_nat s (show i < s.size by omega)
    rw [List.drop_eq_getElem_cons hlt]
    by_cases hc : (bl s)[i] = 10
    · refine ⟨k, ?_⟩
      simp only [nlL]; rw [if_pos hc]; simp
    · have h10 : ¬ bt s (i : Int) = 10 := by rw [hb]; exact u8_ne10 hc
      have h10' : (bt s (i : Int) != 10) = true := by simpa using h10
      have c0 : (0 : Int) ≤ (i : Int) := by omega
      have c1 : (i : Int) < (s.size : Int) := by omega
      have cw := w64 (n := (i : Int) + 1) (by omega) (by omega)
      simp only [nlL]; rw [if_neg hc]
      obtain ⟨k', h⟩ := ih (i + 1) (by omega) k (by omega)
      refine ⟨k', ?_⟩
      conv => lhs; simp only [impl_readJournal.l5, impl_readJournal.g5, c0, c1, h10', cw, and_self, and_true, true_and, decide_true, decide_false, if_true, if_false, mid_get, mid_set, mid_getn, mid_setn, bt_mid, Option.bind_some, Bool.not_true, Bool.not_false, Bool.false_eq_true, Bool.true_eq_false, beq_self_eq_true, bne_self_eq_false, Int.toNat_natCast]
      rw [show ((i : Int) + 1) = ((i + 1 : Nat) : Int) by omega, h, show i + 1 + nlL ((bl s).drop (i + 1)) = i + (nlL ((bl s).drop (i + 1)) + 1) by omega]
theorem impl_readEntry_l (s : ByteArray) (hs : s.size ≤ 1000000) (a : Int) (t : ByteArray) : ∀ (d i : Nat), i + d = s.size → ∀ (b : Int) (k : Nat), d < k →
    ∃ k', impl_readEntry.l3 NN k s b (i : Int) a t = impl_readEntry.l3 NN (k' + 1) s (lb ((bl s).drop i) i b) (s.size : Int) a t := by
  intro d
  induction d with
  | zero =>
    intro i hi b k hk
    obtain ⟨k, rfl⟩ : ∃ j, k = j + 1 := ⟨k - 1, by omega⟩
    obtain rfl : i = s.size := by omega
    exact ⟨k, by rw [drop_all]; rfl⟩
  | succ d ih =>
    intro i hi b k hk
    obtain ⟨k, rfl⟩ : ∃ j, k = j + 1 := ⟨k - 1, by omega⟩
    have hlt : i < (bl s).length := by rw [bl_length]; omega
    have hb := bt_nat s (show i < s.size by omega)
    have c0 : (0 : Int) ≤ (i : Int) := by omega
    have c1 : (i : Int) < (s.size : Int) := by omega
    have cw := w64 (n := (i : Int) + 1) (by omega) (by omega)
    rw [List.drop_eq_getElem_cons hlt]
    simp only [lb]
    by_cases h32 : (bl s)[i] = 32
    · obtain ⟨k', h⟩ := ih (i + 1) (by omega) (i : Int) k (by omega)
      refine ⟨k', ?_⟩
      have e32 : (bt s (i : Int) == 32) = true := by rw [hb, h32]; rfl
      conv => lhs; simp only [impl_readEntry.l3, impl_readEntry.g3, c0, c1, e32, cw, and_self, and_true, true_and, decide_true, decide_false, if_true, if_false, mid_get, mid_set, mid_getn, mid_setn, bt_mid, Option.bind_some, Bool.not_true, Bool.not_false, Bool.false_eq_true, Bool.true_eq_false, beq_self_eq_true, bne_self_eq_false, Int.toNat_natCast]
      rw [show ((i : Int) + 1) = ((i + 1 : Nat) : Int) by omega, h, if_pos h32]
    · obtain ⟨k', h⟩ := ih (i + 1) (by omega) b k (by omega)
      refine ⟨k', ?_⟩
      have e32 : (bt s (i : Int) == 32) = false := by rw [hb, beq_eq_false_iff_ne]; exact u8_ne32 h32
      conv => lhs; simp only [impl_readEntry.l3, impl_readEntry.g3, c0, c1, e32, cw, and_self, and_true, true_and, decide_true, decide_false, if_true, if_false, mid_get, mid_set, mid_getn, mid_setn, bt_mid, Option.bind_some, Bool.not_true, Bool.not_false, Bool.false_eq_true, Bool.true_eq_false, beq_self_eq_true, bne_self_eq_false, Int.toNat_natCast]
      rw [show ((i : Int) + 1) = ((i + 1 : Nat) : Int) by omega, h, if_neg h32]
open Classical in
theorem spec_l33Next_f (s : ByteArray) (hs : s.size ≤ 1000000) {c : Int} (h0 : 0 ≤ c) (h1 : c ≤ 10000) :
    spec_l33Next.f s c = some (if stops s c then ((0, ByteArray.empty), 0, 0) else (theE s, ckE c (theE s), (eol s : Int) + 1)) := by
  have he := eol_le s
  unfold spec_l33Next.f spec_l33Next.fn spec_l33Next.top
  obtain ⟨k, hl⟩ := spec_l33Next_l s hs c 0 ByteArray.empty s.size 0 (by omega) 0 NN (NN_lt (by omega))
  rw [show ((0 : Nat) : Int) = 0 from rfl, List.drop_zero, Nat.zero_add] at hl
  rw [hl, show nlL (bl s) = eol s from rfl, show lb ((bl s).take (eol s)) 0 0 = blank s from rfl]
  by_cases e1 : eol s = s.size
  · rw [if_pos (show stops s c from .inl e1)]
    simp [spec_l33Next.l2, spec_l33Next.g2, e1]
  · have c0 : (0 : Int) ≤ (eol s : Int) := by omega
    have c1 : (eol s : Int) < (s.size : Int) := by omega
    have hlt : eol s < (bl s).length := by rw [bl_length]; omega
    have hnl : (bl s)[eol s] = 10 := by
      have key : ∀ (l : List UInt8) (h : nlL l < l.length), l[nlL l] = 10 := by
        intro l
        induction l with
        | nil => intro h; simp at h
        | cons x r ih =>
          intro h
          by_cases hx : x = 10
          · simp [nlL, hx]
          · have hz : nlL (x :: r) = nlL r + 1 := by simp [nlL, hx]
            simp only [hz, List.length_cons] at h
            simp only [hz, List.getElem_cons_succ]
            exact ih (by omega)
      exact key _ hlt
    have h10 : (bt s (eol s : Int) != 10) = false := by rw [bt_nat s (by omega), hnl]; rfl
    have ez : ((eol s : Int) == (s.size : Int)) = false := by rw [beq_eq_false_iff_ne]; omega
    have cw := w64 (n := (eol s : Int) + 1) (by omega) (by omega)
    simp only [spec_l33Next.l2, spec_l33Next.g2, c0, c1, h10, ez, cw, and_self, and_true, true_and, decide_true, decide_false, if_true, if_false, mid_get, mid_set, mid_getn, mid_setn, bt_mid, Option.bind_some, Bool.not_true, Bool.not_false, Bool.false_eq_true, Bool.true_eq_false, beq_self_eq_true, bne_self_eq_false, Int.toNat_natCast]
    by_cases e2 : blank s < 2
    · rw [if_pos (decide_eq_true e2), if_pos (show stops s c from .inr (.inl e2))]
    · have hbb := blank_two s
      have hbr : 2 ≤ blank s ∧ blank s < eol s := by rcases hbb with h | h <;> omega
      have d1 : (0 : Int) < (s.size : Int) := by omega
      have d2 : blank s ≤ (s.size : Int) := by omega
      have d3 : (0 : Int) ≤ (eol s : Int) + 1 ∧ (eol s : Int) + 1 ≤ (s.size : Int) := by omega
      have d4 : ((eol s : Int) + 1).toNat = eol s + 1 := by omega
      have hE : (bt s 0, s.extract (2 : Int).toNat (blank s).toNat) = theE s := rfl
      have hin := theE_in s hs
      have hr := @ckE_range c (theE s)
      simp only [e2, d1, d2, hbr.1, d3.1, d3.2, d4, hE, and_self, and_true, true_and, decide_true, decide_false, if_true, if_false, mid_get, mid_set, mid_getn, mid_setn, bt_mid, Option.bind_some, Bool.not_true, Bool.not_false, Bool.false_eq_true, Bool.true_eq_false, beq_self_eq_true, bne_self_eq_false, Int.toNat_natCast, Int.le_refl, show (0 : Int) ≤ 2 from by omega, spec_l33Check_f (theE s) hin h0 h1, spec_l33Is_f (theE s) (Nat.le_trans hin.2.2 (by omega)), spec_l33Line_f (theE s) hin.2.2 hr.1 (show ckE c (theE s) ≤ 10000 by omega), ba_beq]
      cases e3 : entB (theE s)
      · rw [if_pos (show stops s c from .inr (.inr (.inl e3)))]; rfl
      · by_cases e4 : lnB (theE s) (ckE c (theE s)) = s.extract 0 (eol s + 1)
        · rw [if_neg (show ¬ stops s c by
            rintro (h | h | h | h)
            · exact e1 h
            · exact e2 h
            · rw [e3] at h; cases h
            · exact h e4)]
          simp [e4]
        · rw [if_pos (show stops s c from .inr (.inr (.inr e4)))]
          simp [e4]
theorem impl_readEntry_f (s : ByteArray) (hs : s.size ≤ 1000000) (he : eol s < s.size) :
    impl_readEntry.f (s.extract 0 (eol s)) = some (if blank s < 2 then ((0, ByteArray.empty), false) else (theE s, entB (theE s))) := by
  have hz := size_extract0 s (show eol s ≤ s.size by omega)
  have hbl : bl (s.extract 0 (eol s)) = (bl s).take (eol s) := by rw [bl_extract, List.drop_zero]
  unfold impl_readEntry.f impl_readEntry.fn impl_readEntry.top
  by_cases h2 : 2 ≤ eol s
  · obtain ⟨k, hl⟩ := impl_readEntry_l (s.extract 0 (eol s)) (by omega) 0 ByteArray.empty (eol s - 2) 2 (by omega) (-1) NN (NN_lt (by omega))
    rw [show ((2 : Nat) : Int) = 2 from rfl] at hl
    rw [hl, hbl, hz]
    have n1 : ¬ ((eol s : Nat) : Int) < (eol s : Int) := by omega
    rcases blank_two s with ⟨h, h'⟩ | ⟨h, h', h''⟩
    · rw [h, if_pos h']
      simp [impl_readEntry.l3, impl_readEntry.g3, hz]
    · have n2 : ¬ blank s < 0 := by omega
      have n3 : (0 : Int) < (eol s : Int) := by omega
      have n4 : blank s ≤ (eol s : Int) := by omega
      rw [h, if_neg (show ¬ blank s < 2 by omega)]
      have hx : (s.extract 0 (eol s)).extract (2 : Int).toNat (blank s).toNat = s.extract 2 (blank s).toNat := extract_extract0 s (by omega)
      simp only [impl_readEntry.l3, impl_readEntry.g3, hz, n1, n2, n3, n4, h', and_self, and_true, true_and, decide_true, decide_false, if_true, if_false, mid_get, mid_set, mid_getn, mid_setn, bt_mid, Option.bind_some, Bool.not_true, Bool.not_false, Bool.false_eq_true, Bool.true_eq_false, beq_self_eq_true, bne_self_eq_false, Int.toNat_natCast, Int.le_refl, show (0 : Int) ≤ 2 from by omega, bt_extract0 s (show 0 < eol s by omega) (show eol s ≤ s.size by omega), hx]
      have hE : (bt s 0, s.extract 2 (blank s).toNat) = theE s := rfl
      rw [hE, impl_isEntry_f (theE s) (Nat.le_trans (theE_in s hs).2.2 (by omega))]; rfl
  · obtain ⟨k, hk⟩ : ∃ j, NN = j + 1 := ⟨NN - 1, by have := NNb; omega⟩
    rw [show impl_readEntry.l3 NN NN = impl_readEntry.l3 NN (k + 1) by rw [← hk]]
    have n1 : ¬ (2 : Int) < ((s.extract 0 (eol s)).size : Int) := by omega
    rcases blank_two s with ⟨h, h'⟩ | ⟨h, h', h''⟩
    · rw [if_pos h']
      simp only [impl_readEntry.l3, impl_readEntry.g3, n1, and_self, and_true, true_and, decide_true, decide_false, if_true, if_false, mid_get, mid_set, mid_getn, mid_setn, bt_mid, Option.bind_some, Bool.not_true, Bool.not_false, Bool.false_eq_true, Bool.true_eq_false, beq_self_eq_true, bne_self_eq_false, Int.toNat_natCast, show (-1 : Int) < 0 from by omega]
    · omega
theorem readers_same : ∀ (d : Nat) (s : ByteArray), s.size ≤ 1000000 → ∀ (out : List (Int × ByteArray)) (c : Int) (k1 k2 : Nat), d < k1 → d < k2 → 0 ≤ c → c ≤ 10000 → out.length + d = 20 →
    ∃ r n, impl_readJournal.l3 NN k1 s c out = some (r, n) ∧ spec_l33Read.l2 NN k2 s c out = some (r, n) ∧ 0 ≤ n ∧ n ≤ s.size ∧ r.length ≤ 20 ∧ out <+: r ∧ ((∀ x ∈ out, entB x = true) → ∀ x ∈ r, entB x = true) := by
  intro d
  induction d with
  | zero =>
    intro s hs out c k1 k2 hk1 hk2 h0 h1 hd
    obtain ⟨k1, rfl⟩ : ∃ j, k1 = j + 1 := ⟨k1 - 1, by omega⟩
    obtain ⟨k2, rfl⟩ : ∃ j, k2 = j + 1 := ⟨k2 - 1, by omega⟩
    have hn : ¬ (out.length : Int) < 20 := by omega
    refine ⟨out, s.size, ?_, ?_, by omega, by omega, by omega, List.prefix_refl _, fun h => h⟩
    · simp only [impl_readJournal.l3, impl_readJournal.g3, hn, and_self, and_true, true_and, decide_true, decide_false, if_true, if_false, mid_get, mid_set, mid_getn, mid_setn, bt_mid, Option.bind_some, Bool.not_true, Bool.not_false, Bool.false_eq_true, Bool.true_eq_false, beq_self_eq_true, bne_self_eq_false, Int.toNat_natCast]
    · simp only [spec_l33Read.l2, spec_l33Read.g2, hn, and_self, and_true, true_and, decide_true, decide_false, if_true, if_false, mid_get, mid_set, mid_getn, mid_setn, bt_mid, Option.bind_some, Bool.not_true, Bool.not_false, Bool.false_eq_true, Bool.true_eq_false, beq_self_eq_true, bne_self_eq_false, Int.toNat_natCast]
  | succ d ih =>
    intro s hs out c k1 k2 hk1 hk2 h0 h1 hd
    obtain ⟨k1, rfl⟩ : ∃ j, k1 = j + 1 := ⟨k1 - 1, by omega⟩
    obtain ⟨k2, rfl⟩ : ∃ j, k2 = j + 1 := ⟨k2 - 1, by omega⟩
    have he := eol_le s
    have hn : (out.length : Int) < 20 := by omega
    obtain ⟨k3, hl⟩ := impl_readJournal_l s hs (impl_readJournal.l3 NN k1) out c s.size 0 (by omega) NN (NN_lt (by omega))
    rw [show ((0 : Nat) : Int) = 0 from rfl, List.drop_zero, Nat.zero_add, show nlL (bl s) = eol s from rfl] at hl
    have himp : impl_readJournal.l3 NN (k1 + 1) s c out = impl_readJournal.l5 NN (impl_readJournal.l3 NN k1) (k3 + 1) s c (eol s) out := by
      conv => lhs; simp only [impl_readJournal.l3, impl_readJournal.g3, hn, and_self, and_true, true_and, decide_true, decide_false, if_true, if_false, mid_get, mid_set, mid_getn, mid_setn, bt_mid, Option.bind_some, Bool.not_true, Bool.not_false, Bool.false_eq_true, Bool.true_eq_false, beq_self_eq_true, bne_self_eq_false, Int.toNat_natCast]
      exact hl
    have hspec : spec_l33Read.l2 NN (k2 + 1) s c out = (spec_l33Next.f s c).bind fun r1 => if ((r1.2.2 : Int) == 0) = true then some (out, (s.size : Int)) else if out.length + ([r1.1]).length < room 24 then (if (0 : Int) ≤ r1.2.2 ∧ (r1.2.2 : Int) ≤ s.size then spec_l33Read.l2 NN k2 (s.extract (r1.2.2 : Int).toNat s.size) r1.2.1 (out ++ ([r1.1])) else none) else none := by
      simp only [spec_l33Read.l2, spec_l33Read.g2, hn, and_self, and_true, true_and, decide_true, decide_false, if_true, if_false, mid_get, mid_set, mid_getn, mid_setn, bt_mid, Option.bind_some, Bool.not_true, Bool.not_false, Bool.false_eq_true, Bool.true_eq_false, beq_self_eq_true, bne_self_eq_false, Int.toNat_natCast]
    have hroom : ∀ e : Int × ByteArray, out.length + [e].length < room 24 := fun e => by rw [room24]; simp; omega
    rw [himp, hspec, spec_l33Next_f s hs h0 h1]
    simp only [Option.bind_some]
    by_cases e1 : eol s = s.size
    · have hst : stops s c := .inl e1
      rw [if_pos hst]
      refine ⟨out, s.size, ?_, by simp, by omega, by omega, by omega, List.prefix_refl _, fun h => h⟩
      simp [impl_readJournal.l5, impl_readJournal.g5, e1]
    have c0 : (0 : Int) ≤ (eol s : Int) := by omega
    have c1 : (eol s : Int) < (s.size : Int) := by omega
    have c2 : (eol s : Int) ≤ (s.size : Int) := by omega
    have hlt : eol s < (bl s).length := by rw [bl_length]; omega
    have hnl : (bl s)[eol s] = 10 := by
      have key : ∀ (l : List UInt8) (h : nlL l < l.length), l[nlL l] = 10 := by
        intro l
        induction l with
        | nil => intro h; simp at h
        | cons x r ih =>
          intro h
          by_cases hx : x = 10
          · simp [nlL, hx]
          · have hz : nlL (x :: r) = nlL r + 1 := by simp [nlL, hx]
            simp only [hz, List.length_cons] at h
            simp only [hz, List.getElem_cons_succ]
            exact ih (by omega)
      exact key _ hlt
    have h10 : (bt s (eol s : Int) != 10) = false := by rw [bt_nat s (by omega), hnl]; rfl
    have ez : ((eol s : Int) == (s.size : Int)) = false := by rw [beq_eq_false_iff_ne]; omega
    have cw := w64 (n := (eol s : Int) + 1) (by omega) (by omega)
    have d3 : (0 : Int) ≤ (eol s : Int) + 1 ∧ (eol s : Int) + 1 ≤ (s.size : Int) := by omega
    have d4 : ((eol s : Int) + 1).toNat = eol s + 1 := by omega
    simp only [impl_readJournal.l5, impl_readJournal.g5, c0, c1, c2, h10, ez, cw, and_self, and_true, true_and, decide_true, decide_false, if_true, if_false, mid_get, mid_set, mid_getn, mid_setn, bt_mid, Option.bind_some, Bool.not_true, Bool.not_false, Bool.false_eq_true, Bool.true_eq_false, beq_self_eq_true, bne_self_eq_false, Int.toNat_natCast, impl_readEntry_f s hs (show eol s < s.size by omega), d3.1, d3.2, d4]
    by_cases e2 : blank s < 2
    · have hst : stops s c := .inr (.inl e2)
      rw [if_pos hst, if_pos e2]
      exact ⟨out, s.size, by simp, by simp, by omega, by omega, by omega, List.prefix_refl _, fun h => h⟩
    have hin := theE_in s hs
    have hr := @ckE_range c (theE s)
    have hr2 : ckE c (theE s) ≤ 10000 := by omega
    rw [if_neg e2]
    simp only [impl_nextCheck_f (theE s) hin h0 h1, impl_entryLine_f (theE s) hin.2.2 hr.1 hr2, and_self, and_true, true_and, decide_true, decide_false, if_true, if_false, mid_get, mid_set, mid_getn, mid_setn, bt_mid, Option.bind_some, Bool.not_true, Bool.not_false, Bool.false_eq_true, Bool.true_eq_false, beq_self_eq_true, bne_self_eq_false, Int.toNat_natCast, ba_beq]
    cases e3 : entB (theE s)
    · have hst : stops s c := .inr (.inr (.inl e3))
      rw [if_pos hst]
      exact ⟨out, s.size, by simp, by simp, by omega, by omega, by omega, List.prefix_refl _, fun h => h⟩
    by_cases e4 : lnB (theE s) (ckE c (theE s)) = s.extract 0 (eol s + 1)
    · have hst : ¬ stops s c := by
        rintro (h | h | h | h)
        · exact e1 h
        · exact e2 h
        · rw [e3] at h; cases h
        · exact h e4
      have hsz2 := size_extract_le s (eol s + 1) s.size
      obtain ⟨r, n, i1, i2, i3, i4, i5, i6, i7⟩ := ih (s.extract (eol s + 1) s.size) (by omega) (out ++ [theE s]) (ckE c (theE s)) k1 k2 (by omega) (by omega) hr.1 (by omega) (by simp; omega)
      rw [if_neg hst]
      have ez2 : (((eol s : Int) + 1) == 0) = false := by rw [beq_eq_false_iff_ne]; omega
      refine ⟨r, n, ?_, ?_, i3, by omega, i5, (List.prefix_append _ _).trans i6, fun h => i7 (by
        intro x hx
        rcases List.mem_append.mp hx with hx | hx
        · exact h x hx
        · rw [List.mem_singleton] at hx; subst hx; exact e3)⟩
      · simp only [e4, and_self, and_true, true_and, decide_true, decide_false, if_true, if_false, mid_get, mid_set, mid_getn, mid_setn, bt_mid, Option.bind_some, Bool.not_true, Bool.not_false, Bool.false_eq_true, Bool.true_eq_false, beq_self_eq_true, bne_self_eq_false, Int.toNat_natCast, hroom]
        exact i1
      · simp only [ez2, and_self, and_true, true_and, decide_true, decide_false, if_true, if_false, mid_get, mid_set, mid_getn, mid_setn, bt_mid, Option.bind_some, Bool.not_true, Bool.not_false, Bool.false_eq_true, Bool.true_eq_false, beq_self_eq_true, bne_self_eq_false, Int.toNat_natCast, hroom, d3.1, d3.2, d4]
        exact i2
    · have hst : stops s c := .inr (.inr (.inr e4))
      rw [if_pos hst]
      exact ⟨out, s.size, by simp [e4], by simp, by omega, by omega, by omega, List.prefix_refl _, fun h => h⟩
theorem journal_same (s : ByteArray) (hs : s.size ≤ 1000000) : ∃ r n, impl_readJournal.f s = some (r, n) ∧ spec_l33Read.f s = some (r, n) ∧ 0 ≤ n ∧ n ≤ (s.size : Int) ∧ r.length ≤ 20 ∧ ∀ x ∈ r, entB x = true := by
  obtain ⟨r, n, h1, h2, h3, h4, h5, _, h7⟩ := readers_same 20 s hs [] 1 NN NN (NN_lt (by omega)) (NN_lt (by omega)) (by omega) (by omega) (by simp)
  exact ⟨r, n, h1, h2, h3, h4, h5, h7 (by simp)⟩
end Go.Pl

namespace Go.Pl
open Go.Ev
set_option linter.unusedVariables false
set_option linter.unusedSimpArgs false
theorem spec_l33Code_f (xs : List (Int × ByteArray)) (h : Ls (fun e => Sz e.2) xs) : spec_l33Code.f xs = some (if xs.all entB = true then (if xs.length ≤ 20 then 0 else 3) else 1) := by
  unfold spec_l33Code.f spec_l33Code.fn spec_l33Code.top
  rw [spec_l33All_f xs h]
  cases xs.all entB
  · rfl
  by_cases h1 : xs.length ≤ 20
  · have : ¬ (20 : Int) < (xs.length : Int) := by omega
    simp [h1, this]
  · have : (20 : Int) < (xs.length : Int) := by omega
    simp [h1, this]
theorem ok_sz {xs : List (Int × ByteArray)} (h : Lm OkEntry xs) : Ls (fun e => Sz e.2) xs := ⟨Nat.le_trans h.1 (by omega), fun x hx => Nat.le_trans (h.2 x hx).2 (by omega)⟩
theorem all_in {xs : List (Int × ByteArray)} (h : xs.all entB = true) : ∀ e ∈ xs, EnIn e := fun e he => entB_in (List.all_eq_true.1 h e he)
theorem WriteJournal_core (xs : List (Int × ByteArray)) (h : Lm OkEntry xs) : ∃ w, spec_WriteJournal.f xs = some w ∧ impl_WriteJournal.f xs = some w ∧ True := by
  have hs := ok_sz h
  refine ⟨if xs.all entB = true then (if xs.length ≤ 20 then (jText xs, 0) else (⟨#[]⟩, 3)) else (⟨#[]⟩, 1), ?_, ?_, trivial⟩
  · unfold spec_WriteJournal.f spec_WriteJournal.fn spec_WriteJournal.top
    rw [spec_l33Code_f xs hs]
    cases ha : xs.all entB
    · rfl
    by_cases h1 : xs.length ≤ 20
    · simp only [h1, and_self, and_true, true_and, decide_true, decide_false, if_true, if_false, mid_get, mid_set, mid_getn, mid_setn, bt_mid, Option.bind_some, Bool.not_true, Bool.not_false, Bool.false_eq_true, Bool.true_eq_false, beq_self_eq_true, bne_self_eq_false, Int.toNat_natCast]
      rw [(spec_l33Write_f xs h.1 (all_in ha)).1]; rfl
    · simp only [h1, and_self, and_true, true_and, decide_true, decide_false, if_true, if_false, mid_get, mid_set, mid_getn, mid_setn, bt_mid, Option.bind_some, Bool.not_true, Bool.not_false, Bool.false_eq_true, Bool.true_eq_false, beq_self_eq_true, bne_self_eq_false, Int.toNat_natCast]; rfl
  · unfold impl_WriteJournal.f impl_WriteJournal.fn impl_WriteJournal.top
    rw [impl_areEntries_f xs hs]
    cases ha : xs.all entB
    · rfl
    by_cases h1 : xs.length ≤ 20
    · have : ¬ (20 : Int) < (xs.length : Int) := by omega
      simp only [h1, this, and_self, and_true, true_and, decide_true, decide_false, if_true, if_false, mid_get, mid_set, mid_getn, mid_setn, bt_mid, Option.bind_some, Bool.not_true, Bool.not_false, Bool.false_eq_true, Bool.true_eq_false, beq_self_eq_true, bne_self_eq_false, Int.toNat_natCast]
      rw [(impl_journalOf_f xs h.1 (all_in ha)).1]; rfl
    · have : (20 : Int) < (xs.length : Int) := by omega
      simp only [h1, this, and_self, and_true, true_and, decide_true, decide_false, if_true, if_false, mid_get, mid_set, mid_getn, mid_setn, bt_mid, Option.bind_some, Bool.not_true, Bool.not_false, Bool.false_eq_true, Bool.true_eq_false, beq_self_eq_true, bne_self_eq_false, Int.toNat_natCast]
end Go.Pl

namespace Go.Pl
open Go.Ev
set_option linter.unusedVariables false
noncomputable section
def impl_readDecimal.g8 (L8 : ByteArray → ByteArray → Int → Int → Option (Int × Bool)) (s0 : ByteArray) (digits4 : ByteArray) (n5 : Int) (i6 : Int) : Option (Int × Bool) :=
  if (decide ((i6 : Int) < (digits4.size : Int))) = true then
    if (0 : Int) ≤ i6 ∧ (i6 : Int) < digits4.size then
      if (decide (((bt digits4 i6) : Int) < 48)) = false then
        if (0 : Int) ≤ i6 ∧ (i6 : Int) < digits4.size then
          if (decide ((57 : Int) < (bt digits4 i6))) = true then
            some (0, false)
          else if (0 : Int) ≤ i6 ∧ (i6 : Int) < digits4.size then
            L8 s0 digits4 (IntKind.i64.wrap ((IntKind.i64.wrap (10 * n5)) + (IntKind.i64.wrap (IntKind.u8.wrap ((bt digits4 i6) - 48))))) (IntKind.i64.wrap (i6 + 1))
          else
            none
        else
          none
      else
        some (0, false)
    else
      none
  else if (decide (((digits4.size : Int) : Int) < (s0.size : Int))) = true then
    some (IntKind.i64.wrap (0 - n5), true)
  else
    some (n5, true)
def impl_readDecimal.l8 (n : Nat) : Nat → ByteArray → ByteArray → Int → Int → Option (Int × Bool)
  | 0 => fun _ _ _ _ => none
  | k + 1 => impl_readDecimal.g8 (impl_readDecimal.l8 n k)
def impl_readDecimal.top (I8 : ByteArray → ByteArray → Int → Int → Option (Int × Bool)) (s0 : ByteArray) : Option (Int × Bool) :=
  if (decide ((0 : Int) < (s0.size : Int))) = true then
    if (0 : Int) ≤ 0 ∧ (0 : Int) < s0.size then
      if (((bt s0 0) : Int) == 45) = true then
        if (0 : Int) ≤ 1 ∧ (1 : Int) ≤ s0.size then
          if ((((s0.extract (1 : Int).toNat s0.size).size : Int) : Int) == 0) = false then
            if (decide ((18 : Int) < ((s0.extract (1 : Int).toNat s0.size).size : Int))) = false then
              if (0 : Int) ≤ 0 ∧ (0 : Int) < (s0.extract (1 : Int).toNat s0.size).size then
                if (((bt (s0.extract (1 : Int).toNat s0.size) 0) : Int) == 48) = true then
                  if (decide ((1 : Int) < ((s0.extract (1 : Int).toNat s0.size).size : Int))) = false then
                    if (decide ((1 : Int) < (s0.size : Int))) = true then
                      some (0, false)
                    else
                      I8 s0 (s0.extract (1 : Int).toNat s0.size) 0 0
                  else
                    some (0, false)
                else
                  I8 s0 (s0.extract (1 : Int).toNat s0.size) 0 0
              else
                none
            else
              some (0, false)
          else
            some (0, false)
        else
          none
      else if (((s0.size : Int) : Int) == 0) = false then
        if (decide ((18 : Int) < (s0.size : Int))) = false then
          if (0 : Int) ≤ 0 ∧ (0 : Int) < s0.size then
            if (((bt s0 0) : Int) == 48) = true then
              if (decide ((1 : Int) < (s0.size : Int))) = false then
                if (decide ((1 : Int) < (s0.size : Int))) = true then
                  some (0, false)
                else
                  I8 s0 s0 0 0
              else
                some (0, false)
            else
              I8 s0 s0 0 0
          else
            none
        else
          some (0, false)
      else
        some (0, false)
    else
      none
  else if (((s0.size : Int) : Int) == 0) = false then
    if (decide ((18 : Int) < (s0.size : Int))) = false then
      if (0 : Int) ≤ 0 ∧ (0 : Int) < s0.size then
        if (((bt s0 0) : Int) == 48) = true then
          if (decide ((1 : Int) < (s0.size : Int))) = false then
            if (decide ((1 : Int) < (s0.size : Int))) = true then
              some (0, false)
            else
              I8 s0 s0 0 0
          else
            some (0, false)
        else
          I8 s0 s0 0 0
      else
        none
    else
      some (0, false)
  else
    some (0, false)
def impl_readDecimal.fn (n : Nat) (s0 : ByteArray) : Option (Int × Bool) := impl_readDecimal.top (impl_readDecimal.l8 n n) s0
def impl_readDecimal.f (s0 : ByteArray) : Option (Int × Bool) := impl_readDecimal.fn NN s0
end
end Go.Pl

namespace Go.Pl
open Go.Ev
set_option linter.unusedVariables false
noncomputable section
def spec_l01Value.g5 (L5 : ByteArray → Int → Int → Option (Int × Bool)) (s0 : ByteArray) (n4 : Int) (i5 : Int) : Option (Int × Bool) :=
  if (decide ((i5 : Int) < (s0.size : Int))) = true then
    if (0 : Int) ≤ i5 ∧ (i5 : Int) < s0.size then
      if (decide (((bt s0 i5) : Int) < 48)) = false then
        if (0 : Int) ≤ i5 ∧ (i5 : Int) < s0.size then
          if (decide ((57 : Int) < (bt s0 i5))) = true then
            some (0, false)
          else if (0 : Int) ≤ i5 ∧ (i5 : Int) < s0.size then
            L5 s0 (IntKind.i64.wrap ((IntKind.i64.wrap (10 * n4)) + (IntKind.i64.wrap (IntKind.u8.wrap ((bt s0 i5) - 48))))) (IntKind.i64.wrap (i5 + 1))
          else
            none
        else
          none
      else
        some (0, false)
    else
      none
  else
    (spec_l01Dec.f n4).bind fun r1 =>
    some (n4, r1.toList == s0.toList)
def spec_l01Value.l5 (n : Nat) : Nat → ByteArray → Int → Int → Option (Int × Bool)
  | 0 => fun _ _ _ => none
  | k + 1 => spec_l01Value.g5 (spec_l01Value.l5 n k)
def spec_l01Value.top (I5 : ByteArray → Int → Int → Option (Int × Bool)) (s0 : ByteArray) : Option (Int × Bool) :=
  if (decide (((s0.size : Int) : Int) < 1)) = false then
    if (decide ((13 : Int) < (s0.size : Int))) = true then
      some (0, false)
    else
      I5 s0 0 0
  else
    some (0, false)
def spec_l01Value.fn (n : Nat) (s0 : ByteArray) : Option (Int × Bool) := spec_l01Value.top (spec_l01Value.l5 n n) s0
def spec_l01Value.f (s0 : ByteArray) : Option (Int × Bool) := spec_l01Value.fn NN s0
end
end Go.Pl

namespace Go.Pl
open Go.Ev
set_option linter.unusedVariables false
set_option linter.unusedSimpArgs false
def isDig (c : UInt8) : Bool := decide (48 ≤ (c.toNat : Int) ∧ (c.toNat : Int) ≤ 57)
def valL : List UInt8 → Nat → Nat
  | [], a => a
  | c :: r, a => valL r (10 * a + (c.toNat - 48))
theorem head_app {α : Type} {p r : List α} (h : p ≠ []) : (p ++ r).head? = p.head? := by
  cases p with
  | nil => exact absurd rfl h
  | cons => rfl
theorem isDig_iff {c : UInt8} : isDig c = true ↔ 48 ≤ c.toNat ∧ c.toNat ≤ 57 := by unfold isDig; rw [decide_eq_true_eq]; omega
theorem valL_append (l r : List UInt8) (a : Nat) : valL (l ++ r) a = valL r (valL l a) := by
  induction l generalizing a with
  | nil => rfl
  | cons c l ih => simp only [List.cons_append, valL]; exact ih _
theorem valL_lt : ∀ (l : List UInt8) (a : Nat), (∀ c ∈ l, isDig c = true) → valL l a < (a + 1) * 10 ^ l.length := by
  intro l
  induction l with
  | nil => intro a _; simp [valL]
  | cons c r ih =>
    intro a h
    have hc := isDig_iff.1 (h c (by simp))
    have := ih (10 * a + (c.toNat - 48)) (fun x hx => h x (by simp [hx]))
    simp only [valL, List.length_cons]
    have h2 : (10 * a + (c.toNat - 48) + 1) * 10 ^ r.length ≤ ((a + 1) * 10) * 10 ^ r.length := Nat.mul_le_mul_right _ (by omega)
    have h3 : ((a + 1) * 10) * 10 ^ r.length = (a + 1) * 10 ^ (r.length + 1) := by rw [Nat.mul_assoc, ← Nat.pow_succ']
    omega
theorem digs_digits (n : Nat) : ∀ c ∈ digs n, isDig c = true := by
  induction n using Nat.strongRecOn with
  | _ n ih =>
    by_cases h : n < 10
    · rw [digs_small h]
      intro c hc
      rw [List.mem_singleton] at hc
      subst hc
      rw [isDig_iff, UInt8.toNat_ofNat']; omega
    · rw [digs_big h]
      intro c hc
      rcases List.mem_append.1 hc with hc | hc
      · exact ih (n / 10) (by omega) c hc
      · rw [List.mem_singleton] at hc
        subst hc
        rw [isDig_iff, UInt8.toNat_ofNat']; omega
theorem digs_val (n : Nat) : valL (digs n) 0 = n := by
  induction n using Nat.strongRecOn with
  | _ n ih =>
    by_cases h : n < 10
    · rw [digs_small h]; simp only [valL]; rw [UInt8.toNat_ofNat']; omega
    · rw [digs_big h, valL_append, ih (n / 10) (by omega)]
      simp only [valL]; rw [UInt8.toNat_ofNat']; omega
theorem digs_ne (n : Nat) : digs n ≠ [] := by
  by_cases h : n < 10
  · rw [digs_small h]; simp
  · rw [digs_big h]; simp
theorem digs_head {n : Nat} (h : n ≠ 0) : ∀ c, (digs n).head? = some c → c ≠ 48 := by
  induction n using Nat.strongRecOn with
  | _ n ih =>
    by_cases hn : n < 10
    · rw [digs_small hn]
      intro c hc
      simp only [List.head?_cons, Option.some.injEq] at hc
      subst hc
      intro e
      have := congrArg UInt8.toNat e
      rw [UInt8.toNat_ofNat'] at this
      have e2 : (48 : UInt8).toNat = 48 := rfl
      omega
    · rw [digs_big hn]
      intro c hc
      have h1 := digs_ne (n / 10)
      rw [head_app h1] at hc
      exact ih (n / 10) (by omega) (by omega) c hc
/-- a number's text is the only one without superfluous zeros -/
theorem digs_valL : ∀ (l : List UInt8), l ≠ [] → (∀ c ∈ l, isDig c = true) → (l.length = 1 ∨ l.head? ≠ some 48) → digs (valL l 0) = l := by
  have key : ∀ (k : Nat) (l : List UInt8), l.length = k → l ≠ [] → (∀ c ∈ l, isDig c = true) → (l.length = 1 ∨ l.head? ≠ some 48) → digs (valL l 0) = l := by
    intro k
    induction k with
    | zero => intro l hl hne; exact absurd (List.length_eq_zero_iff.1 hl) hne
    | succ k ih =>
      intro l hl hne hd hz
      obtain ⟨p, c, rfl⟩ : ∃ p c, l = p ++ [c] := ⟨l.dropLast, l.getLast hne, (List.dropLast_concat_getLast hne).symm⟩
      have hc := isDig_iff.1 (hd c (by simp))
      have ec : UInt8.ofNat (48 + (c.toNat - 48)) = c := by
        apply UInt8.toNat_inj.1; rw [UInt8.toNat_ofNat']; omega
      simp only [List.length_append, List.length_cons, List.length_nil] at hl
      rw [valL_append]
      simp only [valL]
      by_cases hp : p = []
      · subst hp
        simp only [valL, List.nil_append]
        rw [Nat.mul_zero, Nat.zero_add, digs_small (by omega), ec]
      · have hpl : p.length ≠ 0 := fun e => hp (List.length_eq_zero_iff.1 e)
        have hp0 : p.head? ≠ some 48 := by
          rcases hz with hz | hz
          · rw [List.length_append, List.length_cons, List.length_nil] at hz; omega
          · rw [head_app hp] at hz; exact hz
        have ihp := ih p (by omega) hp (fun x hx => hd x (by simp [hx])) (.inr hp0)
        have hv : valL p 0 ≠ 0 := by
          intro e
          rw [e] at ihp
          rw [digs_small (by omega)] at ihp
          rw [← ihp] at hp0
          exact hp0 rfl
        rw [digs_big (by omega), show (10 * valL p 0 + (c.toNat - 48)) / 10 = valL p 0 by omega, ihp, show (10 * valL p 0 + (c.toNat - 48)) % 10 = c.toNat - 48 by omega, ec]
  intro l
  exact key l.length l rfl

theorem u8_sub48 {c : UInt8} (h : isDig c = true) : IntKind.i64.wrap (IntKind.u8.wrap ((c.toNat : Int) - 48)) = ((c.toNat - 48 : Nat) : Int) := by
  have := isDig_iff.1 h
  rw [w8 (by omega) (by omega), w64 (by omega) (by omega)]; omega
theorem p18 : (10 : Nat) ^ 18 = 1000000000000000000 := by decide
theorem pow_le18 {a : Nat} (h : a ≤ 18) : (10 : Nat) ^ a ≤ 1000000000000000000 := by
  have := Nat.pow_le_pow_right (n := 10) (by omega) h
  rw [p18] at this; exact this
theorem impl_readDecimal_l (s : ByteArray) : ∀ (r p : List UInt8) (a k : Nat), p.length + r.length ≤ 18 → r.length < k → a < 10 ^ p.length →
    impl_readDecimal.l8 NN k s (ob (p ++ r)) (a : Int) (p.length : Int) = if r.all isDig = true then (if (((p ++ r).length : Nat) : Int) < (s.size : Int) then some (-((valL r a : Nat) : Int), true) else some (((valL r a : Nat) : Int), true)) else some (0, false) := by
  intro r
  induction r with
  | nil =>
    intro p a k hb hk ha
    obtain ⟨k, rfl⟩ : ∃ j, k = j + 1 := ⟨k - 1, by omega⟩
    have h18 := pow_le18 (a := p.length) (by simpa using hb)
    rw [List.append_nil]
    have c1 : ¬ (p.length : Int) < (p.length : Int) := by omega
    have cw := w64 (n := 0 - (a : Int)) (by omega) (by omega)
    simp only [impl_readDecimal.l8, impl_readDecimal.g8, ob_size, c1, cw, and_self, and_true, true_and, decide_true, decide_false, if_true, if_false, mid_get, mid_set, mid_getn, mid_setn, bt_mid, Option.bind_some, Bool.not_true, Bool.not_false, Bool.false_eq_true, Bool.true_eq_false, beq_self_eq_true, bne_self_eq_false, Int.toNat_natCast, decide_eq_true_eq, List.all_nil, valL]
    rw [show 0 - (a : Int) = -(a : Int) by omega]
  | cons c r ih =>
    intro p a k hb hk ha
    simp only [List.length_cons] at hb hk
    obtain ⟨k, rfl⟩ : ∃ j, k = j + 1 := ⟨k - 1, by omega⟩
    have h17 : (10 : Nat) ^ p.length ≤ 10 ^ 17 := Nat.pow_le_pow_right (by omega) (by omega)
    have e17 : (10 : Nat) ^ 17 = 100000000000000000 := by decide
    have c0 : (0 : Int) ≤ (p.length : Int) := by omega
    have hm := mid_len p r c
    have c1 : (p.length : Int) < ((ob (p ++ c :: r)).size : Int) := by rw [ob_size]; omega
    have cw := w64 (n := (p.length : Int) + 1) (by omega) (by omega)
    simp only [impl_readDecimal.l8, impl_readDecimal.g8, c0, c1, cw, and_self, and_true, true_and, decide_true, decide_false, if_true, if_false, mid_get, mid_set, mid_getn, mid_setn, bt_mid, Option.bind_some, Bool.not_true, Bool.not_false, Bool.false_eq_true, Bool.true_eq_false, beq_self_eq_true, bne_self_eq_false, Int.toNat_natCast, List.all_cons]
    by_cases hd : isDig c = true
    · have h2 := isDig_iff.1 hd
      have n1 : ¬ (c.toNat : Int) < 48 := by omega
      have n2 : ¬ (57 : Int) < (c.toNat : Int) := by omega
      have e1 := w64 (n := 10 * (a : Int)) (by omega) (by omega)
      have e2 := w64 (n := 10 * (a : Int) + ((c.toNat - 48 : Nat) : Int)) (by omega) (by omega)
      have := ih (p ++ [c]) (10 * a + (c.toNat - 48)) k (by simp; omega) (by omega) (by rw [List.length_append, List.length_singleton, Nat.pow_succ]; omega)
      rw [mid_snoc, snoc_len, show ((10 * a + (c.toNat - 48) : Nat) : Int) = 10 * (a : Int) + ((c.toNat - 48 : Nat) : Int) by omega] at this
      simp only [n1, n2, and_self, and_true, true_and, decide_true, decide_false, if_true, if_false, mid_get, mid_set, mid_getn, mid_setn, bt_mid, Option.bind_some, Bool.not_true, Bool.not_false, Bool.false_eq_true, Bool.true_eq_false, beq_self_eq_true, bne_self_eq_false, Int.toNat_natCast, u8_sub48 hd, e1, e2, hd, this, valL]
      rfl
    · have hd' : isDig c = false := by simpa using hd
      by_cases h1 : (c.toNat : Int) < 48
      · simp [h1, hd']
      · have h3 : (57 : Int) < (c.toNat : Int) := by
          have : ¬ (48 ≤ c.toNat ∧ c.toNat ≤ 57) := fun e => hd (isDig_iff.2 e)
          omega
        simp [h1, h3, hd']
/-- A text's number: its digits, and whether a sign stands ahead. -/
def okDigs (l : List UInt8) (m : Nat) (neg : Bool) : Bool := decide (l ≠ [] ∧ l.length ≤ m ∧ (l.head? ≠ some 48 ∨ (l.length = 1 ∧ neg = false))) && l.all isDig
theorem okDigs_long {l : List UInt8} {m : Nat} {neg : Bool} (h : m < l.length) : okDigs l m neg = false := by
  unfold okDigs
  rw [decide_eq_false (fun h' => by have := h'.2.1; omega), Bool.false_and]
theorem okDigs_short {c : UInt8} {r : List UInt8} {m : Nat} {neg : Bool} (h : (c :: r).length ≤ m) : okDigs (c :: r) m neg = ((decide (c ≠ 48) || (decide (r = []) && !neg)) && (c :: r).all isDig) := by
  unfold okDigs
  congr 1
  rw [Bool.eq_iff_iff]
  simp only [decide_eq_true_eq, Bool.or_eq_true, Bool.and_eq_true, Bool.not_eq_true', List.head?_cons, ne_eq, Option.some.injEq, List.length_cons]
  constructor
  · rintro ⟨_, _, h1 | ⟨h1, h2⟩⟩
    · exact .inl h1
    · exact .inr ⟨List.length_eq_zero_iff.1 (by omega), h2⟩
  · rintro (h1 | ⟨h1, h2⟩)
    · exact ⟨by simp, by simpa using h, .inl h1⟩
    · exact ⟨by simp, by simpa using h, .inr ⟨by rw [h1]; rfl, h2⟩⟩
def rdD (s : ByteArray) : Int × Bool :=
  if (bl s).head? = some 45 then (if okDigs (bl s).tail 18 true then (-((valL (bl s).tail 0 : Nat) : Int), true) else (0, false))
  else (if okDigs (bl s) 18 false then (((valL (bl s) 0 : Nat) : Int), true) else (0, false))
theorem bt0_ob (c : UInt8) (r : List UInt8) : bt (ob (c :: r)) 0 = (c.toNat : Int) := rfl
theorem impl_readDecimal_f (s : ByteArray) (hs : s.size ≤ 1000000) : impl_readDecimal.f s = some (rdD s) := by
  revert hs
  refine ob_all (P := fun s => s.size ≤ 1000000 → impl_readDecimal.f s = some (rdD s)) ?_ s
  intro l hs
  rw [ob_size] at hs
  unfold impl_readDecimal.f impl_readDecimal.fn impl_readDecimal.top rdD
  rw [bl_ob, ob_size]
  cases l with
  | nil => simp [okDigs]
  | cons c r =>
    simp only [List.length_cons] at hs
    have c0 : (0 : Int) < ((c :: r).length : Int) := by simp only [List.length_cons]; omega
    have cz : (((c :: r).length : Int) == 0) = false := by rw [beq_eq_false_iff_ne]; omega
    simp only [c0, cz, bt0_ob, and_self, and_true, true_and, decide_true, decide_false, if_true, if_false, mid_get, mid_set, mid_getn, mid_setn, bt_mid, Option.bind_some, Bool.not_true, Bool.not_false, Bool.false_eq_true, Bool.true_eq_false, beq_self_eq_true, bne_self_eq_false, Int.toNat_natCast, Int.le_refl, List.head?_cons, Option.some.injEq, List.tail_cons]
    by_cases hc : c = 45
    · subst hc
      have e45 : (((45 : UInt8).toNat : Int) == 45) = true := rfl
      have c1 : (1 : Int) ≤ ((45 :: r : List UInt8).length : Int) := by simp only [List.length_cons]; omega
      have ex : (ob (45 :: r)).extract (1 : Int).toNat (45 :: r : List UInt8).length = ob r := by
        rw [ob_extract, List.take_of_length_le (by omega)]; rfl
      simp only [e45, c1, ex, ob_size, and_self, and_true, true_and, decide_true, decide_false, if_true, if_false, mid_get, mid_set, mid_getn, mid_setn, bt_mid, Option.bind_some, Bool.not_true, Bool.not_false, Bool.false_eq_true, Bool.true_eq_false, beq_self_eq_true, bne_self_eq_false, Int.toNat_natCast, show (0 : Int) ≤ 1 from by omega]
      cases r with
      | nil => simp [okDigs]
      | cons d r =>
        have d0 : (0 : Int) < ((d :: r).length : Int) := by simp only [List.length_cons]; omega
        have dz : (((d :: r).length : Int) == 0) = false := by rw [beq_eq_false_iff_ne]; omega
        have d1 : (1 : Int) < ((45 :: d :: r : List UInt8).length : Int) := by simp only [List.length_cons]; omega
        simp only [d0, dz, d1, bt0_ob, and_self, and_true, true_and, decide_true, decide_false, if_true, if_false, mid_get, mid_set, mid_getn, mid_setn, bt_mid, Option.bind_some, Bool.not_true, Bool.not_false, Bool.false_eq_true, Bool.true_eq_false, beq_self_eq_true, bne_self_eq_false, Int.toNat_natCast]
        by_cases h18 : (18 : Int) < ((d :: r).length : Int)
        · simp only [okDigs_long (show 18 < (d :: r).length by omega), h18, and_self, and_true, true_and, decide_true, decide_false, if_true, if_false, mid_get, mid_set, mid_getn, mid_setn, bt_mid, Option.bind_some, Bool.not_true, Bool.not_false, Bool.false_eq_true, Bool.true_eq_false, beq_self_eq_true, bne_self_eq_false, Int.toNat_natCast]
        · have h18' : (d :: r).length ≤ 18 := by omega
          have hl := impl_readDecimal_l (ob (45 :: d :: r)) (d :: r) [] 0 NN (by simpa using h18') (NN_lt (by omega)) (by simp)
          simp only [List.nil_append, List.length_nil, ob_size] at hl
          have d2 : ((d :: r).length : Int) < ((45 :: d :: r : List UInt8).length : Int) := by simp only [List.length_cons]; omega
          rw [show ((0 : Nat) : Int) = 0 from rfl] at hl
          simp only [d2, if_true] at hl
          simp only [okDigs_short h18', h18, hl, and_self, and_true, true_and, decide_true, decide_false, if_true, if_false, mid_get, mid_set, mid_getn, mid_setn, bt_mid, Option.bind_some, Bool.not_true, Bool.not_false, Bool.false_eq_true, Bool.true_eq_false, beq_self_eq_true, bne_self_eq_false, Int.toNat_natCast]
          by_cases hd : d = 48
          · subst hd
            simp
          · have : ((d.toNat : Int) == 48) = false := by rw [beq_eq_false_iff_ne]; intro e; exact hd ((u8_eq (n := 48) (by omega)).mp (by omega))
            simp only [this, and_self, and_true, true_and, decide_true, decide_false, if_true, if_false, mid_get, mid_set, mid_getn, mid_setn, bt_mid, Option.bind_some, Bool.not_true, Bool.not_false, Bool.false_eq_true, Bool.true_eq_false, beq_self_eq_true, bne_self_eq_false, Int.toNat_natCast]
            cases ha : (d :: r).all isDig <;> simp [hd]
    · have e45 : ((c.toNat : Int) == 45) = false := by rw [beq_eq_false_iff_ne]; intro e; exact hc ((u8_eq (n := 45) (by omega)).mp (by omega))
      simp only [e45, hc, and_self, and_true, true_and, decide_true, decide_false, if_true, if_false, mid_get, mid_set, mid_getn, mid_setn, bt_mid, Option.bind_some, Bool.not_true, Bool.not_false, Bool.false_eq_true, Bool.true_eq_false, beq_self_eq_true, bne_self_eq_false, Int.toNat_natCast]
      by_cases h18 : (18 : Int) < ((c :: r).length : Int)
      · simp only [okDigs_long (show 18 < (c :: r).length by omega), h18, and_self, and_true, true_and, decide_true, decide_false, if_true, if_false, mid_get, mid_set, mid_getn, mid_setn, bt_mid, Option.bind_some, Bool.not_true, Bool.not_false, Bool.false_eq_true, Bool.true_eq_false, beq_self_eq_true, bne_self_eq_false, Int.toNat_natCast]
      · have h18' : (c :: r).length ≤ 18 := by omega
        have hl := impl_readDecimal_l (ob (c :: r)) (c :: r) [] 0 NN (by simpa using h18') (NN_lt (by omega)) (by simp)
        simp only [List.nil_append, List.length_nil, ob_size, Int.lt_irrefl, if_false] at hl
        rw [show ((0 : Nat) : Int) = 0 from rfl] at hl
        simp only [okDigs_short h18', h18, hl, and_self, and_true, true_and, decide_true, decide_false, if_true, if_false, mid_get, mid_set, mid_getn, mid_setn, bt_mid, Option.bind_some, Bool.not_true, Bool.not_false, Bool.false_eq_true, Bool.true_eq_false, beq_self_eq_true, bne_self_eq_false, Int.toNat_natCast]
        by_cases hd : c = 48
        · subst hd
          have e48 : (((48 : UInt8).toNat : Int) == 48) = true := rfl
          simp only [e48, and_self, and_true, true_and, decide_true, decide_false, if_true, if_false, mid_get, mid_set, mid_getn, mid_setn, bt_mid, Option.bind_some, Bool.not_true, Bool.not_false, Bool.false_eq_true, Bool.true_eq_false, beq_self_eq_true, bne_self_eq_false, Int.toNat_natCast]
          cases r with
          | nil =>
            simp only [List.length_cons, List.length_nil]
            cases ha : ([48] : List UInt8).all isDig <;> simp
          | cons d r =>
            have h1 : (1 : Int) < ((48 :: d :: r : List UInt8).length : Int) := by simp only [List.length_cons]; omega
            simp only [h1, and_self, and_true, true_and, decide_true, decide_false, if_true, if_false, mid_get, mid_set, mid_getn, mid_setn, bt_mid, Option.bind_some, Bool.not_true, Bool.not_false, Bool.false_eq_true, Bool.true_eq_false, beq_self_eq_true, bne_self_eq_false, Int.toNat_natCast]
            simp
        · have : ((c.toNat : Int) == 48) = false := by rw [beq_eq_false_iff_ne]; intro e; exact hd ((u8_eq (n := 48) (by omega)).mp (by omega))
          simp only [this, and_self, and_true, true_and, decide_true, decide_false, if_true, if_false, mid_get, mid_set, mid_getn, mid_setn, bt_mid, Option.bind_some, Bool.not_true, Bool.not_false, Bool.false_eq_true, Bool.true_eq_false, beq_self_eq_true, bne_self_eq_false, Int.toNat_natCast]
          cases ha : (c :: r).all isDig <;> simp [hd]
theorem spec_l01Value_l : ∀ (r p : List UInt8) (a k : Nat), p.length + r.length ≤ 13 → r.length < k → a < 10 ^ p.length →
    spec_l01Value.l5 NN k (ob (p ++ r)) (a : Int) (p.length : Int) = if r.all isDig = true then some (((valL r a : Nat) : Int), decide (ob (digs (valL r a)) = ob (p ++ r))) else some (0, false) := by
  intro r
  induction r with
  | nil =>
    intro p a k hb hk ha
    obtain ⟨k, rfl⟩ : ∃ j, k = j + 1 := ⟨k - 1, by omega⟩
    have h18 := pow_le18 (a := p.length) (by simp at hb; omega)
    rw [List.append_nil]
    have c1 : ¬ (p.length : Int) < (p.length : Int) := by omega
    simp only [spec_l01Value.l5, spec_l01Value.g5, ob_size, c1, and_self, and_true, true_and, decide_true, decide_false, if_true, if_false, mid_get, mid_set, mid_getn, mid_setn, bt_mid, Option.bind_some, Bool.not_true, Bool.not_false, Bool.false_eq_true, Bool.true_eq_false, beq_self_eq_true, bne_self_eq_false, Int.toNat_natCast, spec_l01Dec_f (show (0 : Int) ≤ (a : Int) by omega) (show (a : Int) ≤ 1000000000000000000 by omega), decB_nat, ba_beq, List.all_nil, valL]
    rfl
  | cons c r ih =>
    intro p a k hb hk ha
    simp only [List.length_cons] at hb hk
    obtain ⟨k, rfl⟩ : ∃ j, k = j + 1 := ⟨k - 1, by omega⟩
    have h17 : (10 : Nat) ^ p.length ≤ 10 ^ 17 := Nat.pow_le_pow_right (by omega) (by omega)
    have e17 : (10 : Nat) ^ 17 = 100000000000000000 := by decide
    have c0 : (0 : Int) ≤ (p.length : Int) := by omega
    have hm := mid_len p r c
    have c1 : (p.length : Int) < ((ob (p ++ c :: r)).size : Int) := by rw [ob_size]; omega
    have cw := w64 (n := (p.length : Int) + 1) (by omega) (by omega)
    simp only [spec_l01Value.l5, spec_l01Value.g5, c0, c1, cw, and_self, and_true, true_and, decide_true, decide_false, if_true, if_false, mid_get, mid_set, mid_getn, mid_setn, bt_mid, Option.bind_some, Bool.not_true, Bool.not_false, Bool.false_eq_true, Bool.true_eq_false, beq_self_eq_true, bne_self_eq_false, Int.toNat_natCast, List.all_cons]
    by_cases hd : isDig c = true
    · have h2 := isDig_iff.1 hd
      have n1 : ¬ (c.toNat : Int) < 48 := by omega
      have n2 : ¬ (57 : Int) < (c.toNat : Int) := by omega
      have e1 := w64 (n := 10 * (a : Int)) (by omega) (by omega)
      have e2 := w64 (n := 10 * (a : Int) + ((c.toNat - 48 : Nat) : Int)) (by omega) (by omega)
      have := ih (p ++ [c]) (10 * a + (c.toNat - 48)) k (by simp; omega) (by omega) (by rw [List.length_append, List.length_singleton, Nat.pow_succ]; omega)
      rw [mid_snoc, snoc_len, show ((10 * a + (c.toNat - 48) : Nat) : Int) = 10 * (a : Int) + ((c.toNat - 48 : Nat) : Int) by omega] at this
      simp only [n1, n2, and_self, and_true, true_and, decide_true, decide_false, if_true, if_false, mid_get, mid_set, mid_getn, mid_setn, bt_mid, Option.bind_some, Bool.not_true, Bool.not_false, Bool.false_eq_true, Bool.true_eq_false, beq_self_eq_true, bne_self_eq_false, Int.toNat_natCast, u8_sub48 hd, e1, e2, hd, this, valL]
      rfl
    · have hd' : isDig c = false := by simpa using hd
      by_cases h1 : (c.toNat : Int) < 48
      · simp [h1, hd']
      · have h3 : (57 : Int) < (c.toNat : Int) := by
          have : ¬ (48 ≤ c.toNat ∧ c.toNat ≤ 57) := fun e => hd (isDig_iff.2 e)
          omega
        simp [h1, h3, hd']
def rdV (s : ByteArray) : Int × Bool := if 1 ≤ s.size ∧ s.size ≤ 13 ∧ (bl s).all isDig = true then (((valL (bl s) 0 : Nat) : Int), decide (digs (valL (bl s) 0) = bl s)) else (0, false)
theorem spec_l01Value_f (s : ByteArray) (hs : s.size ≤ 1000000) : spec_l01Value.f s = some (rdV s) := by
  unfold spec_l01Value.f spec_l01Value.fn spec_l01Value.top rdV
  by_cases h1 : (s.size : Int) < 1
  · have : ¬ 1 ≤ s.size := by omega
    simp [h1, this]
  · by_cases h13 : (13 : Int) < (s.size : Int)
    · have : ¬ s.size ≤ 13 := by omega
      simp [h1, h13, this]
    · have e1 : 1 ≤ s.size := by omega
      have e2 : s.size ≤ 13 := by omega
      have := spec_l01Value_l (bl s) [] 0 NN (by simpa [bl_length] using e2) (by rw [bl_length]; exact NN_lt (by omega)) (by simp)
      simp only [List.nil_append, ob_bl, List.length_nil] at this
      rw [show ((0 : Nat) : Int) = 0 from rfl] at this
      simp only [h1, h13, this, e1, e2, and_self, and_true, true_and, decide_true, decide_false, if_true, if_false, mid_get, mid_set, mid_getn, mid_setn, bt_mid, Option.bind_some, Bool.not_true, Bool.not_false, Bool.false_eq_true, Bool.true_eq_false, beq_self_eq_true, bne_self_eq_false, Int.toNat_natCast]
      have e3 : decide (ob (digs (valL (bl s) 0)) = s) = decide (digs (valL (bl s) 0) = bl s) := by
        congr 1
        exact propext ⟨fun h => by have := congrArg bl h; rwa [bl_ob] at this, fun h => by rw [h, ob_bl]⟩
      cases ha : (bl s).all isDig
      · simp
      · simp only [if_true]
        congr 2
/-- both readers, within a range -/
theorem rdV_rdD {s : ByteArray} (h : (rdV s).2 = true) : rdD s = rdV s := by
  unfold rdV at h ⊢
  split at h
  · rename_i hc
    rw [if_pos hc]
    obtain ⟨h1, h2, h3⟩ := hc
    simp only [decide_eq_true_eq] at h
    have hne : bl s ≠ [] := by intro e; have := bl_length s; rw [e] at this; simp at this; omega
    obtain ⟨c, r, e⟩ : ∃ c r, bl s = c :: r := by
      cases hb : bl s with
      | nil => exact absurd hb hne
      | cons c r => exact ⟨c, r, rfl⟩
    have hd : isDig c = true := by rw [e] at h3; simp at h3; exact h3.1
    have hdi := isDig_iff.1 hd
    have h45 : ¬ (bl s).head? = some 45 := by
      rw [e]; simp only [List.head?_cons, Option.some.injEq]
      intro hc; subst hc
      have : (45 : UInt8).toNat = 45 := rfl
      omega
    have hz : (bl s).head? ≠ some 48 ∨ ((bl s).length = 1 ∧ false = false) := by
      by_cases hv : valL (bl s) 0 = 0
      · right
        rw [hv, digs_small (by omega)] at h
        rw [← h]; exact ⟨rfl, rfl⟩
      · left
        intro hh
        rw [← h] at hh
        exact digs_head hv 48 hh rfl
    have hok : okDigs (bl s) 18 false = true := by
      unfold okDigs
      rw [h3, Bool.and_true]
      exact decide_eq_true ⟨hne, by rw [bl_length]; omega, hz⟩
    unfold rdD
    rw [if_neg h45, if_pos hok, decide_eq_true h]
  · cases h
theorem rdD_rdV {s : ByteArray} (h : (rdD s).2 = true) (h0 : 0 ≤ (rdD s).1) (h1 : (rdD s).1 ≤ 1000000000000) (hn : (rdD s).1 = 0 → (bl s).head? ≠ some 45) : rdV s = rdD s := by
  unfold rdD at h h0 h1 hn ⊢
  split at h
  · rename_i h45
    split at h
    · rename_i hok
      rw [if_pos h45, if_pos hok] at h0 hn
      simp only at h0 hn
      exact absurd h45 (hn (by omega))
    · cases h
  · rename_i h45
    split at h
    · rename_i hok
      rw [if_neg h45, if_pos hok] at h0 h1 hn ⊢
      simp only at h0 h1
      unfold okDigs at hok
      simp only [Bool.and_eq_true, decide_eq_true_eq] at hok
      obtain ⟨⟨k1, k2, k3⟩, k4⟩ := hok
      have hd : ∀ c ∈ bl s, isDig c = true := List.all_eq_true.1 k4
      have hdig : digs (valL (bl s) 0) = bl s := digs_valL _ k1 hd (by
        rcases k3 with k | k
        · exact .inr k
        · exact .inl k.1)
      have hlen : (bl s).length ≤ 13 := by
        rw [← hdig]
        exact (digs_len 12 _ (by have : (10 : Nat) ^ (12 + 1) = 10000000000000 := by decide
                                 omega)).1
      have hl0 : (bl s).length ≠ 0 := fun e => k1 (List.length_eq_zero_iff.1 e)
      rw [bl_length] at hlen hl0
      unfold rdV
      rw [if_pos ⟨by omega, hlen, k4⟩, decide_eq_true hdig]
    · cases h
theorem rdD_neg0 {s : ByteArray} (h : (rdD s).2 = true) (h0 : (rdD s).1 = 0) : (bl s).head? ≠ some 45 := by
  intro h45
  unfold rdD at h h0
  rw [if_pos h45] at h h0
  split at h
  · rename_i hok
    rw [if_pos hok] at h0
    simp only at h0
    unfold okDigs at hok
    simp only [Bool.and_eq_true, decide_eq_true_eq] at hok
    obtain ⟨⟨k1, k2, k3⟩, k4⟩ := hok
    have hdig : digs (valL (bl s).tail 0) = (bl s).tail := digs_valL _ k1 (List.all_eq_true.1 k4) (by
      rcases k3 with k | k
      · exact .inr k
      · exact .inl k.1)
    have hv : valL (bl s).tail 0 = 0 := by omega
    rw [hv, digs_small (by omega)] at hdig
    rcases k3 with k | k
    · rw [← hdig] at k; exact k rfl
    · exact absurd k.2 (by simp)
  · cases h
theorem rd_back {s : ByteArray} (h : (rdD s).2 = true) (h0 : 0 ≤ (rdD s).1) (h1 : (rdD s).1 ≤ 1000000000000) : rdV s = rdD s := rdD_rdV h h0 h1 (rdD_neg0 h)
end Go.Pl

namespace Go.Pl
open Go.Ev
set_option linter.unusedVariables false
set_option linter.unusedSimpArgs false
open Classical in
/-- the entries that are read, and the bytes of the rest -/
noncomputable def rdJ : Nat → ByteArray → Int → List (Int × ByteArray) × Int
  | 0, s, _ => ([], s.size)
  | d + 1, s, c => if stops s c then ([], s.size) else (theE s :: (rdJ d (s.extract (eol s + 1) s.size) (ckE c (theE s))).1, (rdJ d (s.extract (eol s + 1) s.size) (ckE c (theE s))).2)
theorem rdJ_stop {d : Nat} {s : ByteArray} {c : Int} (h : stops s c) : rdJ (d + 1) s c = ([], (s.size : Int)) := by rw [rdJ, if_pos h]
theorem rdJ_go {d : Nat} {s : ByteArray} {c : Int} (h : ¬ stops s c) : rdJ (d + 1) s c = (theE s :: (rdJ d (s.extract (eol s + 1) s.size) (ckE c (theE s))).1, (rdJ d (s.extract (eol s + 1) s.size) (ckE c (theE s))).2) := by rw [rdJ, if_neg h]
theorem nl_at (s : ByteArray) (hlt : eol s < (bl s).length) : (bl s)[eol s] = 10 := by
  have key : ∀ (l : List UInt8) (h : nlL l < l.length), l[nlL l] = 10 := by
    intro l
    induction l with
    | nil => intro h; simp at h
    | cons x r ih =>
      intro h
      by_cases hx : x = 10
      · simp [nlL, hx]
      · have hz : nlL (x :: r) = nlL r + 1 := by simp [nlL, hx]
        simp only [hz, List.length_cons] at h
        simp only [hz, List.getElem_cons_succ]
        exact ih (by omega)
  exact key _ hlt
theorem readers_val : ∀ (d : Nat) (s : ByteArray), s.size ≤ 1000000 → ∀ (out : List (Int × ByteArray)) (c : Int) (k1 k2 : Nat), d < k1 → d < k2 → 0 ≤ c → c ≤ 10000 → out.length + d = 20 →
    impl_readJournal.l3 NN k1 s c out = some (out ++ (rdJ d s c).1, (rdJ d s c).2) ∧ spec_l33Read.l2 NN k2 s c out = some (out ++ (rdJ d s c).1, (rdJ d s c).2) := by
  intro d
  induction d with
  | zero =>
    intro s hs out c k1 k2 hk1 hk2 h0 h1 hd
    obtain ⟨k1, rfl⟩ : ∃ j, k1 = j + 1 := ⟨k1 - 1, by omega⟩
    obtain ⟨k2, rfl⟩ : ∃ j, k2 = j + 1 := ⟨k2 - 1, by omega⟩
    have hn : ¬ (out.length : Int) < 20 := by omega
    refine ⟨?_, ?_⟩
    · simp only [impl_readJournal.l3, impl_readJournal.g3, hn, rdJ, List.append_nil, and_self, and_true, true_and, decide_true, decide_false, if_true, if_false, mid_get, mid_set, mid_getn, mid_setn, bt_mid, Option.bind_some, Bool.not_true, Bool.not_false, Bool.false_eq_true, Bool.true_eq_false, beq_self_eq_true, bne_self_eq_false, Int.toNat_natCast]
    · simp only [spec_l33Read.l2, spec_l33Read.g2, hn, rdJ, List.append_nil, and_self, and_true, true_and, decide_true, decide_false, if_true, if_false, mid_get, mid_set, mid_getn, mid_setn, bt_mid, Option.bind_some, Bool.not_true, Bool.not_false, Bool.false_eq_true, Bool.true_eq_false, beq_self_eq_true, bne_self_eq_false, Int.toNat_natCast]
  | succ d ih =>
    intro s hs out c k1 k2 hk1 hk2 h0 h1 hd
    obtain ⟨k1, rfl⟩ : ∃ j, k1 = j + 1 := ⟨k1 - 1, by omega⟩
    obtain ⟨k2, rfl⟩ : ∃ j, k2 = j + 1 := ⟨k2 - 1, by omega⟩
    have he := eol_le s
    have hn : (out.length : Int) < 20 := by omega
    obtain ⟨k3, hl⟩ := impl_readJournal_l s hs (impl_readJournal.l3 NN k1) out c s.size 0 (by omega) NN (NN_lt (by omega))
    rw [show ((0 : Nat) : Int) = 0 from rfl, List.drop_zero, Nat.zero_add, show nlL (bl s) = eol s from rfl] at hl
    have himp : impl_readJournal.l3 NN (k1 + 1) s c out = impl_readJournal.l5 NN (impl_readJournal.l3 NN k1) (k3 + 1) s c (eol s) out := by
      conv => lhs; simp only [impl_readJournal.l3, impl_readJournal.g3, hn, and_self, and_true, true_and, decide_true, decide_false, if_true, if_false, mid_get, mid_set, mid_getn, mid_setn, bt_mid, Option.bind_some, Bool.not_true, Bool.not_false, Bool.false_eq_true, Bool.true_eq_false, beq_self_eq_true, bne_self_eq_false, Int.toNat_natCast]
      exact hl
    have hspec : spec_l33Read.l2 NN (k2 + 1) s c out = (spec_l33Next.f s c).bind fun r1 => if ((r1.2.2 : Int) == 0) = true then some (out, (s.size : Int)) else if out.length + ([r1.1]).length < room 24 then (if (0 : Int) ≤ r1.2.2 ∧ (r1.2.2 : Int) ≤ s.size then spec_l33Read.l2 NN k2 (s.extract (r1.2.2 : Int).toNat s.size) r1.2.1 (out ++ ([r1.1])) else none) else none := by
      simp only [spec_l33Read.l2, spec_l33Read.g2, hn, and_self, and_true, true_and, decide_true, decide_false, if_true, if_false, mid_get, mid_set, mid_getn, mid_setn, bt_mid, Option.bind_some, Bool.not_true, Bool.not_false, Bool.false_eq_true, Bool.true_eq_false, beq_self_eq_true, bne_self_eq_false, Int.toNat_natCast]
    have hroom : ∀ e : Int × ByteArray, out.length + [e].length < room 24 := fun e => by rw [room24]; simp; omega
    rw [himp, hspec, spec_l33Next_f s hs h0 h1]
    simp only [Option.bind_some]
    by_cases e1 : eol s = s.size
    · have hst : stops s c := .inl e1
      rw [if_pos hst, rdJ_stop hst]
      refine ⟨?_, by simp⟩
      simp [impl_readJournal.l5, impl_readJournal.g5, e1]
    have c0 : (0 : Int) ≤ (eol s : Int) := by omega
    have c1 : (eol s : Int) < (s.size : Int) := by omega
    have c2 : (eol s : Int) ≤ (s.size : Int) := by omega
    have hlt : eol s < (bl s).length := by rw [bl_length]; omega
    have hnl := nl_at s hlt
    have h10 : (bt s (eol s : Int) != 10) = false := by rw [bt_nat s (by omega), hnl]; rfl
    have ez : ((eol s : Int) == (s.size : Int)) = false := by rw [beq_eq_false_iff_ne]; omega
    have cw := w64 (n := (eol s : Int) + 1) (by omega) (by omega)
    have d3 : (0 : Int) ≤ (eol s : Int) + 1 ∧ (eol s : Int) + 1 ≤ (s.size : Int) := by omega
    have d4 : ((eol s : Int) + 1).toNat = eol s + 1 := by omega
    simp only [impl_readJournal.l5, impl_readJournal.g5, c0, c1, c2, h10, ez, cw, and_self, and_true, true_and, decide_true, decide_false, if_true, if_false, mid_get, mid_set, mid_getn, mid_setn, bt_mid, Option.bind_some, Bool.not_true, Bool.not_false, Bool.false_eq_true, Bool.true_eq_false, beq_self_eq_true, bne_self_eq_false, Int.toNat_natCast, impl_readEntry_f s hs (show eol s < s.size by omega), d3.1, d3.2, d4]
    by_cases e2 : blank s < 2
    · have hst : stops s c := .inr (.inl e2)
      rw [if_pos hst, if_pos e2, rdJ_stop hst]
      exact ⟨by simp, by simp⟩
    have hin := theE_in s hs
    have hr := @ckE_range c (theE s)
    have hr2 : ckE c (theE s) ≤ 10000 := by omega
    rw [if_neg e2]
    simp only [impl_nextCheck_f (theE s) hin h0 h1, impl_entryLine_f (theE s) hin.2.2 hr.1 hr2, and_self, and_true, true_and, decide_true, decide_false, if_true, if_false, mid_get, mid_set, mid_getn, mid_setn, bt_mid, Option.bind_some, Bool.not_true, Bool.not_false, Bool.false_eq_true, Bool.true_eq_false, beq_self_eq_true, bne_self_eq_false, Int.toNat_natCast, ba_beq]
    cases e3 : entB (theE s)
    · have hst : stops s c := .inr (.inr (.inl e3))
      rw [if_pos hst, rdJ_stop hst]
      exact ⟨by simp, by simp⟩
    by_cases e4 : lnB (theE s) (ckE c (theE s)) = s.extract 0 (eol s + 1)
    · have hst : ¬ stops s c := by
        rintro (h | h | h | h)
        · exact e1 h
        · exact e2 h
        · rw [e3] at h; cases h
        · exact h e4
      have hsz2 := size_extract_le s (eol s + 1) s.size
      obtain ⟨i1, i2⟩ := ih (s.extract (eol s + 1) s.size) (by omega) (out ++ [theE s]) (ckE c (theE s)) k1 k2 (by omega) (by omega) hr.1 (by omega) (by simp; omega)
      rw [if_neg hst, rdJ_go hst]
      have ez2 : (((eol s : Int) + 1) == 0) = false := by rw [beq_eq_false_iff_ne]; omega
      rw [List.append_assoc] at i1 i2
      refine ⟨?_, ?_⟩
      · simp only [e4, and_self, and_true, true_and, decide_true, decide_false, if_true, if_false, mid_get, mid_set, mid_getn, mid_setn, bt_mid, Option.bind_some, Bool.not_true, Bool.not_false, Bool.false_eq_true, Bool.true_eq_false, beq_self_eq_true, bne_self_eq_false, Int.toNat_natCast, hroom]
        exact i1
      · simp only [ez2, and_self, and_true, true_and, decide_true, decide_false, if_true, if_false, mid_get, mid_set, mid_getn, mid_setn, bt_mid, Option.bind_some, Bool.not_true, Bool.not_false, Bool.false_eq_true, Bool.true_eq_false, beq_self_eq_true, bne_self_eq_false, Int.toNat_natCast, hroom, d3.1, d3.2, d4]
        exact i2
    · have hst : stops s c := .inr (.inr (.inr e4))
      rw [if_pos hst, rdJ_stop hst]
      exact ⟨by simp [e4], by simp⟩
/-- what is read from a text -/
noncomputable def readJ (s : ByteArray) : List (Int × ByteArray) × Int := rdJ 20 s 1
theorem read_both (s : ByteArray) (hs : s.size ≤ 1000000) : impl_readJournal.f s = some (readJ s) ∧ spec_l33Read.f s = some (readJ s) :=
  readers_val 20 s hs [] 1 NN NN (NN_lt (by omega)) (NN_lt (by omega)) (by omega) (by omega) (by simp)
theorem rdJ_fact : ∀ (d : Nat) (s : ByteArray) (c : Int), (rdJ d s c).1.length ≤ d ∧ 0 ≤ (rdJ d s c).2 ∧ ∀ x ∈ (rdJ d s c).1, entB x = true := by
  intro d
  induction d with
  | zero => intro s c; exact ⟨by simp [rdJ], by simp [rdJ], by simp [rdJ]⟩
  | succ d ih =>
    intro s c
    by_cases h : stops s c
    · rw [rdJ_stop h]; exact ⟨by simp, by simp only; omega, by simp⟩
    · rw [rdJ_go h]
      have i := ih (s.extract (eol s + 1) s.size) (ckE c (theE s))
      refine ⟨by simp only [List.length_cons]; omega, i.2.1, fun x hx => ?_⟩
      rcases List.mem_cons.1 hx with rfl | hx
      · cases he : entB (theE s)
        · exact absurd (.inr (.inr (.inl he))) h
        · rfl
      · exact i.2.2 x hx
/-- the lines of entries behind a check -/
def jB : Int → List (Int × ByteArray) → ByteArray
  | _, [] => ⟨#[]⟩
  | c, e :: l => lnB e (ckE c e) ++ jB (ckE c e) l
theorem ba_assoc (a b c : ByteArray) : a ++ b ++ c = a ++ (b ++ c) := by apply bl_inj; simp only [bl_append, List.append_assoc]
theorem jText_eq (l : List (Int × ByteArray)) : jText l = jB 1 l := by
  have key : ∀ (l : List (Int × ByteArray)) (t : ByteArray) (c : Int), (l.foldl jF (t, c)).1 = t ++ jB c l := by
    intro l
    induction l with
    | nil => intro t c; apply bl_inj; simp [jB, bl_append, bl_lit]
    | cons e l ih =>
      intro t c
      rw [List.foldl_cons]
      show (l.foldl jF (t ++ lnB e (ckE c e), ckE c e)).1 = _
      rw [ih, ba_assoc]; rfl
  unfold jText
  rw [key]
  apply bl_inj; simp [bl_append, bl_lit]
/-- a line without its end -/
def lnP (e : Int × ByteArray) (c : Int) : List UInt8 := ([UInt8.ofNat e.1.toNat, 32] ++ bl e.2) ++ 32 :: digs c.toNat
theorem lnB_bl (e : Int × ByteArray) {c : Int} (h : 0 ≤ c) : bl (lnB e c) = lnP e c ++ [10] := by
  unfold lnB lnP decB
  rw [if_neg (by omega)]
  simp only [bl_append, bytesOf_ob, bl_ob, bl_lit, List.map_cons, List.map_nil]
  simp
theorem nlL_app : ∀ (p r : List UInt8), (∀ x ∈ p, x ≠ 10) → nlL (p ++ 10 :: r) = p.length := by
  intro p
  induction p with
  | nil => intro r _; simp [nlL]
  | cons a p ih =>
    intro r h
    have ha := h a (by simp)
    simp only [List.cons_append, nlL, ha, if_false, ih r (fun x hx => h x (by simp [hx])), List.length_cons]
theorem nlL_none : ∀ (p : List UInt8), (∀ x ∈ p, x ≠ 10) → nlL p = p.length := by
  intro p
  induction p with
  | nil => intro _; rfl
  | cons a p ih =>
    intro h
    have ha := h a (by simp)
    simp only [nlL, ha, if_false, ih (fun x hx => h x (by simp [hx])), List.length_cons]
theorem lb_app : ∀ (p r : List UInt8) (i b : Int), lb (p ++ r) i b = lb r (i + p.length) (lb p i b) := by
  intro p
  induction p with
  | nil => intro r i b; simp [lb]
  | cons a p ih =>
    intro r i b
    simp only [List.cons_append, lb, ih, List.length_cons]
    rw [show i + 1 + (p.length : Int) = i + ((p.length + 1 : Nat) : Int) by omega]
theorem lb_none : ∀ (p : List UInt8) (i b : Int), (∀ x ∈ p, x ≠ 32) → lb p i b = b := by
  intro p
  induction p with
  | nil => intro i b _; rfl
  | cons a p ih =>
    intro i b h
    have ha := h a (by simp)
    simp only [lb, ha, if_false]
    exact ih _ _ (fun x hx => h x (by simp [hx]))
theorem entB_iff {e : Int × ByteArray} (h : entB e = true) : 97 ≤ e.1 ∧ e.1 ≤ 122 ∧ e.2.size ≤ 40 ∧ ∀ c ∈ bl e.2, 32 ≤ c.toNat ∧ c.toNat ≤ 126 := by
  unfold entB at h
  simp only [Bool.and_eq_true, decide_eq_true_eq] at h
  refine ⟨h.1.1.1, h.1.1.2, h.1.2, fun c hc => ?_⟩
  have := List.all_eq_true.1 h.2 c hc
  unfold entC at this
  simp at this
  omega
theorem u8n {a : UInt8} {n : Nat} (hn : n < 256) (h : a.toNat ≠ n) : a ≠ UInt8.ofNat n := fun e => h (by rw [e]; exact Nat.mod_eq_of_lt hn)
theorem lnP_ten {e : Int × ByteArray} (he : entB e = true) (c : Int) : ∀ x ∈ lnP e c, x ≠ 10 := by
  have hi := entB_iff he
  intro x hx
  unfold lnP at hx
  simp only [List.mem_append, List.mem_cons, List.not_mem_nil, or_false] at hx
  rcases hx with (h | h) | h | h
  · rcases h with h | h
    · rw [h]
      refine u8n (n := 10) (by omega) ?_
      rw [show (UInt8.ofNat e.1.toNat).toNat = e.1.toNat from Nat.mod_eq_of_lt (by omega)]
      omega
    · rw [h]; decide
  · have := hi.2.2.2 x h
    exact u8n (n := 10) (by omega) (by omega)
  · rw [h]; decide
  · have := isDig_iff.1 (digs_digits _ x h)
    exact u8n (n := 10) (by omega) (by omega)
theorem lnP_blank (e : Int × ByteArray) (c : Int) (h32 : UInt8.ofNat e.1.toNat ≠ 32) : lb (lnP e c) 0 0 = 2 + (e.2.size : Int) := by
  unfold lnP
  rw [lb_app]
  simp only [lb, if_true]
  rw [lb_none _ _ _ (fun x hx => by
    have := isDig_iff.1 (digs_digits _ x hx)
    exact u8n (n := 32) (by omega) (by omega))]
  simp only [List.length_append, List.length_cons, List.length_nil, bl_length]
  omega
/-- a line that is written is read -/
theorem line_go {e : Int × ByteArray} (he : entB e = true) {c : Int} (t : ByteArray) : ¬ stops (lnB e (ckE c e) ++ t) c ∧ theE (lnB e (ckE c e) ++ t) = e ∧ (lnB e (ckE c e) ++ t).extract (eol (lnB e (ckE c e) ++ t) + 1) (lnB e (ckE c e) ++ t).size = t := by
  have hi := entB_iff he
  have hc := (@ckE_range c e)
  have hK : (UInt8.ofNat e.1.toNat).toNat = e.1.toNat := Nat.mod_eq_of_lt (by omega)
  have hbl : bl (lnB e (ckE c e) ++ t) = lnP e (ckE c e) ++ 10 :: bl t := by rw [bl_append, lnB_bl e hc.1, List.append_assoc]; rfl
  have hten := lnP_ten he (ckE c e)
  have heol : eol (lnB e (ckE c e) ++ t) = (lnP e (ckE c e)).length := by unfold eol; rw [hbl, nlL_app _ _ hten]
  have hsz : (lnB e (ckE c e) ++ t).size = (lnP e (ckE c e)).length + 1 + t.size := by rw [← bl_length, hbl]; simp [bl_length]; omega
  have hbk : blank (lnB e (ckE c e) ++ t) = 2 + (e.2.size : Int) := by
    unfold blank
    rw [heol, hbl, List.take_left' rfl]
    exact lnP_blank e _ (u8n (n := 32) (by omega) (by rw [hK]; omega))
  have hE : theE (lnB e (ckE c e) ++ t) = e := by
    unfold theE
    rw [hbk, show (2 + (e.2.size : Int)).toNat = 2 + e.2.size by omega]
    have h1 : bt (lnB e (ckE c e) ++ t) 0 = e.1 := by
      rw [← ob_bl (lnB e (ckE c e) ++ t), hbl, bt_ob]
      unfold lnP
      simp [hK]; omega
    have h2 : (lnB e (ckE c e) ++ t).extract 2 (2 + e.2.size) = e.2 := by
      apply bl_inj
      rw [bl_extract, hbl]
      unfold lnP
      rw [List.append_assoc, List.append_assoc]
      have : (2 + e.2.size) = [UInt8.ofNat e.1.toNat, 32].length + e.2.size := rfl
      rw [this, List.take_length_add_append, show (2 : Nat) = [UInt8.ofNat e.1.toNat, 32].length from rfl, List.drop_left' rfl, ← bl_length, List.take_left' rfl]
    rw [h1, h2]
  refine ⟨?_, hE, ?_⟩
  · rintro (h | h | h | h)
    · omega
    · omega
    · rw [hE, he] at h; cases h
    · rw [hE] at h
      apply h
      apply bl_inj
      rw [bl_extract, List.drop_zero, heol, hbl, lnB_bl e hc.1]
      rw [show lnP e (ckE c e) ++ 10 :: bl t = (lnP e (ckE c e) ++ [10]) ++ bl t by simp, List.take_left' (by simp)]
  · apply bl_inj
    rw [bl_extract, heol, ← bl_length, List.take_length, hbl, show lnP e (ckE c e) ++ 10 :: bl t = (lnP e (ckE c e) ++ [10]) ++ bl t by simp, List.drop_left' (by simp)]
theorem rdJ_line {e : Int × ByteArray} (he : entB e = true) (d : Nat) (c : Int) (t : ByteArray) : rdJ (d + 1) (lnB e (ckE c e) ++ t) c = (e :: (rdJ d t (ckE c e)).1, (rdJ d t (ckE c e)).2) := by
  obtain ⟨h1, h2, h3⟩ := @line_go e he c t
  rw [rdJ_go h1, h2, h3]
theorem rdJ_all : ∀ (l : List (Int × ByteArray)) (d : Nat) (c : Int), l.length ≤ d → (∀ x ∈ l, entB x = true) → rdJ d (jB c l) c = (l, 0) := by
  intro l
  induction l with
  | nil =>
    intro d c _ _
    cases d with
    | zero => rfl
    | succ d => exact rdJ_stop (.inl rfl)
  | cons e l ih =>
    intro d c hd hl
    obtain ⟨d, rfl⟩ : ∃ j, d = j + 1 := ⟨d - 1, by simp only [List.length_cons] at hd; omega⟩
    rw [jB, rdJ_line (hl e (by simp)), ih d _ (by simp only [List.length_cons] at hd; omega) (fun x hx => hl x (by simp [hx]))]
/-- how many lines end in a list of bytes -/
def tens : List UInt8 → Nat
  | [] => 0
  | c :: r => (if c = 10 then 1 else 0) + tens r
theorem tens_app : ∀ (p r : List UInt8), tens (p ++ r) = tens p + tens r := by
  intro p
  induction p with
  | nil => intro r; simp [tens]
  | cons a p ih => intro r; simp only [List.cons_append, tens, ih]; omega
theorem tens_none : ∀ (p : List UInt8), (∀ x ∈ p, x ≠ 10) → tens p = 0 := by
  intro p
  induction p with
  | nil => intro _; rfl
  | cons a p ih =>
    intro h
    have ha := h a (by simp)
    simp only [tens, ha, if_false, ih (fun x hx => h x (by simp [hx]))]
/-- a journal that is cut off -/
theorem rdJ_cut : ∀ (l : List (Int × ByteArray)) (d : Nat) (c : Int) (n : Nat), l.length ≤ d → (∀ x ∈ l, entB x = true) → (rdJ d ((jB c l).extract 0 n) c).1 = l.take (tens ((bl (jB c l)).take n)) ∧ tens ((bl (jB c l)).take n) ≤ l.length := by
  intro l
  induction l with
  | nil =>
    intro d c n _ _
    have hb : bl (jB c []) = [] := rfl
    rw [hb, List.take_nil]
    refine ⟨?_, by simp [tens]⟩
    have hx : (jB c []).extract 0 n = ⟨#[]⟩ := by apply bl_inj; rw [bl_extract, hb]; simp [bl_lit]
    rw [hx]
    cases d with
    | zero => rfl
    | succ d => rw [rdJ_stop (.inl rfl)]
  | cons e l ih =>
    intro d c n hd hl
    obtain ⟨d, rfl⟩ : ∃ j, d = j + 1 := ⟨d - 1, by simp only [List.length_cons] at hd; omega⟩
    have he := hl e (by simp)
    have hc := (@ckE_range c e)
    have hten := lnP_ten he (ckE c e)
    have hbl : bl (jB c (e :: l)) = lnP e (ckE c e) ++ 10 :: bl (jB (ckE c e) l) := by rw [jB, bl_append, lnB_bl e hc.1, List.append_assoc]; rfl
    by_cases hn : n ≤ (lnP e (ckE c e)).length
    · have ht : (bl (jB c (e :: l))).take n = (lnP e (ckE c e)).take n := by rw [hbl, List.take_append_of_le_length hn]
      have hno : ∀ x ∈ (lnP e (ckE c e)).take n, x ≠ 10 := fun x hx => hten x (List.mem_of_mem_take hx)
      rw [ht, tens_none _ hno]
      refine ⟨?_, by omega⟩
      have hs : stops ((jB c (e :: l)).extract 0 n) c := by
        refine .inl ?_
        unfold eol
        rw [bl_extract, List.drop_zero, ht, nlL_none _ hno, ← ht, ← bl_length, bl_extract, List.drop_zero]
      rw [rdJ_stop hs]; rfl
    · obtain ⟨m, hm⟩ : ∃ m, n = (lnP e (ckE c e)).length + 1 + m := ⟨n - ((lnP e (ckE c e)).length + 1), by omega⟩
      have ht : (bl (jB c (e :: l))).take n = lnP e (ckE c e) ++ 10 :: (bl (jB (ckE c e) l)).take m := by
        rw [hbl, hm, show lnP e (ckE c e) ++ 10 :: bl (jB (ckE c e) l) = (lnP e (ckE c e) ++ [10]) ++ bl (jB (ckE c e) l) by simp, show (lnP e (ckE c e)).length + 1 + m = (lnP e (ckE c e) ++ [10]).length + m by simp, List.take_length_add_append]
        simp
      have hx : (jB c (e :: l)).extract 0 n = lnB e (ckE c e) ++ (jB (ckE c e) l).extract 0 m := by
        apply bl_inj
        rw [bl_extract, List.drop_zero, ht, bl_append, lnB_bl e hc.1, bl_extract, List.drop_zero]; simp
      obtain ⟨i1, i2⟩ := ih d (ckE c e) m (by simp only [List.length_cons] at hd; omega) (fun x hx => hl x (by simp [hx]))
      have htn : tens (lnP e (ckE c e) ++ 10 :: (bl (jB (ckE c e) l)).take m) = tens ((bl (jB (ckE c e) l)).take m) + 1 := by
        rw [tens_app, tens_none _ hten]; simp only [tens, if_true]; rw [Nat.zero_add, Nat.add_comm]
      rw [ht, htn, hx, rdJ_line he, i1]
      exact ⟨by rw [List.take_succ_cons], by simp only [List.length_cons]; omega⟩
/-- what was read, written anew, is a beginning of the text -/
theorem rdJ_size : ∀ (d : Nat) (s : ByteArray) (c : Int), ((jB c (rdJ d s c).1).size : Int) + (rdJ d s c).2 = s.size := by
  intro d
  induction d with
  | zero => intro s c; simp only [rdJ, jB]; exact Int.zero_add _
  | succ d ih =>
    intro s c
    by_cases h : stops s c
    · rw [rdJ_stop h]; simp only [jB]; exact Int.zero_add _
    · rw [rdJ_go h]
      have i := ih (s.extract (eol s + 1) s.size) (ckE c (theE s))
      have hle := eol_le s
      have h1 : ¬ eol s = s.size := fun e => h (.inl e)
      have h4 : lnB (theE s) (ckE c (theE s)) = s.extract 0 (eol s + 1) := Classical.byContradiction fun e => h (.inr (.inr (.inr e)))
      have z1 : (s.extract 0 (eol s + 1)).size = eol s + 1 := size_extract0 s (by omega)
      have z2 : (s.extract (eol s + 1) s.size).size = s.size - (eol s + 1) := by rw [← bl_length, bl_extract]; simp [bl_length]
      simp only [jB]
      rw [← bl_length, bl_append, List.length_append, bl_length, bl_length, h4, z1]
      omega
theorem jB_take : ∀ (l : List (Int × ByteArray)) (c : Int) (n : Nat), (jB c (l.take n)).size ≤ (jB c l).size := by
  intro l
  induction l with
  | nil => intro c n; simp
  | cons e l ih =>
    intro c n
    cases n with
    | zero => exact Nat.zero_le _
    | succ n =>
      rw [List.take_succ_cons]
      simp only [jB]
      have := ih (ckE c e) n
      rw [← bl_length, ← bl_length, bl_append, bl_append, List.length_append, List.length_append, bl_length, bl_length, bl_length]
      omega
end Go.Pl

namespace Go.Pl
open Go.Ev
set_option linter.unusedVariables false
noncomputable section
def spec_l01Pick.top (s0 : List Int × Int × Int) (list1 : List Int) : Option (Int × List Int × Int × Int) :=
  (spec_l01Next.f s0 (list1.length : Int)).bind fun r1 =>
  if (0 : Int) ≤ r1.1 ∧ (r1.1 : Int) < list1.length then
    some (list1.getD (r1.1 : Int).toNat 0, r1.2)
  else
    none
def spec_l01Pick.fn (n : Nat) (s0 : List Int × Int × Int) (list1 : List Int) : Option (Int × List Int × Int × Int) := spec_l01Pick.top s0 list1
def spec_l01Pick.f (s0 : List Int × Int × Int) (list1 : List Int) : Option (Int × List Int × Int × Int) := spec_l01Pick.fn NN s0 list1
end
end Go.Pl

namespace Go.Pl
open Go.Ev
set_option linter.unusedVariables false
set_option linter.unusedSimpArgs false
/-- a source of numbers -/
def SrcOk (s : List Int × Int × Int) : Prop := s.1.length ≤ 4096 ∧ (∀ c ∈ s.1, 0 ≤ c ∧ c ≤ 255) ∧ (0 ≤ s.2.1 ∧ s.2.1 ≤ (s.1.length : Int)) ∧ 0 ≤ s.2.2 ∧ s.2.2 < 2147483647
theorem tmod_bd {a n : Int} (h : 0 ≤ a) (hn : 0 < n) : 0 ≤ Int.tmod a n ∧ Int.tmod a n < n := by
  rw [Int.tmod_eq_emod_of_nonneg h]
  exact ⟨Int.emod_nonneg _ (by omega), Int.emod_lt_of_pos _ hn⟩
theorem getD_mem {xs : List Int} {i : Nat} (h : i < xs.length) : xs.getD i 0 ∈ xs := by
  rw [List.getD_eq_getElem?_getD, List.getElem?_eq_getElem h]; exact List.getElem_mem h
theorem next_ok {s : List Int × Int × Int} (hs : SrcOk s) (n : Int) (hn : n ≤ 1000000000000000) : ∃ x s', spec_l01Next.f s n = some (x, s') ∧ SrcOk s' ∧ 0 ≤ x ∧ (x < n ∨ x = 0) := by
  obtain ⟨code, at_, seed⟩ := s
  obtain ⟨h1, h2, h3, h4, h5⟩ := hs
  simp only at h1 h2 h3 h4 h5
  unfold spec_l01Next.f spec_l01Next.fn spec_l01Next.top
  by_cases hn1 : n ≤ 1
  · simp only [hn1, decide_true, if_true]
    exact ⟨0, _, rfl, ⟨h1, h2, h3, h4, h5⟩, by omega, .inr rfl⟩
  have w1 := w64 (n := seed * 48271) (by omega) (by omega)
  have w2 := w64 (n := seed * 48271 + 29) (by omega) (by omega)
  have hm := @tmod_bd (seed * 48271 + 29) 2147483647 (by omega) (by omega)
  have hd : Int.tdiv (Int.tmod (seed * 48271 + 29) 2147483647) 31 = Int.tmod (seed * 48271 + 29) 2147483647 / 31 := Int.tdiv_eq_ediv_of_nonneg hm.1
  have w3 := w64 (n := Int.tdiv (Int.tmod (seed * 48271 + 29) 2147483647) 31) (by omega) (by omega)
  have w4 := w64 (n := at_ + 1) (by omega) (by omega)
  have w5 := w64 (n := at_ + 1 - 1) (by omega) (by omega)
  have hnz : ¬ n = 0 := by omega
  simp only [hn1, decide_false, Bool.false_eq_true, if_false, w1, w2, w3, w4, w5, hnz, decide_eq_true_eq]
  by_cases ha : at_ < (code.length : Int)
  · have hc := h2 _ (getD_mem (show at_.toNat < code.length by omega))
    have hc' : (0 : Int) ≤ at_ + 1 - 1 ∧ at_ + 1 - 1 < (code.length : Int) := by omega
    have e1 : (at_ + 1 - 1).toNat = at_.toNat := by omega
    have w6 := w64 (n := code.getD at_.toNat 0) (by omega) (by omega)
    have w7 := w64 (n := Int.tdiv (Int.tmod (seed * 48271 + 29) 2147483647) 31 + code.getD at_.toNat 0) (by omega) (by omega)
    have b1 := @tmod_bd (code.getD at_.toNat 0) n hc.1 (by omega)
    have b2 := @tmod_bd (Int.tdiv (Int.tmod (seed * 48271 + 29) 2147483647) 31 + code.getD at_.toNat 0) n (by omega) (by omega)
    have hs' : SrcOk (code, at_ + 1, Int.tmod (seed * 48271 + 29) 2147483647) := ⟨h1, h2, ⟨by simp only; omega, by simp only; omega⟩, hm.1, hm.2⟩
    simp only [ha, h3.1, and_self, if_true, hc', e1, w6, w7]
    by_cases h256 : n ≤ 256
    · simp only [h256, if_true]
      split
      · exact ⟨_, _, rfl, hs', b1.1, .inl b1.2⟩
      · exact ⟨_, _, rfl, hs', b2.1, .inl b2.2⟩
    · simp only [h256, if_false]
      exact ⟨_, _, rfl, hs', b2.1, .inl b2.2⟩
  · have b3 := @tmod_bd (Int.tdiv (Int.tmod (seed * 48271 + 29) 2147483647) 31) n (by omega) (by omega)
    simp only [ha, if_false]
    exact ⟨_, _, rfl, ⟨h1, h2, h3, hm.1, hm.2⟩, b3.1, .inl b3.2⟩
theorem pick_ok {s : List Int × Int × Int} (hs : SrcOk s) (xs : List Int) (h : 1 ≤ xs.length) (hl : xs.length ≤ 1000) : ∃ x s', spec_l01Pick.f s xs = some (x, s') ∧ SrcOk s' ∧ x ∈ xs := by
  obtain ⟨x, s', e, h1, h2, h3⟩ := next_ok hs (xs.length : Int) (by omega)
  have hx : x < (xs.length : Int) := by omega
  unfold spec_l01Pick.f spec_l01Pick.fn spec_l01Pick.top
  rw [e]
  simp only [Option.bind_some, h2, hx, and_self, if_true]
  exact ⟨_, _, rfl, h1, getD_mem (by omega)⟩
theorem from_l (code : List Int) (hl : code.length ≤ 4096) (hc : ∀ c ∈ code, 0 ≤ c ∧ c ≤ 255) (c : List Int) (b : Int) : ∀ (d i k : Nat) (seed : Int), i + d = code.length → d < k → 0 ≤ seed → seed < 2147483647 → ∃ seed', spec_l01From.l3 NN k code i c b seed = some (c, b, seed') ∧ 0 ≤ seed' ∧ seed' < 2147483647 := by
  intro d
  induction d with
  | zero =>
    intro i k seed hi hk h0 h1
    obtain ⟨k, rfl⟩ : ∃ j, k = j + 1 := ⟨k - 1, by omega⟩
    have n1 : ¬ (i : Int) < (code.length : Int) := by omega
    exact ⟨seed, by simp only [spec_l01From.l3, spec_l01From.g3, n1, decide_false, Bool.false_eq_true, if_false], h0, h1⟩
  | succ d ih =>
    intro i k seed hi hk h0 h1
    obtain ⟨k, rfl⟩ : ∃ j, k = j + 1 := ⟨k - 1, by omega⟩
    have n1 : (i : Int) < (code.length : Int) := by omega
    by_cases h64 : (i : Int) < 64
    · have hcc := hc _ (getD_mem (show i < code.length by omega))
      have w1 := w64 (n := seed * 83) (by omega) (by omega)
      have w2 := w64 (n := code.getD i 0) (by omega) (by omega)
      have w3 := w64 (n := seed * 83 + code.getD i 0) (by omega) (by omega)
      have w4 := w64 (n := (i : Int) + 1) (by omega) (by omega)
      have hm := @tmod_bd (seed * 83 + code.getD i 0) 2147483647 (by omega) (by omega)
      obtain ⟨s', e1, e2⟩ := ih (i + 1) k (Int.tmod (seed * 83 + code.getD i 0) 2147483647) (by omega) (by omega) hm.1 hm.2
      refine ⟨s', ?_, e2⟩
      simp only [spec_l01From.l3, spec_l01From.g3, n1, h64, decide_true, if_true, Int.toNat_natCast, w1, w2, w3, w4, show (0 : Int) ≤ (i : Int) from by omega, and_self]
      exact e1
    · exact ⟨seed, by simp only [spec_l01From.l3, spec_l01From.g3, n1, h64, decide_true, if_true, decide_false, Bool.false_eq_true, if_false], h0, h1⟩
def CodeOk (code : List Int) : Prop := code.length ≤ 4096 ∧ ∀ c ∈ code, 0 ≤ c ∧ c ≤ 255
theorem from_ok {code : List Int} (h : CodeOk code) : ∃ s, spec_l01From.f code = some s ∧ SrcOk s := by
  obtain ⟨s', e, h1, h2⟩ := from_l code h.1 h.2 code 0 code.length 0 NN 61043 (by omega) (by have := h.1; exact NN_lt (by omega)) (by omega) (by omega)
  exact ⟨(code, 0, s'), e, h.1, h.2, ⟨by simp only; omega, by simp only; omega⟩, h1, h2⟩
theorem big_f (code : List Int) : laws_big.f code = some (decide ((4096 : Int) < (code.length : Int))) := rfl
theorem code_of {code : List Int} (h : Ls (Rg .u8) code) (hb : ¬ (4096 : Int) < (code.length : Int)) : CodeOk code := ⟨by omega, fun c hc => wf8.1 (h.2 c hc)⟩
end Go.Pl

namespace Go.Pl
open Go.Ev
set_option linter.unusedVariables false
set_option linter.unusedSimpArgs false
theorem damage_ok {s : List Int × Int × Int} (hs : SrcOk s) (t : ByteArray) (ht : t.size ≤ 1000000) : ∃ u s', spec_l01Damage.f s t = some (u, s') ∧ SrcOk s' ∧ u.size ≤ t.size + 1 := by
  unfold spec_l01Damage.f spec_l01Damage.fn spec_l01Damage.top
  rw [w64 (n := (t.size : Int) + 1) (by omega) (by omega)]
  obtain ⟨k, s1, e1, o1, k0, k1⟩ := next_ok hs ((t.size : Int) + 1) (by omega)
  obtain ⟨x, s2, e2, o2, x0, x1⟩ := next_ok o1 8 (by omega)
  obtain ⟨y, s3, e3, o3, y0, y1⟩ := next_ok o2 8 (by omega)
  have hk : k ≤ (t.size : Int) := by omega
  have z1 : ∀ a b : Nat, (t.extract a b).size ≤ b - a := fun a b => by rw [ByteArray.size_extract]; omega
  have za := z1 0 k.toNat
  have zb := z1 k.toNat t.size
  simp only [e1, e2, Option.bind_some, k0, hk, and_self, if_true]
  by_cases hx0 : x = 0
  · subst hx0
    simp only [beq_self_eq_true, if_true]
    exact ⟨_, _, rfl, o2, by omega⟩
  · have b0 : (x == 0) = false := by rw [beq_eq_false_iff_ne]; exact hx0
    simp only [b0, Bool.false_eq_true, if_false]
    by_cases hx1 : x = 1
    · subst hx1
      simp only [beq_self_eq_true, if_true, e3, Option.bind_some]
      have hy : y < 8 := by omega
      have hlit : ∀ i : Nat, (([(⟨#[48]⟩ : ByteArray), (⟨#[35]⟩ : ByteArray), (⟨#[46]⟩ : ByteArray), (⟨#[47]⟩ : ByteArray), (⟨#[32]⟩ : ByteArray), (⟨#[97]⟩ : ByteArray), (⟨#[45]⟩ : ByteArray), (⟨#[10]⟩ : ByteArray)]).getD i ByteArray.empty).size ≤ 1 := by
        intro i
        match i with
        | 0 | 1 | 2 | 3 | 4 | 5 | 6 | 7 => exact Nat.le_refl 1
        | n + 8 => exact Nat.zero_le 1
      have hl := hlit y.toNat
      rw [if_pos ⟨y0, by simp only [List.length_cons, List.length_nil]; omega⟩, if_pos (by omega), if_pos (by rw [ByteArray.size_append]; omega)]
      exact ⟨_, _, rfl, o3, by rw [ByteArray.size_append, ByteArray.size_append]; omega⟩
    · have b1 : (x == 1) = false := by rw [beq_eq_false_iff_ne]; exact hx1
      simp only [b1, Bool.false_eq_true, if_false]
      by_cases hx2 : x = 2
      · subst hx2
        simp only [beq_self_eq_true, if_true, decide_eq_true_eq]
        by_cases hlt : k < (t.size : Int)
        · have w1 := w64 (n := k + 1) (by omega) (by omega)
          have zc := z1 (k + 1).toNat t.size
          simp only [hlt, if_true, w1]
          rw [if_pos ⟨by omega, by omega⟩, if_pos (by omega)]
          exact ⟨_, _, rfl, o2, by rw [ByteArray.size_append]; omega⟩
        · simp only [hlt, if_false]
          exact ⟨_, _, rfl, o2, by omega⟩
      · have b2 : (x == 2) = false := by rw [beq_eq_false_iff_ne]; exact hx2
        simp only [b2, Bool.false_eq_true, if_false]
        exact ⟨_, _, rfl, o2, by omega⟩
end Go.Pl

namespace Go.Pl
open Go.Ev
set_option linter.unusedVariables false
noncomputable section
def impl_IsWord.g4 (L4 : ByteArray → Int → Option Bool) (s0 : ByteArray) (i3 : Int) : Option Bool :=
  if (decide ((i3 : Int) < (s0.size : Int))) = true then
    if (0 : Int) ≤ i3 ∧ (i3 : Int) < s0.size then
      if (decide (((bt s0 i3) : Int) < 97)) = false then
        if (0 : Int) ≤ i3 ∧ (i3 : Int) < s0.size then
          if (decide ((122 : Int) < (bt s0 i3))) = true then
            some false
          else
            L4 s0 (IntKind.i64.wrap (i3 + 1))
        else
          none
      else
        some false
    else
      none
  else
    some true
def impl_IsWord.l4 (n : Nat) : Nat → ByteArray → Int → Option Bool
  | 0 => fun _ _ => none
  | k + 1 => impl_IsWord.g4 (impl_IsWord.l4 n k)
def impl_IsWord.top (I4 : ByteArray → Int → Option Bool) (s0 : ByteArray) : Option Bool :=
  if (decide (((s0.size : Int) : Int) < 1)) = false then
    if (decide ((16 : Int) < (s0.size : Int))) = true then
      some false
    else
      I4 s0 0
  else
    some false
def impl_IsWord.fn (n : Nat) (s0 : ByteArray) : Option Bool := impl_IsWord.top (impl_IsWord.l4 n n) s0
def impl_IsWord.f (s0 : ByteArray) : Option Bool := impl_IsWord.fn NN s0
end
end Go.Pl

namespace Go.Pl
open Go.Ev
set_option linter.unusedVariables false
noncomputable section
def spec_IsWord.g2 (L2 : ByteArray → Int → Option Bool) (s0 : ByteArray) (i3 : Int) : Option Bool :=
  if (decide ((i3 : Int) < (s0.size : Int))) = true then
    if (0 : Int) ≤ i3 ∧ (i3 : Int) < s0.size then
      if (decide (((bt s0 i3) : Int) < 97)) = false then
        if (0 : Int) ≤ i3 ∧ (i3 : Int) < s0.size then
          if (decide ((122 : Int) < (bt s0 i3))) = true then
            some false
          else
            L2 s0 (IntKind.i64.wrap (i3 + 1))
        else
          none
      else
        some false
    else
      none
  else
    (spec_l01In.f (s0.size : Int) 1 16).bind fun r1 =>
    some r1
def spec_IsWord.l2 (n : Nat) : Nat → ByteArray → Int → Option Bool
  | 0 => fun _ _ => none
  | k + 1 => spec_IsWord.g2 (spec_IsWord.l2 n k)
def spec_IsWord.top (I2 : ByteArray → Int → Option Bool) (s0 : ByteArray) : Option Bool :=
  I2 s0 0
def spec_IsWord.fn (n : Nat) (s0 : ByteArray) : Option Bool := spec_IsWord.top (spec_IsWord.l2 n n) s0
def spec_IsWord.f (s0 : ByteArray) : Option Bool := spec_IsWord.fn NN s0
end
end Go.Pl

namespace Go.Pl
open Go.Ev
set_option linter.unusedVariables false
set_option linter.unusedSimpArgs false
def inB (n lo hi : Int) : Bool := decide (lo ≤ n) && decide (n ≤ hi)
theorem inB_iff {n lo hi : Int} : inB n lo hi = true ↔ lo ≤ n ∧ n ≤ hi := by unfold inB; simp
theorem impl_within_f (n lo hi : Int) : impl_within.f n lo hi = some (inB n lo hi) := by
  unfold impl_within.f impl_within.fn impl_within.top inB
  by_cases h : lo ≤ n <;> simp [h]
theorem spec_l01In_f (n lo hi : Int) : spec_l01In.f n lo hi = some (inB n lo hi) := by
  unfold spec_l01In.f spec_l01In.fn spec_l01In.top inB
  by_cases h : lo ≤ n <;> simp [h]
/-- a letter -/
def letB (c : UInt8) : Bool := !(decide ((c.toNat : Int) < 97)) && !(decide (122 < (c.toNat : Int)))
def wordB (s : ByteArray) : Bool := decide (1 ≤ s.size) && decide (s.size ≤ 16) && (bl s).all letB
theorem wordB_size {s : ByteArray} (h : wordB s = true) : 1 ≤ s.size ∧ s.size ≤ 16 := by
  unfold wordB at h; simp at h; exact h.1
theorem impl_IsWord_loop (s : ByteArray) (h : s.size ≤ 140737488355328) : impl_IsWord.l4 NN NN s 0 = if (bl s).all letB = true then some true else some false := by
  refine all_loop_str letB (fun s => some true) (fun k s i => impl_IsWord.l4 NN k s i) ?_ ?_ s h NN (NN_lt (by omega))
  · intro k p
    show impl_IsWord.g4 _ (ob p) p.length = _
    simp [impl_IsWord.g4, ob_size, spec_l01In_f]
  · intro k p a r c0 c1 cw
    show impl_IsWord.g4 (impl_IsWord.l4 NN k) (ob (p ++ a :: r)) p.length = _
    simp only [impl_IsWord.g4, c0, c1, cw, and_self, and_true, true_and, decide_true, decide_false, if_true, if_false, mid_get, mid_set, mid_getn, mid_setn, bt_mid, Option.bind_some, Bool.not_true, Bool.not_false, Bool.false_eq_true, Bool.true_eq_false, beq_self_eq_true, bne_self_eq_false, Int.toNat_natCast]
    unfold letB
    by_cases h1 : (a.toNat : Int) < 97 <;> by_cases h2 : (122 : Int) < (a.toNat : Int) <;> simp [h1, h2]
theorem spec_IsWord_loop (s : ByteArray) (h : s.size ≤ 140737488355328) : spec_IsWord.l2 NN NN s 0 = if (bl s).all letB = true then some (inB s.size 1 16) else some false := by
  refine all_loop_str letB (fun s => some (inB s.size 1 16)) (fun k s i => spec_IsWord.l2 NN k s i) ?_ ?_ s h NN (NN_lt (by omega))
  · intro k p
    show spec_IsWord.g2 _ (ob p) p.length = _
    simp [spec_IsWord.g2, ob_size, spec_l01In_f]
  · intro k p a r c0 c1 cw
    show spec_IsWord.g2 (spec_IsWord.l2 NN k) (ob (p ++ a :: r)) p.length = _
    simp only [spec_IsWord.g2, c0, c1, cw, and_self, and_true, true_and, decide_true, decide_false, if_true, if_false, mid_get, mid_set, mid_getn, mid_setn, bt_mid, Option.bind_some, Bool.not_true, Bool.not_false, Bool.false_eq_true, Bool.true_eq_false, beq_self_eq_true, bne_self_eq_false, Int.toNat_natCast]
    unfold letB
    by_cases h1 : (a.toNat : Int) < 97 <;> by_cases h2 : (122 : Int) < (a.toNat : Int) <;> simp [h1, h2]
theorem impl_IsWord_f (s : ByteArray) (h : s.size ≤ 140737488355328) : impl_IsWord.f s = some (wordB s) := by
  unfold impl_IsWord.f impl_IsWord.fn impl_IsWord.top
  rw [impl_IsWord_loop s h]
  unfold wordB
  by_cases h1 : (s.size : Int) < 1
  · have : ¬ 1 ≤ s.size := by omega
    simp [h1, this]
  · have e1 : 1 ≤ s.size := by omega
    by_cases h2 : (16 : Int) < s.size
    · have : ¬ s.size ≤ 16 := by omega
      simp [h1, h2, this]
    · have : s.size ≤ 16 := by omega
      cases h3 : (bl s).all letB <;> simp [h1, h2, this, h3, e1]
theorem spec_IsWord_f (s : ByteArray) (h : s.size ≤ 140737488355328) : spec_IsWord.f s = some (wordB s) := by
  unfold spec_IsWord.f spec_IsWord.fn spec_IsWord.top
  rw [spec_IsWord_loop s h]
  unfold wordB inB
  have e1 : decide ((1 : Int) ≤ s.size) = decide (1 ≤ s.size) := by congr 1; simp; omega
  have e2 : decide ((s.size : Int) ≤ 16) = decide (s.size ≤ 16) := by congr 1; simp; omega
  rw [e1, e2]
  cases h3 : (bl s).all letB <;> simp
end Go.Pl

namespace Go.Pl
open Go.Ev
set_option linter.unusedVariables false
noncomputable section
def impl_totalsOf.g3 (L3 : ByteArray → (List (Int × ByteArray × Int)) → Int → Int → List Int → Option (List Int)) (article1 : ByteArray) (v9 : List (Int × ByteArray × Int)) (v10 : Int) (v11 : Int) (out5 : List Int) : Option (List Int) :=
  if (decide ((v11 : Int) < v10)) = true then
    if (0 : Int) ≤ v11 ∧ (v11 : Int) < v9.length then
      if ((((v9.getD (v11 : Int).toNat (0, (ByteArray.empty, 0))).2).1).toList == article1.toList) = true then
        if (0 : Int) ≤ ((v9.getD (v11 : Int).toNat (0, (ByteArray.empty, 0))).1) ∧ (((v9.getD (v11 : Int).toNat (0, (ByteArray.empty, 0))).1) : Int) < out5.length then
          if (0 : Int) ≤ ((v9.getD (v11 : Int).toNat (0, (ByteArray.empty, 0))).1) ∧ (((v9.getD (v11 : Int).toNat (0, (ByteArray.empty, 0))).1) : Int) < out5.length then
            L3 article1 v9 v10 (IntKind.i64.wrap (v11 + 1)) (out5.set (((v9.getD (v11 : Int).toNat (0, (ByteArray.empty, 0))).1) : Int).toNat (IntKind.i64.wrap ((out5.getD (((v9.getD (v11 : Int).toNat (0, (ByteArray.empty, 0))).1) : Int).toNat 0) + (((v9.getD (v11 : Int).toNat (0, (ByteArray.empty, 0))).2).2))))
          else
            none
        else
          none
      else
        L3 article1 v9 v10 (IntKind.i64.wrap (v11 + 1)) out5
    else
      none
  else
    some out5
def impl_totalsOf.l3 (n : Nat) : Nat → ByteArray → (List (Int × ByteArray × Int)) → Int → Int → List Int → Option (List Int)
  | 0 => fun _ _ _ _ _ => none
  | k + 1 => impl_totalsOf.g3 (impl_totalsOf.l3 n k)
def impl_totalsOf.top (I3 : ByteArray → (List (Int × ByteArray × Int)) → Int → Int → List Int → Option (List Int)) (list0 : List (Int × ByteArray × Int)) (article1 : ByteArray) : Option (List Int) :=
  if (0 : Int) ≤ 4 ∧ (4 : Int) < room 8 ∧ (4 : Int) = 4 then
    I3 article1 list0 (list0.length : Int) 0 (List.replicate (4 : Int).toNat 0)
  else
    none
def impl_totalsOf.fn (n : Nat) (list0 : List (Int × ByteArray × Int)) (article1 : ByteArray) : Option (List Int) := impl_totalsOf.top (impl_totalsOf.l3 n n) list0 article1
def impl_totalsOf.f (list0 : List (Int × ByteArray × Int)) (article1 : ByteArray) : Option (List Int) := impl_totalsOf.fn NN list0 article1
end
end Go.Pl

namespace Go.Pl
open Go.Ev
set_option linter.unusedVariables false
noncomputable section
def impl_piecesLeft.top (list0 : List (Int × ByteArray × Int)) (article1 : ByteArray) : Option Int :=
  (impl_totalsOf.f list0 article1).bind fun r1 =>
  if (0 : Int) ≤ 0 ∧ (0 : Int) < r1.length then
    if (0 : Int) ≤ 1 ∧ (1 : Int) < r1.length then
      if (0 : Int) ≤ 2 ∧ (2 : Int) < r1.length then
        if (0 : Int) ≤ 3 ∧ (3 : Int) < r1.length then
          some (IntKind.i64.wrap ((IntKind.i64.wrap ((IntKind.i64.wrap ((r1.getD (0 : Int).toNat 0) - (r1.getD (1 : Int).toNat 0))) - (r1.getD (2 : Int).toNat 0))) - (r1.getD (3 : Int).toNat 0)))
        else
          none
      else
        none
    else
      none
  else
    none
def impl_piecesLeft.fn (n : Nat) (list0 : List (Int × ByteArray × Int)) (article1 : ByteArray) : Option Int := impl_piecesLeft.top list0 article1
def impl_piecesLeft.f (list0 : List (Int × ByteArray × Int)) (article1 : ByteArray) : Option Int := impl_piecesLeft.fn NN list0 article1
end
end Go.Pl

namespace Go.Pl
open Go.Ev
set_option linter.unusedVariables false
noncomputable section
def spec_l32Left.g3 (L3 : (List (Int × ByteArray × Int)) → ByteArray → Int → Int → Int → Option Int) (list0 : List (Int × ByteArray × Int)) (article1 : ByteArray) (n2 : Int) (left7 : Int) (i8 : Int) : Option Int :=
  if (decide ((i8 : Int) < n2)) = true then
    if (0 : Int) ≤ i8 ∧ (i8 : Int) < list0.length then
      if (!((((list0.getD (i8 : Int).toNat (0, (ByteArray.empty, 0))).2).1).toList == article1.toList)) = true then
        L3 list0 article1 n2 left7 (IntKind.i64.wrap (i8 + 1))
      else if (0 : Int) ≤ i8 ∧ (i8 : Int) < list0.length then
        if ((((list0.getD (i8 : Int).toNat (0, (ByteArray.empty, 0))).1) : Int) == 0) = true then
          if (0 : Int) ≤ i8 ∧ (i8 : Int) < list0.length then
            L3 list0 article1 n2 (IntKind.i64.wrap (left7 + (((list0.getD (i8 : Int).toNat (0, (ByteArray.empty, 0))).2).2))) (IntKind.i64.wrap (i8 + 1))
          else
            none
        else if (0 : Int) ≤ i8 ∧ (i8 : Int) < list0.length then
          L3 list0 article1 n2 (IntKind.i64.wrap (left7 - (((list0.getD (i8 : Int).toNat (0, (ByteArray.empty, 0))).2).2))) (IntKind.i64.wrap (i8 + 1))
        else
          none
      else
        none
    else
      none
  else
    some left7
def spec_l32Left.l3 (n : Nat) : Nat → (List (Int × ByteArray × Int)) → ByteArray → Int → Int → Int → Option Int
  | 0 => fun _ _ _ _ _ => none
  | k + 1 => spec_l32Left.g3 (spec_l32Left.l3 n k)
def spec_l32Left.top (I3 : (List (Int × ByteArray × Int)) → ByteArray → Int → Int → Int → Option Int) (list0 : List (Int × ByteArray × Int)) (article1 : ByteArray) (n2 : Int) : Option Int :=
  I3 list0 article1 n2 0 0
def spec_l32Left.fn (n : Nat) (list0 : List (Int × ByteArray × Int)) (article1 : ByteArray) (n2 : Int) : Option Int := spec_l32Left.top (spec_l32Left.l3 n n) list0 article1 n2
def spec_l32Left.f (list0 : List (Int × ByteArray × Int)) (article1 : ByteArray) (n2 : Int) : Option Int := spec_l32Left.fn NN list0 article1 n2
end
end Go.Pl

namespace Go.Pl
open Go.Ev
set_option linter.unusedVariables false
noncomputable section
def impl_AreBookings.g4 (L4 : (List (Int × ByteArray × Int)) → (List (Int × ByteArray × Int)) → Int → Int → Option Bool) (list0 : List (Int × ByteArray × Int)) (v8 : List (Int × ByteArray × Int)) (v9 : Int) (v10 : Int) : Option Bool :=
  if (decide ((v10 : Int) < v9)) = true then
    if (0 : Int) ≤ v10 ∧ (v10 : Int) < v8.length then
      (impl_within.f ((v8.getD (v10 : Int).toNat (0, (ByteArray.empty, 0))).1) 0 3).bind fun r1 =>
      if (!r1) = false then
        (impl_IsWord.f (((v8.getD (v10 : Int).toNat (0, (ByteArray.empty, 0))).2).1)).bind fun r2 =>
        if (!r2) = false then
          (impl_within.f (((v8.getD (v10 : Int).toNat (0, (ByteArray.empty, 0))).2).2) 1 1000).bind fun r3 =>
          if (!r3) = false then
            if (0 : Int) ≤ (IntKind.i64.wrap (v10 + 1)) ∧ ((IntKind.i64.wrap (v10 + 1)) : Int) ≤ list0.length then
              (impl_piecesLeft.f (list0.take ((IntKind.i64.wrap (v10 + 1)) : Int).toNat) (((v8.getD (v10 : Int).toNat (0, (ByteArray.empty, 0))).2).1)).bind fun r4 =>
              if (decide ((r4 : Int) < 0)) = true then
                some false
              else
                L4 list0 v8 v9 (IntKind.i64.wrap (v10 + 1))
            else
              none
          else
            some false
        else
          some false
      else
        some false
    else
      none
  else
    some true
def impl_AreBookings.l4 (n : Nat) : Nat → (List (Int × ByteArray × Int)) → (List (Int × ByteArray × Int)) → Int → Int → Option Bool
  | 0 => fun _ _ _ _ => none
  | k + 1 => impl_AreBookings.g4 (impl_AreBookings.l4 n k)
def impl_AreBookings.top (I4 : (List (Int × ByteArray × Int)) → (List (Int × ByteArray × Int)) → Int → Int → Option Bool) (list0 : List (Int × ByteArray × Int)) : Option Bool :=
  if (decide ((60 : Int) < (list0.length : Int))) = true then
    some false
  else
    I4 list0 list0 (list0.length : Int) 0
def impl_AreBookings.fn (n : Nat) (list0 : List (Int × ByteArray × Int)) : Option Bool := impl_AreBookings.top (impl_AreBookings.l4 n n) list0
def impl_AreBookings.f (list0 : List (Int × ByteArray × Int)) : Option Bool := impl_AreBookings.fn NN list0
end
end Go.Pl

namespace Go.Pl
open Go.Ev
set_option linter.unusedVariables false
noncomputable section
def spec_AreBookings.g2 (L2 : (List (Int × ByteArray × Int)) → Int → Option Bool) (list0 : List (Int × ByteArray × Int)) (i3 : Int) : Option Bool :=
  if (decide ((i3 : Int) < (list0.length : Int))) = true then
    if (0 : Int) ≤ i3 ∧ (i3 : Int) < list0.length then
      (spec_l01In.f ((list0.getD (i3 : Int).toNat (0, (ByteArray.empty, 0))).1) 0 3).bind fun r1 =>
      if (!r1) = false then
        (spec_IsWord.f (((list0.getD (i3 : Int).toNat (0, (ByteArray.empty, 0))).2).1)).bind fun r2 =>
        if (!r2) = false then
          (spec_l01In.f (((list0.getD (i3 : Int).toNat (0, (ByteArray.empty, 0))).2).2) 1 1000).bind fun r3 =>
          if (!r3) = false then
            (spec_l32Left.f list0 (((list0.getD (i3 : Int).toNat (0, (ByteArray.empty, 0))).2).1) (IntKind.i64.wrap (i3 + 1))).bind fun r4 =>
            if (decide ((r4 : Int) < 0)) = true then
              some false
            else
              L2 list0 (IntKind.i64.wrap (i3 + 1))
          else
            some false
        else
          some false
      else
        some false
    else
      none
  else
    some (decide (((list0.length : Int) : Int) ≤ 60))
def spec_AreBookings.l2 (n : Nat) : Nat → (List (Int × ByteArray × Int)) → Int → Option Bool
  | 0 => fun _ _ => none
  | k + 1 => spec_AreBookings.g2 (spec_AreBookings.l2 n k)
def spec_AreBookings.top (I2 : (List (Int × ByteArray × Int)) → Int → Option Bool) (list0 : List (Int × ByteArray × Int)) : Option Bool :=
  I2 list0 0
def spec_AreBookings.fn (n : Nat) (list0 : List (Int × ByteArray × Int)) : Option Bool := spec_AreBookings.top (spec_AreBookings.l2 n n) list0
def spec_AreBookings.f (list0 : List (Int × ByteArray × Int)) : Option Bool := spec_AreBookings.fn NN list0
end
end Go.Pl

namespace Go.Pl
open Go.Ev
set_option linter.unusedVariables false
set_option linter.unusedSimpArgs false
/-- a booking that stands -/
def valB (b : Int × ByteArray × Int) : Bool := inB b.1 0 3 && wordB b.2.1 && inB b.2.2 1 1000
def addL (a : ByteArray) (s : Int) (b : Int × ByteArray × Int) : Int := if b.2.1 = a then (if b.1 = 0 then s + b.2.2 else s - b.2.2) else s
def leftOf (xs : List (Int × ByteArray × Int)) (a : ByteArray) : Int := xs.foldl (addL a) 0
theorem leftOf_snoc (p : List (Int × ByteArray × Int)) (b : Int × ByteArray × Int) (a : ByteArray) : leftOf (p ++ [b]) a = addL a (leftOf p a) b := by
  unfold leftOf; rw [List.foldl_append]; rfl
theorem valB_count {b : Int × ByteArray × Int} (h : valB b = true) : 1 ≤ b.2.2 ∧ b.2.2 ≤ 1000 ∧ 0 ≤ b.1 ∧ b.1 ≤ 3 := by
  unfold valB at h
  simp only [Bool.and_eq_true, inB_iff] at h
  omega
theorem leftOf_le (a : ByteArray) (xs : List (Int × ByteArray × Int)) (h : ∀ b ∈ xs, valB b = true) : -(1000 * (xs.length : Int)) ≤ leftOf xs a ∧ leftOf xs a ≤ 1000 * (xs.length : Int) := by
  have key : ∀ (ys : List (Int × ByteArray × Int)) (s : Int), (∀ b ∈ ys, valB b = true) → s - 1000 * (ys.length : Int) ≤ ys.foldl (addL a) s ∧ ys.foldl (addL a) s ≤ s + 1000 * (ys.length : Int) := by
    intro ys
    induction ys with
    | nil => intro s _; simp
    | cons b r ih =>
      intro s hb
      have h1 := ih (addL a s b) (fun x hx => hb x (by simp [hx]))
      have h2 := valB_count (hb b (by simp))
      simp only [List.foldl_cons, List.length_cons]
      have : s - 1000 ≤ addL a s b ∧ addL a s b ≤ s + 1000 := by
        unfold addL; split <;> (try split) <;> omega
      omega
  have := key xs 0 h
  unfold leftOf; omega
theorem spec_l32Left_f (xs rest : List (Int × ByteArray × Int)) (a : ByteArray) (h : ∀ b ∈ xs, valB b = true) (hl : xs.length ≤ 1000000) : spec_l32Left.f (xs ++ rest) a xs.length = some (leftOf xs a) := by
  have := (fold_fix (E := fun b => valB b = true) (fun p s => (∀ b ∈ p, valB b = true) ∧ s = leftOf p a) (fun _ => addL a) some (fun k i s => spec_l32Left.l3 NN k (xs ++ rest) a xs.length s i) xs ?_ ?_ 0 h ⟨by simp, rfl⟩ (by omega) NN (NN_lt (by omega))).2
  · rw [foldi_foldl] at this
    exact this
  · intro k st _
    simp [spec_l32Left.l3, spec_l32Left.g3]
  · intro k p b r st hx hb hI c0 c1 c2 cw g
    obtain ⟨h1, rfl⟩ := hI
    have h2 : ∀ x ∈ p ++ [b], valB x = true := fun x hx => by
      rcases List.mem_append.1 hx with h | h
      · exact h1 x h
      · rw [List.mem_singleton.1 h]; exact hb
    refine ⟨⟨h2, (leftOf_snoc p b a).symm⟩, ?_⟩
    have c3 : (p.length : Int) < ((xs ++ rest).length : Int) := by rw [List.length_append]; omega
    have g' : ∀ z, (xs ++ rest).getD p.length z = b := fun z => by rw [hx]; simp
    have bd := leftOf_le a (p ++ [b]) h2
    rw [leftOf_snoc] at bd
    have hpl : p.length ≤ 1000000 := by omega
    simp only [List.length_append, List.length_cons, List.length_nil] at bd
    simp only [spec_l32Left.l3, spec_l32Left.g3, c0, c1, c3, cw, and_self, and_true, true_and, decide_true, decide_false, if_true, if_false, mid_get, mid_set, mid_getn, mid_setn, bt_mid, Option.bind_some, Bool.not_true, Bool.not_false, Bool.false_eq_true, Bool.true_eq_false, beq_self_eq_true, bne_self_eq_false, Int.toNat_natCast, g', ba_beq]
    unfold addL at bd ⊢
    by_cases ha : b.2.1 = a
    · by_cases hz : b.1 = 0
      · have e := w64 (n := leftOf p a + b.2.2) (by simp only [ha, hz, if_true] at bd; omega) (by simp only [ha, hz, if_true] at bd; omega)
        simp [ha, hz, e]
      · have e := w64 (n := leftOf p a - b.2.2) (by simp only [ha, hz, if_true, if_false] at bd; omega) (by simp only [ha, hz, if_true, if_false] at bd; omega)
        simp [ha, hz, e]
    · simp [ha]
/-- how many of each kind -/
def addT (a : ByteArray) (s : List Int) (b : Int × ByteArray × Int) : List Int := if b.2.1 = a then s.set b.1.toNat (s.getD b.1.toNat 0 + b.2.2) else s
def totL (xs : List (Int × ByteArray × Int)) (a : ByteArray) : List Int := xs.foldl (addT a) [0, 0, 0, 0]
theorem totL_snoc (p : List (Int × ByteArray × Int)) (b : Int × ByteArray × Int) (a : ByteArray) : totL (p ++ [b]) a = addT a (totL p a) b := by
  unfold totL; rw [List.foldl_append]; rfl
theorem totL_shape (a : ByteArray) (xs : List (Int × ByteArray × Int)) (h : ∀ b ∈ xs, valB b = true) : ∃ t0 t1 t2 t3, totL xs a = [t0, t1, t2, t3] ∧ t0 - t1 - t2 - t3 = leftOf xs a ∧ 0 ≤ t0 ∧ 0 ≤ t1 ∧ 0 ≤ t2 ∧ 0 ≤ t3 ∧ t0 + t1 + t2 + t3 ≤ 1000 * (xs.length : Int) := by
  have key : ∀ (n : Nat) (xs : List (Int × ByteArray × Int)), xs.length = n → (∀ b ∈ xs, valB b = true) → ∃ t0 t1 t2 t3, totL xs a = [t0, t1, t2, t3] ∧ t0 - t1 - t2 - t3 = leftOf xs a ∧ 0 ≤ t0 ∧ 0 ≤ t1 ∧ 0 ≤ t2 ∧ 0 ≤ t3 ∧ t0 + t1 + t2 + t3 ≤ 1000 * (xs.length : Int) := by
    intro n
    induction n with
    | zero => intro xs hn _; obtain rfl := List.length_eq_zero_iff.1 hn; exact ⟨0, 0, 0, 0, rfl, rfl, by omega, by omega, by omega, by omega, by simp⟩
    | succ n ih =>
      intro xs hn hb
      rcases List.eq_nil_or_concat xs with rfl | ⟨p, b, rfl⟩
      · simp at hn
      simp only [List.concat_eq_append] at hn hb ⊢
      obtain ⟨t0, t1, t2, t3, e1, e2, e3, e4, e5, e6, e7⟩ := ih p (by simpa using hn) (fun x hx => hb x (by simp [hx]))
      have hv := valB_count (hb b (by simp))
      rw [totL_snoc, leftOf_snoc, e1]
      simp only [List.length_append, List.length_cons, List.length_nil]
      unfold addT addL
      by_cases ha : b.2.1 = a
      · simp only [ha, if_true]
        obtain h | h | h | h : b.1 = 0 ∨ b.1 = 1 ∨ b.1 = 2 ∨ b.1 = 3 := by omega
        · exact ⟨t0 + b.2.2, t1, t2, t3, by simp [h], by simp [h]; omega, by omega, by omega, by omega, by omega, by omega⟩
        · exact ⟨t0, t1 + b.2.2, t2, t3, by simp [h], by simp [h]; omega, by omega, by omega, by omega, by omega, by omega⟩
        · exact ⟨t0, t1, t2 + b.2.2, t3, by simp [h], by simp [h]; omega, by omega, by omega, by omega, by omega, by omega⟩
        · exact ⟨t0, t1, t2, t3 + b.2.2, by simp [h], by simp [h]; omega, by omega, by omega, by omega, by omega, by omega⟩
      · simp only [ha, if_false]
        exact ⟨t0, t1, t2, t3, rfl, by omega, by omega, by omega, by omega, by omega, by omega⟩
  exact key _ xs rfl h
theorem impl_totalsOf_f (xs : List (Int × ByteArray × Int)) (a : ByteArray) (h : ∀ b ∈ xs, valB b = true) (hl : xs.length ≤ 1000000) : impl_totalsOf.f xs a = some (totL xs a) := by
  have := (fold_fix (E := fun b => valB b = true) (fun p s => (∀ b ∈ p, valB b = true) ∧ s = totL p a) (fun _ => addT a) some (fun k i s => impl_totalsOf.l3 NN k a xs xs.length i s) xs ?_ ?_ [0, 0, 0, 0] h ⟨by simp, rfl⟩ (by omega) NN (NN_lt (by omega))).2
  · rw [foldi_foldl] at this
    unfold impl_totalsOf.f impl_totalsOf.fn impl_totalsOf.top
    rw [if_pos (by rw [room8]; omega)]
    exact this
  · intro k st _
    simp [impl_totalsOf.l3, impl_totalsOf.g3]
  · intro k p b r st hx hb hI c0 c1 c2 cw g
    obtain ⟨h1, rfl⟩ := hI
    have h2 : ∀ x ∈ p ++ [b], valB x = true := fun x hx => by
      rcases List.mem_append.1 hx with h | h
      · exact h1 x h
      · rw [List.mem_singleton.1 h]; exact hb
    refine ⟨⟨h2, (totL_snoc p b a).symm⟩, ?_⟩
    obtain ⟨t0, t1, t2, t3, e1, e2, e3, e4, e5, e6, e7⟩ := totL_shape a p h1
    have hpl : p.length ≤ 1000000 := by omega
    have hv := valB_count hb
    simp only [impl_totalsOf.l3, impl_totalsOf.g3, c0, c1, cw, and_self, and_true, true_and, decide_true, decide_false, if_true, if_false, mid_get, mid_set, mid_getn, mid_setn, bt_mid, Option.bind_some, Bool.not_true, Bool.not_false, Bool.false_eq_true, Bool.true_eq_false, beq_self_eq_true, bne_self_eq_false, Int.toNat_natCast, g, ba_beq]
    unfold addT
    by_cases ha : b.2.1 = a
    · have k1 : b.1 < ((totL p a).length : Int) := by rw [e1]; simp; omega
      have k2 : 0 ≤ (totL p a).getD b.1.toNat 0 ∧ (totL p a).getD b.1.toNat 0 ≤ 1000000000 := by
        rw [e1]
        obtain h | h | h | h : b.1 = 0 ∨ b.1 = 1 ∨ b.1 = 2 ∨ b.1 = 3 := by omega
        all_goals (rw [h]; simp; omega)
      have e := w64 (n := (totL p a).getD b.1.toNat 0 + b.2.2) (by omega) (by omega)
      simp only [ha, decide_true, if_true, hv.2.2.1, k1, and_self, e]
    · simp [ha]
theorem impl_piecesLeft_f (xs : List (Int × ByteArray × Int)) (a : ByteArray) (h : ∀ b ∈ xs, valB b = true) (hl : xs.length ≤ 1000000) : impl_piecesLeft.f xs a = some (leftOf xs a) := by
  unfold impl_piecesLeft.f impl_piecesLeft.fn impl_piecesLeft.top
  rw [impl_totalsOf_f xs a h hl]
  obtain ⟨t0, t1, t2, t3, e1, e2, e3, e4, e5, e6, e7⟩ := totL_shape a xs h
  have w1 := w64 (n := t0 - t1) (by omega) (by omega)
  have w2 := w64 (n := t0 - t1 - t2) (by omega) (by omega)
  have w3 := w64 (n := t0 - t1 - t2 - t3) (by omega) (by omega)
  have w4 : IntKind.i64.wrap (leftOf xs a) = leftOf xs a := by rw [← e2]; exact w3
  rw [e1]
  simp [w1, w2, w3, e2, w4]
/-- no article short at any time -/
def okFrom (p : List (Int × ByteArray × Int)) : List (Int × ByteArray × Int) → Bool
  | [] => true
  | b :: r => valB b && decide (0 ≤ leftOf (p ++ [b]) b.2.1) && okFrom (p ++ [b]) r
def booksB (xs : List (Int × ByteArray × Int)) : Bool := decide (xs.length ≤ 60) && okFrom [] xs
theorem okFrom_val : ∀ (r p : List (Int × ByteArray × Int)), okFrom p r = true → ∀ b ∈ r, valB b = true := by
  intro r
  induction r with
  | nil => intro p _ b hb; cases hb
  | cons x r ih =>
    intro p h b hb
    simp only [okFrom, Bool.and_eq_true] at h
    rcases List.mem_cons.1 hb with rfl | hb
    · exact h.1.1
    · exact ih _ h.2 b hb
theorem booksB_val {xs : List (Int × ByteArray × Int)} (h : booksB xs = true) : (∀ b ∈ xs, valB b = true) ∧ xs.length ≤ 60 := by
  unfold booksB at h
  simp only [Bool.and_eq_true, decide_eq_true_eq] at h
  exact ⟨okFrom_val _ _ h.2, h.1⟩
theorem val_snoc {p : List (Int × ByteArray × Int)} {b : Int × ByteArray × Int} (h1 : ∀ x ∈ p, valB x = true) (hb : valB b = true) : ∀ x ∈ p ++ [b], valB x = true := fun x hx => by
  rcases List.mem_append.1 hx with h | h
  · exact h1 x h
  · rw [List.mem_singleton.1 h]; exact hb
theorem spec_AreBookings_loop : ∀ (r p : List (Int × ByteArray × Int)) (k : Nat), (∀ b ∈ p, valB b = true) → (∀ b ∈ r, Sz b.2.1) → p.length + r.length ≤ 1000000 → r.length < k →
    spec_AreBookings.l2 NN k (p ++ r) p.length = some (okFrom p r && decide ((p ++ r).length ≤ 60)) := by
  intro r
  induction r with
  | nil =>
    intro p k _ _ _ hk
    obtain ⟨k, rfl⟩ : ∃ j, k = j + 1 := ⟨k - 1, by omega⟩
    simp [spec_AreBookings.l2, spec_AreBookings.g2, okFrom]
    omega
  | cons b r ih =>
    intro p k hp hr hb hk
    simp only [List.length_cons] at hk hb
    obtain ⟨k, rfl⟩ : ∃ j, k = j + 1 := ⟨k - 1, by omega⟩
    have hm := mid_len p r b
    have c0 : (0 : Int) ≤ (p.length : Int) := by omega
    have c1 : (p.length : Int) < ((p ++ b :: r).length : Int) := by omega
    have cw := w64 (n := (p.length : Int) + 1) (by omega) (by omega)
    simp only [spec_AreBookings.l2, spec_AreBookings.g2, c0, c1, cw, and_self, and_true, true_and, decide_true, decide_false, if_true, if_false, mid_get, mid_set, mid_getn, mid_setn, bt_mid, Option.bind_some, Bool.not_true, Bool.not_false, Bool.false_eq_true, Bool.true_eq_false, beq_self_eq_true, bne_self_eq_false, Int.toNat_natCast, spec_l01In_f, spec_IsWord_f _ (hr b (by simp))]
    have hv : valB b = (inB b.1 0 3 && wordB b.2.1 && inB b.2.2 1 1000) := rfl
    simp only [okFrom]
    cases h1 : inB b.1 0 3
    · simp [hv, h1]
    cases h2 : wordB b.2.1
    · simp [hv, h2]
    cases h3 : inB b.2.2 1 1000
    · simp [hv, h3]
    have hvt : valB b = true := by rw [hv, h1, h2, h3]; rfl
    have hl := spec_l32Left_f (p ++ [b]) r b.2.1 (val_snoc hp hvt) (by simp; omega)
    rw [mid_snoc, snoc_len] at hl
    have := ih (p ++ [b]) k (val_snoc hp hvt) (fun x hx => hr x (by simp [hx])) (by simp; omega) (by omega)
    rw [mid_snoc, snoc_len] at this
    simp only [hl, this, hvt, and_self, and_true, true_and, decide_true, decide_false, if_true, if_false, mid_get, mid_set, mid_getn, mid_setn, bt_mid, Option.bind_some, Bool.not_true, Bool.not_false, Bool.false_eq_true, Bool.true_eq_false, beq_self_eq_true, bne_self_eq_false, Int.toNat_natCast, decide_eq_true_eq]
    by_cases hn : leftOf (p ++ [b]) b.2.1 < 0
    · have : ¬ 0 ≤ leftOf (p ++ [b]) b.2.1 := by omega
      simp [hn, this]
    · have h4 : 0 ≤ leftOf (p ++ [b]) b.2.1 := by omega
      simp [hn, h4]
theorem spec_AreBookings_f (xs : List (Int × ByteArray × Int)) (h : Lm OkBooking xs) : spec_AreBookings.f xs = some (booksB xs) := by
  have := spec_AreBookings_loop xs [] NN (by simp) (fun b hb => Nat.le_trans (h.2 b hb).2.1 (by omega)) (by simpa using h.1) (NN_lt (by have := h.1; omega))
  unfold spec_AreBookings.f spec_AreBookings.fn spec_AreBookings.top booksB
  rw [Bool.and_comm]
  simpa using this
theorem impl_AreBookings_loop : ∀ (r p : List (Int × ByteArray × Int)) (k : Nat), (∀ b ∈ p, valB b = true) → (∀ b ∈ r, Sz b.2.1) → p.length + r.length ≤ 1000000 → r.length < k →
    impl_AreBookings.l4 NN k (p ++ r) (p ++ r) (p ++ r).length p.length = some (okFrom p r) := by
  intro r
  induction r with
  | nil =>
    intro p k _ _ _ hk
    obtain ⟨k, rfl⟩ : ∃ j, k = j + 1 := ⟨k - 1, by omega⟩
    simp [impl_AreBookings.l4, impl_AreBookings.g4, okFrom]
  | cons b r ih =>
    intro p k hp hr hb hk
    simp only [List.length_cons] at hk hb
    obtain ⟨k, rfl⟩ : ∃ j, k = j + 1 := ⟨k - 1, by omega⟩
    have hm := mid_len p r b
    have c0 : (0 : Int) ≤ (p.length : Int) := by omega
    have c1 : (p.length : Int) < ((p ++ b :: r).length : Int) := by omega
    have cw := w64 (n := (p.length : Int) + 1) (by omega) (by omega)
    have c2 : (0 : Int) ≤ (p.length : Int) + 1 := by omega
    have c3 : (p.length : Int) + 1 ≤ ((p ++ b :: r).length : Int) := by omega
    have ct : (p ++ b :: r).take ((p.length : Int) + 1).toNat = p ++ [b] := by
      rw [show ((p.length : Int) + 1).toNat = (p ++ [b]).length by simp, show p ++ b :: r = (p ++ [b]) ++ r by simp, List.take_left' rfl]
    simp only [impl_AreBookings.l4, impl_AreBookings.g4, c0, c1, c2, c3, cw, ct, and_self, and_true, true_and, decide_true, decide_false, if_true, if_false, mid_get, mid_set, mid_getn, mid_setn, bt_mid, Option.bind_some, Bool.not_true, Bool.not_false, Bool.false_eq_true, Bool.true_eq_false, beq_self_eq_true, bne_self_eq_false, Int.toNat_natCast, impl_within_f, impl_IsWord_f _ (hr b (by simp))]
    have hv : valB b = (inB b.1 0 3 && wordB b.2.1 && inB b.2.2 1 1000) := rfl
    simp only [okFrom]
    cases h1 : inB b.1 0 3
    · simp [hv, h1]
    cases h2 : wordB b.2.1
    · simp [hv, h2]
    cases h3 : inB b.2.2 1 1000
    · simp [hv, h3]
    have hvt : valB b = true := by rw [hv, h1, h2, h3]; rfl
    have hl := impl_piecesLeft_f (p ++ [b]) b.2.1 (val_snoc hp hvt) (by simp; omega)
    have := ih (p ++ [b]) k (val_snoc hp hvt) (fun x hx => hr x (by simp [hx])) (by simp; omega) (by omega)
    rw [mid_snoc, snoc_len] at this
    simp only [hl, this, hvt, and_self, and_true, true_and, decide_true, decide_false, if_true, if_false, mid_get, mid_set, mid_getn, mid_setn, bt_mid, Option.bind_some, Bool.not_true, Bool.not_false, Bool.false_eq_true, Bool.true_eq_false, beq_self_eq_true, bne_self_eq_false, Int.toNat_natCast, decide_eq_true_eq]
    by_cases hn : leftOf (p ++ [b]) b.2.1 < 0
    · have : ¬ 0 ≤ leftOf (p ++ [b]) b.2.1 := by omega
      simp [hn, this]
    · have h4 : 0 ≤ leftOf (p ++ [b]) b.2.1 := by omega
      simp [hn, h4]
theorem impl_AreBookings_f (xs : List (Int × ByteArray × Int)) (h : Lm OkBooking xs) : impl_AreBookings.f xs = some (booksB xs) := by
  have := impl_AreBookings_loop xs [] NN (by simp) (fun b hb => Nat.le_trans (h.2 b hb).2.1 (by omega)) (by simpa using h.1) (NN_lt (by have := h.1; omega))
  unfold impl_AreBookings.f impl_AreBookings.fn impl_AreBookings.top booksB
  simp only [List.nil_append, List.length_nil] at this
  by_cases h1 : (60 : Int) < xs.length
  · have h2 : ¬ xs.length ≤ 60 := by omega
    simp [h1, h2]
  · have h2 : xs.length ≤ 60 := by omega
    simp only [h1, h2, decide_false, Bool.false_eq_true, if_false, decide_true, Bool.true_and]
    exact this
theorem AreBookings_core (xs : List (Int × ByteArray × Int)) (h : Lm OkBooking xs) : ∃ w, spec_AreBookings.f xs = some w ∧ impl_AreBookings.f xs = some w ∧ True :=
  ⟨_, spec_AreBookings_f xs h, impl_AreBookings_f xs h, trivial⟩
end Go.Pl

namespace Go.Pl
open Go.Ev
set_option linter.unusedVariables false
noncomputable section
def impl_PiecesLeft.top (list0 : List (Int × ByteArray × Int)) (article1 : ByteArray) : Option (Int × Int) :=
  (impl_AreBookings.f list0).bind fun r1 =>
  if (!r1) = false then
    (impl_IsWord.f article1).bind fun r2 =>
    if (!r2) = true then
      some (0, 1)
    else
      (impl_piecesLeft.f list0 article1).bind fun r3 =>
      some (r3, 0)
  else
    some (0, 1)
def impl_PiecesLeft.fn (n : Nat) (list0 : List (Int × ByteArray × Int)) (article1 : ByteArray) : Option (Int × Int) := impl_PiecesLeft.top list0 article1
def impl_PiecesLeft.f (list0 : List (Int × ByteArray × Int)) (article1 : ByteArray) : Option (Int × Int) := impl_PiecesLeft.fn NN list0 article1
end
end Go.Pl

namespace Go.Pl
open Go.Ev
set_option linter.unusedVariables false
noncomputable section
def spec_PiecesLeft.top (list0 : List (Int × ByteArray × Int)) (article1 : ByteArray) : Option (Int × Int) :=
  (spec_AreBookings.f list0).bind fun r1 =>
  if (!r1) = false then
    (spec_IsWord.f article1).bind fun r2 =>
    if (!r2) = true then
      some (0, 1)
    else
      (spec_l32Left.f list0 article1 (list0.length : Int)).bind fun r3 =>
      some (r3, 0)
  else
    some (0, 1)
def spec_PiecesLeft.fn (n : Nat) (list0 : List (Int × ByteArray × Int)) (article1 : ByteArray) : Option (Int × Int) := spec_PiecesLeft.top list0 article1
def spec_PiecesLeft.f (list0 : List (Int × ByteArray × Int)) (article1 : ByteArray) : Option (Int × Int) := spec_PiecesLeft.fn NN list0 article1
end
end Go.Pl

namespace Go.Pl
open Go.Ev
set_option linter.unusedVariables false
noncomputable section
def impl_MostIn.g5 (L5 : (List (Int × ByteArray × Int)) → ByteArray → Int → Int → Int → Option (Int × Int)) (list0 : List (Int × ByteArray × Int)) (article1 : ByteArray) (most6 : Int) (v17 : Int) (v18 : Int) : Option (Int × Int) :=
  if (decide ((v18 : Int) < v17)) = true then
    if (0 : Int) ≤ (IntKind.i64.wrap (v18 + 1)) ∧ ((IntKind.i64.wrap (v18 + 1)) : Int) ≤ list0.length then
      (impl_piecesLeft.f (list0.take ((IntKind.i64.wrap (v18 + 1)) : Int).toNat) article1).bind fun r3 =>
      L5 list0 article1 (if r3 > most6 then r3 else most6) v17 (IntKind.i64.wrap (v18 + 1))
    else
      none
  else
    some (most6, 0)
def impl_MostIn.l5 (n : Nat) : Nat → (List (Int × ByteArray × Int)) → ByteArray → Int → Int → Int → Option (Int × Int)
  | 0 => fun _ _ _ _ _ => none
  | k + 1 => impl_MostIn.g5 (impl_MostIn.l5 n k)
def impl_MostIn.top (I5 : (List (Int × ByteArray × Int)) → ByteArray → Int → Int → Int → Option (Int × Int)) (list0 : List (Int × ByteArray × Int)) (article1 : ByteArray) : Option (Int × Int) :=
  (impl_AreBookings.f list0).bind fun r1 =>
  if (!r1) = false then
    (impl_IsWord.f article1).bind fun r2 =>
    if (!r2) = true then
      some (0, 1)
    else
      I5 list0 article1 0 (list0.length : Int) 0
  else
    some (0, 1)
def impl_MostIn.fn (n : Nat) (list0 : List (Int × ByteArray × Int)) (article1 : ByteArray) : Option (Int × Int) := impl_MostIn.top (impl_MostIn.l5 n n) list0 article1
def impl_MostIn.f (list0 : List (Int × ByteArray × Int)) (article1 : ByteArray) : Option (Int × Int) := impl_MostIn.fn NN list0 article1
end
end Go.Pl

namespace Go.Pl
open Go.Ev
set_option linter.unusedVariables false
noncomputable section
def spec_MostIn.g5 (L5 : (List (Int × ByteArray × Int)) → ByteArray → Int → Int → Option (Int × Int)) (list0 : List (Int × ByteArray × Int)) (article1 : ByteArray) (most6 : Int) (n7 : Int) : Option (Int × Int) :=
  if (decide ((n7 : Int) ≤ (list0.length : Int))) = true then
    (spec_l32Left.f list0 article1 n7).bind fun r3 =>
    L5 list0 article1 (if r3 > most6 then r3 else most6) (IntKind.i64.wrap (n7 + 1))
  else
    some (most6, 0)
def spec_MostIn.l5 (n : Nat) : Nat → (List (Int × ByteArray × Int)) → ByteArray → Int → Int → Option (Int × Int)
  | 0 => fun _ _ _ _ => none
  | k + 1 => spec_MostIn.g5 (spec_MostIn.l5 n k)
def spec_MostIn.top (I5 : (List (Int × ByteArray × Int)) → ByteArray → Int → Int → Option (Int × Int)) (list0 : List (Int × ByteArray × Int)) (article1 : ByteArray) : Option (Int × Int) :=
  (spec_AreBookings.f list0).bind fun r1 =>
  if (!r1) = false then
    (spec_IsWord.f article1).bind fun r2 =>
    if (!r2) = true then
      some (0, 1)
    else
      I5 list0 article1 0 0
  else
    some (0, 1)
def spec_MostIn.fn (n : Nat) (list0 : List (Int × ByteArray × Int)) (article1 : ByteArray) : Option (Int × Int) := spec_MostIn.top (spec_MostIn.l5 n n) list0 article1
def spec_MostIn.f (list0 : List (Int × ByteArray × Int)) (article1 : ByteArray) : Option (Int × Int) := spec_MostIn.fn NN list0 article1
end
end Go.Pl

namespace Go.Pl
open Go.Ev
set_option linter.unusedVariables false
set_option linter.unusedSimpArgs false
theorem l32Left_all (xs : List (Int × ByteArray × Int)) (a : ByteArray) (h : ∀ b ∈ xs, valB b = true) (hl : xs.length ≤ 1000000) : spec_l32Left.f xs a xs.length = some (leftOf xs a) := by
  have := spec_l32Left_f xs [] a h hl
  rwa [List.append_nil] at this
theorem l32Left_take (xs : List (Int × ByteArray × Int)) (a : ByteArray) (n : Nat) (hn : n ≤ xs.length) (h : ∀ b ∈ xs, valB b = true) (hl : xs.length ≤ 1000000) : spec_l32Left.f xs a n = some (leftOf (xs.take n) a) := by
  have := spec_l32Left_f (xs.take n) (xs.drop n) a (fun b hb => h b (List.mem_of_mem_take hb)) (by rw [List.length_take]; omega)
  rwa [List.take_append_drop, List.length_take, Nat.min_eq_left hn] at this
def leftR (xs : List (Int × ByteArray × Int)) (a : ByteArray) : Int × Int := if booksB xs = true ∧ wordB a = true then (leftOf xs a, 0) else (0, 1)
theorem PiecesLeft_both (xs : List (Int × ByteArray × Int)) (a : ByteArray) (h : Lm OkBooking xs) (ha : Sm a) : spec_PiecesLeft.f xs a = some (leftR xs a) ∧ impl_PiecesLeft.f xs a = some (leftR xs a) := by
  unfold leftR
  refine ⟨?_, ?_⟩
  · unfold spec_PiecesLeft.f spec_PiecesLeft.fn spec_PiecesLeft.top
    rw [spec_AreBookings_f xs h, spec_IsWord_f a (Nat.le_trans ha (by omega))]
    cases hb : booksB xs
    · rfl
    cases hw : wordB a
    · rfl
    have hv := booksB_val hb
    simp only [and_self, and_true, true_and, decide_true, decide_false, if_true, if_false, mid_get, mid_set, mid_getn, mid_setn, bt_mid, Option.bind_some, Bool.not_true, Bool.not_false, Bool.false_eq_true, Bool.true_eq_false, beq_self_eq_true, bne_self_eq_false, Int.toNat_natCast]
    rw [l32Left_all xs a hv.1 (by omega)]; rfl
  · unfold impl_PiecesLeft.f impl_PiecesLeft.fn impl_PiecesLeft.top
    rw [impl_AreBookings_f xs h, impl_IsWord_f a (Nat.le_trans ha (by omega))]
    cases hb : booksB xs
    · rfl
    cases hw : wordB a
    · rfl
    have hv := booksB_val hb
    simp only [and_self, and_true, true_and, decide_true, decide_false, if_true, if_false, mid_get, mid_set, mid_getn, mid_setn, bt_mid, Option.bind_some, Bool.not_true, Bool.not_false, Bool.false_eq_true, Bool.true_eq_false, beq_self_eq_true, bne_self_eq_false, Int.toNat_natCast]
    rw [impl_piecesLeft_f xs a hv.1 (by omega)]; rfl
theorem PiecesLeft_core (xs : List (Int × ByteArray × Int)) (a : ByteArray) (h : Lm OkBooking xs) (ha : Sm a) : ∃ w, spec_PiecesLeft.f xs a = some w ∧ impl_PiecesLeft.f xs a = some w ∧ True :=
  ⟨_, (PiecesLeft_both xs a h ha).1, (PiecesLeft_both xs a h ha).2, trivial⟩
def mostF (xs : List (Int × ByteArray × Int)) (a : ByteArray) (i : Nat) (st : Int) : Int := if leftOf (xs.take (i + 1)) a > st then leftOf (xs.take (i + 1)) a else st
def mostL (xs : List (Int × ByteArray × Int)) (a : ByteArray) : Int := foldi (fun i st (_ : Int × ByteArray × Int) => mostF xs a i st) 0 0 xs
theorem impl_MostIn_l (xs : List (Int × ByteArray × Int)) (a : ByteArray) (h : ∀ b ∈ xs, valB b = true) (hl : xs.length ≤ 60) : impl_MostIn.l5 NN NN xs a 0 xs.length 0 = some (mostL xs a, 0) := by
  have := (fold_fix (E := fun _ => True) (fun _ _ => True) (fun i st (_ : Int × ByteArray × Int) => mostF xs a i st) (fun st => some (st, (0 : Int))) (fun k i st => impl_MostIn.l5 NN k xs a st xs.length i) xs ?_ ?_ 0 (fun _ _ => trivial) trivial (by omega) NN (NN_lt (by omega))).2
  · exact this
  · intro k st _
    simp [impl_MostIn.l5, impl_MostIn.g5]
  · intro k p b r st hx _ _ c0 c1 c2 cw g
    refine ⟨trivial, ?_⟩
    have c3 : (0 : Int) ≤ (p.length : Int) + 1 := by omega
    have c4 : (p.length : Int) + 1 ≤ (xs.length : Int) := by omega
    have e : ((p.length : Int) + 1).toNat = p.length + 1 := by omega
    simp only [impl_MostIn.l5, impl_MostIn.g5, c1, c3, c4, cw, e, and_self, and_true, true_and, decide_true, decide_false, if_true, if_false, mid_get, mid_set, mid_getn, mid_setn, bt_mid, Option.bind_some, Bool.not_true, Bool.not_false, Bool.false_eq_true, Bool.true_eq_false, beq_self_eq_true, bne_self_eq_false, Int.toNat_natCast]
    rw [impl_piecesLeft_f (xs.take (p.length + 1)) a (fun b hb => h b (List.mem_of_mem_take hb)) (by rw [List.length_take]; omega)]
    rfl
theorem spec_MostIn_l (xs : List (Int × ByteArray × Int)) (a : ByteArray) (h : ∀ b ∈ xs, valB b = true) (hl : xs.length ≤ 60) : spec_MostIn.l5 NN NN xs a 0 0 = some (mostL xs a, 0) := by
  obtain ⟨k, hk⟩ : ∃ j, NN = j + 1 := ⟨NN - 1, by have := NNb; omega⟩
  have hkb : 1000 < k := by rw [NN_eq] at hk; omega
  have := (fold_fix (E := fun _ => True) (fun _ _ => True) (fun i st (_ : Int × ByteArray × Int) => mostF xs a i st) (fun st => some (st, (0 : Int))) (fun k i st => spec_MostIn.l5 NN k xs a st (i + 1)) xs ?_ ?_ 0 (fun _ _ => trivial) trivial (by omega) k (by omega)).2
  · rw [show spec_MostIn.l5 NN NN = spec_MostIn.l5 NN (k + 1) by rw [← hk]]
    have c0 : (0 : Int) ≤ (xs.length : Int) := by omega
    have z := l32Left_take xs a 0 (by omega) h (by omega)
    have w := w64 (n := 0 + 1) (by omega) (by omega)
    simp only [spec_MostIn.l5, spec_MostIn.g5, c0, and_self, and_true, true_and, decide_true, decide_false, if_true, if_false, mid_get, mid_set, mid_getn, mid_setn, bt_mid, Option.bind_some, Bool.not_true, Bool.not_false, Bool.false_eq_true, Bool.true_eq_false, beq_self_eq_true, bne_self_eq_false, Int.toNat_natCast, w]
    rw [show ((0 : Nat) : Int) = 0 from rfl] at z
    rw [z]
    exact this
  · intro k st _
    simp [spec_MostIn.l5, spec_MostIn.g5]
    omega
  · intro k p b r st hx _ _ c0 c1 c2 cw g
    refine ⟨trivial, ?_⟩
    have c4 : (p.length : Int) + 1 ≤ (xs.length : Int) := by omega
    have z := l32Left_take xs a (p.length + 1) (by omega) h (by omega)
    rw [show ((p.length + 1 : Nat) : Int) = (p.length : Int) + 1 by omega] at z
    have w := w64 (n := (p.length : Int) + 1 + 1) (by omega) (by omega)
    simp only [spec_MostIn.l5, spec_MostIn.g5, c4, w, z, and_self, and_true, true_and, decide_true, decide_false, if_true, if_false, mid_get, mid_set, mid_getn, mid_setn, bt_mid, Option.bind_some, Bool.not_true, Bool.not_false, Bool.false_eq_true, Bool.true_eq_false, beq_self_eq_true, bne_self_eq_false, Int.toNat_natCast]
    rfl
def mostR (xs : List (Int × ByteArray × Int)) (a : ByteArray) : Int × Int := if booksB xs = true ∧ wordB a = true then (mostL xs a, 0) else (0, 1)
theorem MostIn_both (xs : List (Int × ByteArray × Int)) (a : ByteArray) (h : Lm OkBooking xs) (ha : Sm a) : spec_MostIn.f xs a = some (mostR xs a) ∧ impl_MostIn.f xs a = some (mostR xs a) := by
  unfold mostR
  refine ⟨?_, ?_⟩
  · unfold spec_MostIn.f spec_MostIn.fn spec_MostIn.top
    rw [spec_AreBookings_f xs h, spec_IsWord_f a (Nat.le_trans ha (by omega))]
    cases hb : booksB xs
    · rfl
    cases hw : wordB a
    · rfl
    have hv := booksB_val hb
    exact spec_MostIn_l xs a hv.1 hv.2
  · unfold impl_MostIn.f impl_MostIn.fn impl_MostIn.top
    rw [impl_AreBookings_f xs h, impl_IsWord_f a (Nat.le_trans ha (by omega))]
    cases hb : booksB xs
    · rfl
    cases hw : wordB a
    · rfl
    have hv := booksB_val hb
    exact impl_MostIn_l xs a hv.1 hv.2
theorem MostIn_core (xs : List (Int × ByteArray × Int)) (a : ByteArray) (h : Lm OkBooking xs) (ha : Sm a) : ∃ w, spec_MostIn.f xs a = some w ∧ impl_MostIn.f xs a = some w ∧ True :=
  ⟨_, (MostIn_both xs a h ha).1, (MostIn_both xs a h ha).2, trivial⟩
end Go.Pl

namespace Go.Pl
open Go.Ev
set_option linter.unusedVariables false
noncomputable section
def impl_TotalsOf.top (list0 : List (Int × ByteArray × Int)) (article1 : ByteArray) : Option (List Int × Int) :=
  (impl_AreBookings.f list0).bind fun r1 =>
  if (!r1) = false then
    (impl_IsWord.f article1).bind fun r2 =>
    if (!r2) = true then
      some ([], 1)
    else
      (impl_totalsOf.f list0 article1).bind fun r3 =>
      some (r3, 0)
  else
    some ([], 1)
def impl_TotalsOf.fn (n : Nat) (list0 : List (Int × ByteArray × Int)) (article1 : ByteArray) : Option (List Int × Int) := impl_TotalsOf.top list0 article1
def impl_TotalsOf.f (list0 : List (Int × ByteArray × Int)) (article1 : ByteArray) : Option (List Int × Int) := impl_TotalsOf.fn NN list0 article1
end
end Go.Pl

namespace Go.Pl
open Go.Ev
set_option linter.unusedVariables false
noncomputable section
def spec_TotalsOf.g5 (L5 : (List (Int × ByteArray × Int)) → ByteArray → Int → List Int → Option (List Int × Int)) (list0 : List (Int × ByteArray × Int)) (article1 : ByteArray) (i7 : Int) (out6 : List Int) : Option (List Int × Int) :=
  if (decide ((i7 : Int) < (list0.length : Int))) = true then
    if (0 : Int) ≤ i7 ∧ (i7 : Int) < list0.length then
      if ((((list0.getD (i7 : Int).toNat (0, (ByteArray.empty, 0))).2).1).toList == article1.toList) = true then
        if (0 : Int) ≤ i7 ∧ (i7 : Int) < list0.length then
          if (0 : Int) ≤ i7 ∧ (i7 : Int) < list0.length then
            if (0 : Int) ≤ ((list0.getD (i7 : Int).toNat (0, (ByteArray.empty, 0))).1) ∧ (((list0.getD (i7 : Int).toNat (0, (ByteArray.empty, 0))).1) : Int) < out6.length then
              if (0 : Int) ≤ i7 ∧ (i7 : Int) < list0.length then
                if (0 : Int) ≤ ((list0.getD (i7 : Int).toNat (0, (ByteArray.empty, 0))).1) ∧ (((list0.getD (i7 : Int).toNat (0, (ByteArray.empty, 0))).1) : Int) < out6.length then
                  L5 list0 article1 (IntKind.i64.wrap (i7 + 1)) (out6.set (((list0.getD (i7 : Int).toNat (0, (ByteArray.empty, 0))).1) : Int).toNat (IntKind.i64.wrap ((out6.getD (((list0.getD (i7 : Int).toNat (0, (ByteArray.empty, 0))).1) : Int).toNat 0) + (((list0.getD (i7 : Int).toNat (0, (ByteArray.empty, 0))).2).2))))
                else
                  none
              else
                none
            else
              none
          else
            none
        else
          none
      else
        L5 list0 article1 (IntKind.i64.wrap (i7 + 1)) out6
    else
      none
  else
    some (out6, 0)
def spec_TotalsOf.l5 (n : Nat) : Nat → (List (Int × ByteArray × Int)) → ByteArray → Int → List Int → Option (List Int × Int)
  | 0 => fun _ _ _ _ => none
  | k + 1 => spec_TotalsOf.g5 (spec_TotalsOf.l5 n k)
def spec_TotalsOf.top (I5 : (List (Int × ByteArray × Int)) → ByteArray → Int → List Int → Option (List Int × Int)) (list0 : List (Int × ByteArray × Int)) (article1 : ByteArray) : Option (List Int × Int) :=
  (spec_AreBookings.f list0).bind fun r1 =>
  if (!r1) = false then
    (spec_IsWord.f article1).bind fun r2 =>
    if (!r2) = true then
      some ([], 1)
    else if (0 : Int) ≤ 4 ∧ (4 : Int) < room 8 ∧ (4 : Int) = 4 then
      I5 list0 article1 0 (List.replicate (4 : Int).toNat 0)
    else
      none
  else
    some ([], 1)
def spec_TotalsOf.fn (n : Nat) (list0 : List (Int × ByteArray × Int)) (article1 : ByteArray) : Option (List Int × Int) := spec_TotalsOf.top (spec_TotalsOf.l5 n n) list0 article1
def spec_TotalsOf.f (list0 : List (Int × ByteArray × Int)) (article1 : ByteArray) : Option (List Int × Int) := spec_TotalsOf.fn NN list0 article1
end
end Go.Pl

namespace Go.Pl
open Go.Ev
set_option linter.unusedVariables false
set_option linter.unusedSimpArgs false
theorem spec_TotalsOf_l (xs : List (Int × ByteArray × Int)) (a : ByteArray) (h : ∀ b ∈ xs, valB b = true) (hl : xs.length ≤ 1000000) : spec_TotalsOf.l5 NN NN xs a 0 (List.replicate (4 : Int).toNat 0) = some (totL xs a, 0) := by
  have := (fold_fix (E := fun b => valB b = true) (fun p s => (∀ b ∈ p, valB b = true) ∧ s = totL p a) (fun _ => addT a) (fun st => some (st, (0 : Int))) (fun k i s => spec_TotalsOf.l5 NN k xs a i s) xs ?_ ?_ [0, 0, 0, 0] h ⟨by simp, rfl⟩ (by omega) NN (NN_lt (by omega))).2
  · rw [foldi_foldl] at this
    exact this
  · intro k st _
    simp [spec_TotalsOf.l5, spec_TotalsOf.g5]
  · intro k p b r st hx hb hI c0 c1 c2 cw g
    obtain ⟨h1, rfl⟩ := hI
    have h2 := val_snoc h1 hb
    refine ⟨⟨h2, (totL_snoc p b a).symm⟩, ?_⟩
    obtain ⟨t0, t1, t2, t3, e1, e2, e3, e4, e5, e6, e7⟩ := totL_shape a p h1
    have hpl : p.length ≤ 1000000 := by omega
    have hv := valB_count hb
    simp only [spec_TotalsOf.l5, spec_TotalsOf.g5, c0, c1, cw, and_self, and_true, true_and, decide_true, decide_false, if_true, if_false, mid_get, mid_set, mid_getn, mid_setn, bt_mid, Option.bind_some, Bool.not_true, Bool.not_false, Bool.false_eq_true, Bool.true_eq_false, beq_self_eq_true, bne_self_eq_false, Int.toNat_natCast, g, ba_beq]
    unfold addT
    by_cases ha : b.2.1 = a
    · have k1 : b.1 < ((totL p a).length : Int) := by rw [e1]; simp; omega
      have k2 : 0 ≤ (totL p a).getD b.1.toNat 0 ∧ (totL p a).getD b.1.toNat 0 ≤ 1000000000 := by
        rw [e1]
        obtain h | h | h | h : b.1 = 0 ∨ b.1 = 1 ∨ b.1 = 2 ∨ b.1 = 3 := by omega
        all_goals (rw [h]; simp; omega)
      have e := w64 (n := (totL p a).getD b.1.toNat 0 + b.2.2) (by omega) (by omega)
      simp only [ha, decide_true, if_true, hv.2.2.1, k1, and_self, e]
    · simp [ha]
def totR (xs : List (Int × ByteArray × Int)) (a : ByteArray) : List Int × Int := if booksB xs = true ∧ wordB a = true then (totL xs a, 0) else ([], 1)
theorem TotalsOf_both (xs : List (Int × ByteArray × Int)) (a : ByteArray) (h : Lm OkBooking xs) (ha : Sm a) : spec_TotalsOf.f xs a = some (totR xs a) ∧ impl_TotalsOf.f xs a = some (totR xs a) ∧ Lm (Rg .i64) (totR xs a).1 := by
  unfold totR
  refine ⟨?_, ?_, ?_⟩
  · unfold spec_TotalsOf.f spec_TotalsOf.fn spec_TotalsOf.top
    rw [spec_AreBookings_f xs h, spec_IsWord_f a (Nat.le_trans ha (by omega))]
    cases hb : booksB xs
    · rfl
    cases hw : wordB a
    · rfl
    have hv := booksB_val hb
    simp only [and_self, and_true, true_and, decide_true, decide_false, if_true, if_false, mid_get, mid_set, mid_getn, mid_setn, bt_mid, Option.bind_some, Bool.not_true, Bool.not_false, Bool.false_eq_true, Bool.true_eq_false, beq_self_eq_true, bne_self_eq_false, Int.toNat_natCast]
    rw [if_pos (by rw [room8]; omega)]
    exact spec_TotalsOf_l xs a hv.1 (by omega)
  · unfold impl_TotalsOf.f impl_TotalsOf.fn impl_TotalsOf.top
    rw [impl_AreBookings_f xs h, impl_IsWord_f a (Nat.le_trans ha (by omega))]
    cases hb : booksB xs
    · rfl
    cases hw : wordB a
    · rfl
    have hv := booksB_val hb
    simp only [and_self, and_true, true_and, decide_true, decide_false, if_true, if_false, mid_get, mid_set, mid_getn, mid_setn, bt_mid, Option.bind_some, Bool.not_true, Bool.not_false, Bool.false_eq_true, Bool.true_eq_false, beq_self_eq_true, bne_self_eq_false, Int.toNat_natCast]
    rw [impl_totalsOf_f xs a hv.1 (by omega)]; rfl
  · by_cases hb : booksB xs = true ∧ wordB a = true
    · rw [if_pos hb]
      have hv := booksB_val hb.1
      obtain ⟨t0, t1, t2, t3, e1, e2, e3, e4, e5, e6, e7⟩ := totL_shape a xs hv.1
      simp only [e1]
      refine ⟨by simp, fun c hc => wf64.2 ?_⟩
      simp at hc
      omega
    · rw [if_neg hb]; exact ⟨by simp, by simp⟩
theorem TotalsOf_core (xs : List (Int × ByteArray × Int)) (a : ByteArray) (h : Lm OkBooking xs) (ha : Sm a) : ∃ w, spec_TotalsOf.f xs a = some w ∧ impl_TotalsOf.f xs a = some w ∧ Lm (Rg .i64) w.1 :=
  ⟨_, (TotalsOf_both xs a h ha).1, (TotalsOf_both xs a h ha).2.1, (TotalsOf_both xs a h ha).2.2⟩
end Go.Pl

namespace Go.Pl
open Go.Ev
set_option linter.unusedVariables false
noncomputable section
def impl_BookPieces.top (list0 : List (Int × ByteArray × Int)) (b1 : Int × ByteArray × Int) : Option ((List (Int × ByteArray × Int)) × Int) :=
  (impl_AreBookings.f list0).bind fun r1 =>
  if (!r1) = true then
    some ([], 1)
  else if (((list0.length : Int) : Int) == 60) = true then
    some ([], 3)
  else if ([] : List (Int × ByteArray × Int)).length + list0.length < room 32 then
    if (([] : List (Int × ByteArray × Int)) ++ list0).length + ([b1]).length < room 32 then
      (impl_AreBookings.f ((([] : List (Int × ByteArray × Int)) ++ list0) ++ ([b1]))).bind fun r2 =>
      if (!r2) = true then
        some ([], 5)
      else
        some ((([] : List (Int × ByteArray × Int)) ++ list0) ++ ([b1]), 0)
    else
      none
  else
    none
def impl_BookPieces.fn (n : Nat) (list0 : List (Int × ByteArray × Int)) (b1 : Int × ByteArray × Int) : Option ((List (Int × ByteArray × Int)) × Int) := impl_BookPieces.top list0 b1
def impl_BookPieces.f (list0 : List (Int × ByteArray × Int)) (b1 : Int × ByteArray × Int) : Option ((List (Int × ByteArray × Int)) × Int) := impl_BookPieces.fn NN list0 b1
end
end Go.Pl

namespace Go.Pl
open Go.Ev
set_option linter.unusedVariables false
noncomputable section
def spec_BookPieces.top (list0 : List (Int × ByteArray × Int)) (b1 : Int × ByteArray × Int) : Option ((List (Int × ByteArray × Int)) × Int) :=
  (spec_AreBookings.f list0).bind fun r1 =>
  if (!r1) = true then
    some ([], 1)
  else if (((list0.length : Int) : Int) == 60) = true then
    some ([], 3)
  else if ([] : List (Int × ByteArray × Int)).length + list0.length < room 32 then
    if (([] : List (Int × ByteArray × Int)) ++ list0).length + ([b1]).length < room 32 then
      (spec_AreBookings.f ((([] : List (Int × ByteArray × Int)) ++ list0) ++ ([b1]))).bind fun r2 =>
      if (!r2) = true then
        some ([], 5)
      else
        some ((([] : List (Int × ByteArray × Int)) ++ list0) ++ ([b1]), 0)
    else
      none
  else
    none
def spec_BookPieces.fn (n : Nat) (list0 : List (Int × ByteArray × Int)) (b1 : Int × ByteArray × Int) : Option ((List (Int × ByteArray × Int)) × Int) := spec_BookPieces.top list0 b1
def spec_BookPieces.f (list0 : List (Int × ByteArray × Int)) (b1 : Int × ByteArray × Int) : Option ((List (Int × ByteArray × Int)) × Int) := spec_BookPieces.fn NN list0 b1
end
end Go.Pl

namespace Go.Pl
open Go.Ev
set_option linter.unusedVariables false
set_option linter.unusedSimpArgs false
theorem ok_snoc {α : Type} {Q : α → Prop} {xs : List α} {b : α} (h : Lm Q xs) (hb : Q b) (hl : xs.length < 1000000) : Lm Q (xs ++ [b]) :=
  ⟨by simp; omega, fun x hx => by
    rcases List.mem_append.1 hx with h1 | h1
    · exact h.2 x h1
    · rw [List.mem_singleton.1 h1]; exact hb⟩
def bookR (xs : List (Int × ByteArray × Int)) (b : Int × ByteArray × Int) : List (Int × ByteArray × Int) × Int :=
  if booksB xs = true then (if xs.length = 60 then ([], 3) else if booksB (xs ++ [b]) = true then (xs ++ [b], 0) else ([], 5)) else ([], 1)
theorem impl_BookPieces_f (xs : List (Int × ByteArray × Int)) (b : Int × ByteArray × Int) (h : Lm OkBooking xs) (hb : OkBooking b) : impl_BookPieces.f xs b = some (bookR xs b) := by
  unfold impl_BookPieces.f impl_BookPieces.fn impl_BookPieces.top bookR
  rw [impl_AreBookings_f xs h]
  cases hx : booksB xs
  · rfl
  have hv := booksB_val hx
  simp only [and_self, and_true, true_and, decide_true, decide_false, if_true, if_false, mid_get, mid_set, mid_getn, mid_setn, bt_mid, Option.bind_some, Bool.not_true, Bool.not_false, Bool.false_eq_true, Bool.true_eq_false, beq_self_eq_true, bne_self_eq_false, Int.toNat_natCast]
  by_cases h60 : xs.length = 60
  · simp [h60]
  · have e1 : ((xs.length : Int) == 60) = false := by rw [beq_eq_false_iff_ne]; omega
    have e2 : ([] : List (Int × ByteArray × Int)).length + xs.length < room 32 := by rw [room32]; simp; omega
    have e3 : (([] : List (Int × ByteArray × Int)) ++ xs).length + [b].length < room 32 := by rw [room32]; simp; omega
    simp only [e1, e2, e3, h60, and_self, and_true, true_and, decide_true, decide_false, if_true, if_false, mid_get, mid_set, mid_getn, mid_setn, bt_mid, Option.bind_some, Bool.not_true, Bool.not_false, Bool.false_eq_true, Bool.true_eq_false, beq_self_eq_true, bne_self_eq_false, Int.toNat_natCast]
    rw [List.nil_append, impl_AreBookings_f (xs ++ [b]) (ok_snoc h hb (by omega))]
    cases booksB (xs ++ [b]) <;> rfl
theorem spec_BookPieces_f (xs : List (Int × ByteArray × Int)) (b : Int × ByteArray × Int) (h : Lm OkBooking xs) (hb : OkBooking b) : spec_BookPieces.f xs b = some (bookR xs b) := by
  unfold spec_BookPieces.f spec_BookPieces.fn spec_BookPieces.top bookR
  rw [spec_AreBookings_f xs h]
  cases hx : booksB xs
  · rfl
  have hv := booksB_val hx
  simp only [and_self, and_true, true_and, decide_true, decide_false, if_true, if_false, mid_get, mid_set, mid_getn, mid_setn, bt_mid, Option.bind_some, Bool.not_true, Bool.not_false, Bool.false_eq_true, Bool.true_eq_false, beq_self_eq_true, bne_self_eq_false, Int.toNat_natCast]
  by_cases h60 : xs.length = 60
  · simp [h60]
  · have e1 : ((xs.length : Int) == 60) = false := by rw [beq_eq_false_iff_ne]; omega
    have e2 : ([] : List (Int × ByteArray × Int)).length + xs.length < room 32 := by rw [room32]; simp; omega
    have e3 : (([] : List (Int × ByteArray × Int)) ++ xs).length + [b].length < room 32 := by rw [room32]; simp; omega
    simp only [e1, e2, e3, h60, and_self, and_true, true_and, decide_true, decide_false, if_true, if_false, mid_get, mid_set, mid_getn, mid_setn, bt_mid, Option.bind_some, Bool.not_true, Bool.not_false, Bool.false_eq_true, Bool.true_eq_false, beq_self_eq_true, bne_self_eq_false, Int.toNat_natCast]
    rw [List.nil_append, spec_AreBookings_f (xs ++ [b]) (ok_snoc h hb (by omega))]
    cases booksB (xs ++ [b]) <;> rfl
theorem bookR_ok (xs : List (Int × ByteArray × Int)) (b : Int × ByteArray × Int) (h : Lm OkBooking xs) (hb : OkBooking b) : Lm OkBooking (bookR xs b).1 := by
  unfold bookR
  split
  · rename_i hx
    have hv := booksB_val hx
    split
    · exact ⟨by simp, by simp⟩
    · split
      · exact ok_snoc h hb (by omega)
      · exact ⟨by simp, by simp⟩
  · exact ⟨by simp, by simp⟩
theorem BookPieces_core (xs : List (Int × ByteArray × Int)) (b : Int × ByteArray × Int) (h : Lm OkBooking xs) (hb : OkBooking b) : ∃ w, spec_BookPieces.f xs b = some w ∧ impl_BookPieces.f xs b = some w ∧ Lm OkBooking w.1 :=
  ⟨_, spec_BookPieces_f xs b h hb, impl_BookPieces_f xs b h hb, bookR_ok xs b h hb⟩
end Go.Pl

namespace Go.Pl
open Go.Ev
set_option linter.unusedVariables false
noncomputable section
def laws_likeInts.g4 (L4 : List Int → List Int → Int → Option Bool) (a0 : List Int) (b1 : List Int) (i5 : Int) : Option Bool :=
  if (decide ((i5 : Int) < (a0.length : Int))) = true then
    if (0 : Int) ≤ i5 ∧ (i5 : Int) < a0.length then
      if (0 : Int) ≤ i5 ∧ (i5 : Int) < b1.length then
        if (((a0.getD (i5 : Int).toNat 0) : Int) != (b1.getD (i5 : Int).toNat 0)) = true then
          some false
        else
          L4 a0 b1 (IntKind.i64.wrap (i5 + 1))
      else
        none
    else
      none
  else
    some true
def laws_likeInts.l4 (n : Nat) : Nat → List Int → List Int → Int → Option Bool
  | 0 => fun _ _ _ => none
  | k + 1 => laws_likeInts.g4 (laws_likeInts.l4 n k)
def laws_likeInts.top (I4 : List Int → List Int → Int → Option Bool) (a0 : List Int) (b1 : List Int) : Option Bool :=
  if (((a0.length : Int) : Int) != (b1.length : Int)) = true then
    some false
  else
    I4 a0 b1 0
def laws_likeInts.fn (n : Nat) (a0 : List Int) (b1 : List Int) : Option Bool := laws_likeInts.top (laws_likeInts.l4 n n) a0 b1
def laws_likeInts.f (a0 : List Int) (b1 : List Int) : Option Bool := laws_likeInts.fn NN a0 b1
end
end Go.Pl

namespace Go.Pl
open Go.Ev
set_option linter.unusedVariables false
noncomputable section
def laws_hasInt.g2 (L2 : List Int → Int → Int → Option Bool) (list0 : List Int) (x1 : Int) (i5 : Int) : Option Bool :=
  if (decide ((i5 : Int) < (list0.length : Int))) = true then
    if (0 : Int) ≤ i5 ∧ (i5 : Int) < list0.length then
      if (((list0.getD (i5 : Int).toNat 0) : Int) == x1) = true then
        some true
      else
        L2 list0 x1 (IntKind.i64.wrap (i5 + 1))
    else
      none
  else
    some false
def laws_hasInt.l2 (n : Nat) : Nat → List Int → Int → Int → Option Bool
  | 0 => fun _ _ _ => none
  | k + 1 => laws_hasInt.g2 (laws_hasInt.l2 n k)
def laws_hasInt.top (I2 : List Int → Int → Int → Option Bool) (list0 : List Int) (x1 : Int) : Option Bool :=
  I2 list0 x1 0
def laws_hasInt.fn (n : Nat) (list0 : List Int) (x1 : Int) : Option Bool := laws_hasInt.top (laws_hasInt.l2 n n) list0 x1
def laws_hasInt.f (list0 : List Int) (x1 : Int) : Option Bool := laws_hasInt.fn NN list0 x1
end
end Go.Pl

namespace Go.Pl
open Go.Ev
set_option linter.unusedVariables false
set_option linter.unusedSimpArgs false
theorem likeInts_self (a : List Int) (hl : a.length ≤ 140737488355328) : laws_likeInts.f a a = some true := by
  unfold laws_likeInts.f laws_likeInts.fn laws_likeInts.top
  simp only [bne_self_eq_false, Bool.false_eq_true, if_false]
  refine eqS_loop (E := fun _ => True) (fun k a b i => laws_likeInts.l4 NN k a b i) a (fun _ _ => trivial) ?_ ?_ NN (NN_lt (by omega))
  · intro k p x r hx ha
    subst ha
    have hm := mid_len p r x
    have c1 : (p.length : Int) < ((p ++ x :: r).length : Int) := by omega
    have c0 : (0 : Int) ≤ (p.length : Int) := by omega
    have cw := w64 (n := (p.length : Int) + 1) (by omega) (by omega)
    simp only [laws_likeInts.l4, laws_likeInts.g4, c0, c1, cw, and_self, and_true, true_and, decide_true, decide_false, if_true, if_false, mid_get, mid_set, mid_getn, mid_setn, bt_mid, Option.bind_some, Bool.not_true, Bool.not_false, Bool.false_eq_true, Bool.true_eq_false, beq_self_eq_true, bne_self_eq_false, Int.toNat_natCast]
  · intro k
    simp [laws_likeInts.l4, laws_likeInts.g4]
theorem hasInt_f (xs : List Int) (x : Int) (hl : xs.length ≤ 140737488355328) : laws_hasInt.f xs x = some (decide (x ∈ xs)) := by
  have := find_loop (E := fun _ => True) (fun c : Int => c == x) (fun _ _ => some true) (fun _ => some false) (fun k xs i => laws_hasInt.l2 NN k xs x i) ?_ ?_ xs (fun _ _ => trivial) (by omega) NN (NN_lt (by omega))
  · refine this.trans ?_
    have key : ∀ (xs : List Int) (i : Nat), (firstOf (fun c : Int => c == x) i xs).elim (some false) (fun _ => some true) = some (decide (x ∈ xs)) := by
      intro xs
      induction xs with
      | nil => intro i; simp [firstOf]
      | cons a r ih =>
        intro i
        by_cases h : a = x
        · subst h; simp [firstOf]
        · have h1 : (a == x) = false := by rw [beq_eq_false_iff_ne]; exact h
          have h2 : ¬ x = a := fun e => h e.symm
          simp only [firstOf, h1, Bool.false_eq_true, if_false, List.mem_cons, h2, false_or]
          exact ih _
    exact key xs 0
  · intro k p
    simp [laws_hasInt.l2, laws_hasInt.g2]
  · intro k p a r _ c0 c1 c2 cw
    simp only [laws_hasInt.l2, laws_hasInt.g2, c0, c1, cw, and_self, and_true, true_and, decide_true, decide_false, if_true, if_false, mid_get, mid_set, mid_getn, mid_setn, bt_mid, Option.bind_some, Bool.not_true, Bool.not_false, Bool.false_eq_true, Bool.true_eq_false, beq_self_eq_true, bne_self_eq_false, Int.toNat_natCast]
end Go.Pl

namespace Go.Pl
open Go.Ev
set_option linter.unusedVariables false
noncomputable section
def spec_l03Names.top  : Option (List ByteArray) :=
  some ([(⟨#[97, 115, 116, 101, 114]⟩ : ByteArray), (⟨#[99, 111, 109, 101, 116]⟩ : ByteArray), (⟨#[100, 97, 104, 108, 105, 97]⟩ : ByteArray), (⟨#[112, 97, 108, 109]⟩ : ByteArray), (⟨#[112, 101, 111, 110, 121]⟩ : ByteArray), (⟨#[119, 105, 108, 108, 111, 119]⟩ : ByteArray)])
def spec_l03Names.fn (n : Nat)  : Option (List ByteArray) := spec_l03Names.top 
def spec_l03Names.f  : Option (List ByteArray) := spec_l03Names.fn NN 
end
end Go.Pl

namespace Go.Pl
open Go.Ev
set_option linter.unusedVariables false
noncomputable section
def spec_l01Good.top (s0 : List Int × Int × Int) : Option (ByteArray × List Int × Int × Int) :=
  (spec_l01Next.f s0 12).bind fun r1 =>
  if (0 : Int) ≤ r1.1 ∧ (r1.1 : Int) < ([(⟨#[97, 100, 97]⟩ : ByteArray), (⟨#[98, 114, 117, 110, 111]⟩ : ByteArray), (⟨#[99, 108, 97, 114, 97]⟩ : ByteArray), (⟨#[100, 111, 114, 97]⟩ : ByteArray), (⟨#[101, 109, 105, 108]⟩ : ByteArray), (⟨#[102, 114, 105, 100, 97]⟩ : ByteArray), (⟨#[103, 117, 115, 116, 97, 118]⟩ : ByteArray), (⟨#[104, 97, 110, 110, 97]⟩ : ByteArray), (⟨#[105, 118, 97, 110]⟩ : ByteArray), (⟨#[106, 97, 110, 97]⟩ : ByteArray), (⟨#[107, 97, 114, 108]⟩ : ByteArray), (⟨#[108, 101, 110, 97]⟩ : ByteArray)]).length then
    some (([(⟨#[97, 100, 97]⟩ : ByteArray), (⟨#[98, 114, 117, 110, 111]⟩ : ByteArray), (⟨#[99, 108, 97, 114, 97]⟩ : ByteArray), (⟨#[100, 111, 114, 97]⟩ : ByteArray), (⟨#[101, 109, 105, 108]⟩ : ByteArray), (⟨#[102, 114, 105, 100, 97]⟩ : ByteArray), (⟨#[103, 117, 115, 116, 97, 118]⟩ : ByteArray), (⟨#[104, 97, 110, 110, 97]⟩ : ByteArray), (⟨#[105, 118, 97, 110]⟩ : ByteArray), (⟨#[106, 97, 110, 97]⟩ : ByteArray), (⟨#[107, 97, 114, 108]⟩ : ByteArray), (⟨#[108, 101, 110, 97]⟩ : ByteArray)]).getD (r1.1 : Int).toNat ByteArray.empty, r1.2)
  else
    none
def spec_l01Good.fn (n : Nat) (s0 : List Int × Int × Int) : Option (ByteArray × List Int × Int × Int) := spec_l01Good.top s0
def spec_l01Good.f (s0 : List Int × Int × Int) : Option (ByteArray × List Int × Int × Int) := spec_l01Good.fn NN s0
end
end Go.Pl

namespace Go.Pl
open Go.Ev
set_option linter.unusedVariables false
noncomputable section
def spec_l01DrawWord.top (s0 : List Int × Int × Int) : Option (ByteArray × List Int × Int × Int) :=
  (spec_l01Next.f s0 24).bind fun r1 =>
  if ((r1.1 : Int) == 0) = true then
    (spec_l01Next.f r1.2 6).bind fun r2 =>
    if (0 : Int) ≤ r2.1 ∧ (r2.1 : Int) < ([(⟨#[]⟩ : ByteArray), (⟨#[65, 100, 97]⟩ : ByteArray), (⟨#[97, 49]⟩ : ByteArray), (⟨#[97, 98, 99, 100, 101, 102, 103, 104, 105, 106, 107, 108, 109, 110, 111, 112]⟩ : ByteArray), (⟨#[97, 98, 99, 100, 101, 102, 103, 104, 105, 106, 107, 108, 109, 110, 111, 112, 113]⟩ : ByteArray), (⟨#[97, 32, 98]⟩ : ByteArray)]).length then
      some (([(⟨#[]⟩ : ByteArray), (⟨#[65, 100, 97]⟩ : ByteArray), (⟨#[97, 49]⟩ : ByteArray), (⟨#[97, 98, 99, 100, 101, 102, 103, 104, 105, 106, 107, 108, 109, 110, 111, 112]⟩ : ByteArray), (⟨#[97, 98, 99, 100, 101, 102, 103, 104, 105, 106, 107, 108, 109, 110, 111, 112, 113]⟩ : ByteArray), (⟨#[97, 32, 98]⟩ : ByteArray)]).getD (r2.1 : Int).toNat ByteArray.empty, r2.2)
    else
      none
  else
    (spec_l01Good.f r1.2).bind fun r3 =>
    some (r3.1, r3.2)
def spec_l01DrawWord.fn (n : Nat) (s0 : List Int × Int × Int) : Option (ByteArray × List Int × Int × Int) := spec_l01DrawWord.top s0
def spec_l01DrawWord.f (s0 : List Int × Int × Int) : Option (ByteArray × List Int × Int × Int) := spec_l01DrawWord.fn NN s0
end
end Go.Pl

namespace Go.Pl
open Go.Ev
set_option linter.unusedVariables false
noncomputable section
def spec_l32Good.g4 (L4 : Int → (List Int × Int × Int) → (List (Int × ByteArray × Int)) → List ByteArray → Option ((List (Int × ByteArray × Int)) × List Int × Int × Int)) (n5 : Int) (s0 : List Int × Int × Int) (out3 : List (Int × ByteArray × Int)) (names4 : List ByteArray) : Option ((List (Int × ByteArray × Int)) × List Int × Int × Int) :=
  if (decide ((0 : Int) < n5)) = true then
    (spec_l01Next.f s0 4).bind fun r3 =>
    (spec_l01Next.f r3.2 4).bind fun r4 =>
    if (0 : Int) ≤ r4.1 ∧ (r4.1 : Int) < names4.length then
      (spec_l01Next.f r4.2 12).bind fun r5 =>
      (spec_l32Left.f out3 (names4.getD (r4.1 : Int).toNat ByteArray.empty) (out3.length : Int)).bind fun r6 =>
      if (decide ((0 : Int) < r3.1)) = true then
        if (decide ((0 : Int) < r6)) = true then
          (spec_l01Next.f r5.2 2).bind fun r7 =>
          if ((r7.1 : Int) == 0) = true then
            if ((r6 : Int) == 0) = true then
              (spec_BookPieces.f out3 (0, (names4.getD (r4.1 : Int).toNat ByteArray.empty, (if r6 < 1000 then r6 else 1000)))).bind fun r8 =>
              if ((r8.2 : Int) == 0) = true then
                L4 (IntKind.i64.wrap (n5 - 1)) r7.2 r8.1 names4
              else
                L4 (IntKind.i64.wrap (n5 - 1)) r7.2 out3 names4
            else
              (spec_BookPieces.f out3 (r3.1, (names4.getD (r4.1 : Int).toNat ByteArray.empty, (if r6 < 1000 then r6 else 1000)))).bind fun r9 =>
              if ((r9.2 : Int) == 0) = true then
                L4 (IntKind.i64.wrap (n5 - 1)) r7.2 r9.1 names4
              else
                L4 (IntKind.i64.wrap (n5 - 1)) r7.2 out3 names4
          else if ((r6 : Int) == 0) = true then
            (spec_BookPieces.f out3 (0, (names4.getD (r4.1 : Int).toNat ByteArray.empty, IntKind.i64.wrap (1 + r5.1)))).bind fun r10 =>
            if ((r10.2 : Int) == 0) = true then
              L4 (IntKind.i64.wrap (n5 - 1)) r7.2 r10.1 names4
            else
              L4 (IntKind.i64.wrap (n5 - 1)) r7.2 out3 names4
          else
            (spec_BookPieces.f out3 (r3.1, (names4.getD (r4.1 : Int).toNat ByteArray.empty, IntKind.i64.wrap (1 + r5.1)))).bind fun r11 =>
            if ((r11.2 : Int) == 0) = true then
              L4 (IntKind.i64.wrap (n5 - 1)) r7.2 r11.1 names4
            else
              L4 (IntKind.i64.wrap (n5 - 1)) r7.2 out3 names4
        else if ((r6 : Int) == 0) = true then
          (spec_BookPieces.f out3 (0, (names4.getD (r4.1 : Int).toNat ByteArray.empty, IntKind.i64.wrap (1 + r5.1)))).bind fun r12 =>
          if ((r12.2 : Int) == 0) = true then
            L4 (IntKind.i64.wrap (n5 - 1)) r5.2 r12.1 names4
          else
            L4 (IntKind.i64.wrap (n5 - 1)) r5.2 out3 names4
        else
          (spec_BookPieces.f out3 (r3.1, (names4.getD (r4.1 : Int).toNat ByteArray.empty, IntKind.i64.wrap (1 + r5.1)))).bind fun r13 =>
          if ((r13.2 : Int) == 0) = true then
            L4 (IntKind.i64.wrap (n5 - 1)) r5.2 r13.1 names4
          else
            L4 (IntKind.i64.wrap (n5 - 1)) r5.2 out3 names4
      else if ((r6 : Int) == 0) = true then
        (spec_BookPieces.f out3 (0, (names4.getD (r4.1 : Int).toNat ByteArray.empty, IntKind.i64.wrap (1 + r5.1)))).bind fun r14 =>
        if ((r14.2 : Int) == 0) = true then
          L4 (IntKind.i64.wrap (n5 - 1)) r5.2 r14.1 names4
        else
          L4 (IntKind.i64.wrap (n5 - 1)) r5.2 out3 names4
      else
        (spec_BookPieces.f out3 (r3.1, (names4.getD (r4.1 : Int).toNat ByteArray.empty, IntKind.i64.wrap (1 + r5.1)))).bind fun r15 =>
        if ((r15.2 : Int) == 0) = true then
          L4 (IntKind.i64.wrap (n5 - 1)) r5.2 r15.1 names4
        else
          L4 (IntKind.i64.wrap (n5 - 1)) r5.2 out3 names4
    else
      none
  else
    some (out3, s0)
def spec_l32Good.l4 (n : Nat) : Nat → Int → (List Int × Int × Int) → (List (Int × ByteArray × Int)) → List ByteArray → Option ((List (Int × ByteArray × Int)) × List Int × Int × Int)
  | 0 => fun _ _ _ _ => none
  | k + 1 => spec_l32Good.g4 (spec_l32Good.l4 n k)
def spec_l32Good.top (I4 : Int → (List Int × Int × Int) → (List (Int × ByteArray × Int)) → List ByteArray → Option ((List (Int × ByteArray × Int)) × List Int × Int × Int)) (s0 : List Int × Int × Int) : Option ((List (Int × ByteArray × Int)) × List Int × Int × Int) :=
  (spec_l03Names.f).bind fun r1 =>
  (spec_l01Next.f s0 10).bind fun r2 =>
  I4 r2.1 r2.2 [] r1
def spec_l32Good.fn (n : Nat) (s0 : List Int × Int × Int) : Option ((List (Int × ByteArray × Int)) × List Int × Int × Int) := spec_l32Good.top (spec_l32Good.l4 n n) s0
def spec_l32Good.f (s0 : List Int × Int × Int) : Option ((List (Int × ByteArray × Int)) × List Int × Int × Int) := spec_l32Good.fn NN s0
end
end Go.Pl

namespace Go.Pl
open Go.Ev
set_option linter.unusedVariables false
noncomputable section
def spec_l32Draw.g6 (L6 : (List Int × Int × Int) → (List (Int × ByteArray × Int)) → Option ((List (Int × ByteArray × Int)) × List Int × Int × Int)) (s0 : List Int × Int × Int) (out3 : List (Int × ByteArray × Int)) : Option ((List (Int × ByteArray × Int)) × List Int × Int × Int) :=
  (spec_l01Next.f s0 2).bind fun r6 =>
  if (decide (((out3.length : Int) : Int) < (IntKind.i64.wrap (60 + r6.1)))) = true then
    if out3.length + ([(0, ((⟨#[112, 97, 108, 109]⟩ : ByteArray), 1))]).length < room 32 then
      L6 r6.2 (out3 ++ ([(0, ((⟨#[112, 97, 108, 109]⟩ : ByteArray), 1))]))
    else
      none
  else
    some (out3, r6.2)
def spec_l32Draw.l6 (n : Nat) : Nat → (List Int × Int × Int) → (List (Int × ByteArray × Int)) → Option ((List (Int × ByteArray × Int)) × List Int × Int × Int)
  | 0 => fun _ _ => none
  | k + 1 => spec_l32Draw.g6 (spec_l32Draw.l6 n k)
def spec_l32Draw.top (I6 : (List Int × Int × Int) → (List (Int × ByteArray × Int)) → Option ((List (Int × ByteArray × Int)) × List Int × Int × Int)) (s0 : List Int × Int × Int) : Option ((List (Int × ByteArray × Int)) × List Int × Int × Int) :=
  (spec_l32Good.f s0).bind fun r1 =>
  (spec_l01Next.f r1.2 30).bind fun r2 =>
  if ((r2.1 : Int) == 0) = true then
    (spec_l01Next.f r2.2 6).bind fun r3 =>
    (spec_l01DrawWord.f r3.2).bind fun r4 =>
    (spec_l01Pick.f r4.2 ([0, 1, 1000, 1001])).bind fun r5 =>
    if r1.1.length + ([(IntKind.i64.wrap (r3.1 - 1), (r4.1, r5.1))]).length < room 32 then
      some (r1.1 ++ ([(IntKind.i64.wrap (r3.1 - 1), (r4.1, r5.1))]), r5.2)
    else
      none
  else if ((r2.1 : Int) == 1) = true then
    I6 r2.2 r1.1
  else if ((r2.1 : Int) == 2) = true then
    if r1.1.length + ([(0, ((⟨#[97, 115, 116, 101, 114]⟩ : ByteArray), 1000)), (0, ((⟨#[97, 115, 116, 101, 114]⟩ : ByteArray), 700))]).length < room 32 then
      some (r1.1 ++ ([(0, ((⟨#[97, 115, 116, 101, 114]⟩ : ByteArray), 1000)), (0, ((⟨#[97, 115, 116, 101, 114]⟩ : ByteArray), 700))]), r2.2)
    else
      none
  else
    some (r1.1, r2.2)
def spec_l32Draw.fn (n : Nat) (s0 : List Int × Int × Int) : Option ((List (Int × ByteArray × Int)) × List Int × Int × Int) := spec_l32Draw.top (spec_l32Draw.l6 n n) s0
def spec_l32Draw.f (s0 : List Int × Int × Int) : Option ((List (Int × ByteArray × Int)) × List Int × Int × Int) := spec_l32Draw.fn NN s0
end
end Go.Pl

namespace Go.Pl
open Go.Ev
set_option linter.unusedVariables false
noncomputable section
def spec_DrawBookPieces.top (code0 : List Int) : Option ((List (Int × ByteArray × Int)) × Int × ByteArray × Int) :=
  (spec_l01From.f code0).bind fun r1 =>
  (spec_l32Draw.f r1).bind fun r2 =>
  (spec_l01Next.f r2.2 4).bind fun r3 =>
  (spec_l03Names.f).bind fun r4 =>
  (spec_l01Next.f r3.2 5).bind fun r5 =>
  if (0 : Int) ≤ r5.1 ∧ (r5.1 : Int) < r4.length then
    (spec_l01Next.f r5.2 12).bind fun r6 =>
    (spec_l01Next.f r6.2 4).bind fun r7 =>
    (spec_l01Pick.f r7.2 ([IntKind.i64.wrap (1 + r6.1), 1, 1000, 1001, IntKind.i64.wrap (1 + r7.1)])).bind fun r8 =>
    some (r2.1, (r3.1, (r4.getD (r5.1 : Int).toNat ByteArray.empty, r8.1)))
  else
    none
def spec_DrawBookPieces.fn (n : Nat) (code0 : List Int) : Option ((List (Int × ByteArray × Int)) × Int × ByteArray × Int) := spec_DrawBookPieces.top code0
def spec_DrawBookPieces.f (code0 : List Int) : Option ((List (Int × ByteArray × Int)) × Int × ByteArray × Int) := spec_DrawBookPieces.fn NN code0
end
end Go.Pl

namespace Go.Pl
open Go.Ev
set_option linter.unusedVariables false
noncomputable section
def spec_DrawPiecesLeft.top (code0 : List Int) : Option ((List (Int × ByteArray × Int)) × ByteArray) :=
  (spec_l01From.f code0).bind fun r1 =>
  (spec_l32Draw.f r1).bind fun r2 =>
  (spec_l01Next.f r2.2 16).bind fun r3 =>
  if ((r3.1 : Int) == 0) = true then
    (spec_l01DrawWord.f r3.2).bind fun r4 =>
    some (r2.1, r4.1)
  else
    (spec_l03Names.f).bind fun r5 =>
    (spec_l01Next.f r3.2 5).bind fun r6 =>
    if (0 : Int) ≤ r6.1 ∧ (r6.1 : Int) < r5.length then
      some (r2.1, r5.getD (r6.1 : Int).toNat ByteArray.empty)
    else
      none
def spec_DrawPiecesLeft.fn (n : Nat) (code0 : List Int) : Option ((List (Int × ByteArray × Int)) × ByteArray) := spec_DrawPiecesLeft.top code0
def spec_DrawPiecesLeft.f (code0 : List Int) : Option ((List (Int × ByteArray × Int)) × ByteArray) := spec_DrawPiecesLeft.fn NN code0
end
end Go.Pl

namespace Go.Pl
open Go.Ev
set_option linter.unusedVariables false
noncomputable section
def spec_DrawTotalsOf.top (code0 : List Int) : Option ((List (Int × ByteArray × Int)) × ByteArray) :=
  (spec_DrawPiecesLeft.f code0).bind fun r1 =>
  some (r1.1, r1.2)
def spec_DrawTotalsOf.fn (n : Nat) (code0 : List Int) : Option ((List (Int × ByteArray × Int)) × ByteArray) := spec_DrawTotalsOf.top code0
def spec_DrawTotalsOf.f (code0 : List Int) : Option ((List (Int × ByteArray × Int)) × ByteArray) := spec_DrawTotalsOf.fn NN code0
end
end Go.Pl

namespace Go.Pl
open Go.Ev
set_option linter.unusedVariables false
noncomputable section
def laws_likeBookings.g4 (L4 : (List (Int × ByteArray × Int)) → (List (Int × ByteArray × Int)) → Int → Option Bool) (a0 : List (Int × ByteArray × Int)) (b1 : List (Int × ByteArray × Int)) (i5 : Int) : Option Bool :=
  if (decide ((i5 : Int) < (a0.length : Int))) = true then
    if (0 : Int) ≤ i5 ∧ (i5 : Int) < a0.length then
      if (0 : Int) ≤ i5 ∧ (i5 : Int) < b1.length then
        if (!(((((a0.getD (i5 : Int).toNat (0, (ByteArray.empty, 0))).1) : Int) == ((b1.getD (i5 : Int).toNat (0, (ByteArray.empty, 0))).1)) && (((((a0.getD (i5 : Int).toNat (0, (ByteArray.empty, 0))).2).1).toList == (((b1.getD (i5 : Int).toNat (0, (ByteArray.empty, 0))).2).1).toList) && (((((a0.getD (i5 : Int).toNat (0, (ByteArray.empty, 0))).2).2) : Int) == (((b1.getD (i5 : Int).toNat (0, (ByteArray.empty, 0))).2).2))))) = true then
          some false
        else
          L4 a0 b1 (IntKind.i64.wrap (i5 + 1))
      else
        none
    else
      none
  else
    some true
def laws_likeBookings.l4 (n : Nat) : Nat → (List (Int × ByteArray × Int)) → (List (Int × ByteArray × Int)) → Int → Option Bool
  | 0 => fun _ _ _ => none
  | k + 1 => laws_likeBookings.g4 (laws_likeBookings.l4 n k)
def laws_likeBookings.top (I4 : (List (Int × ByteArray × Int)) → (List (Int × ByteArray × Int)) → Int → Option Bool) (a0 : List (Int × ByteArray × Int)) (b1 : List (Int × ByteArray × Int)) : Option Bool :=
  if (((a0.length : Int) : Int) != (b1.length : Int)) = true then
    some false
  else
    I4 a0 b1 0
def laws_likeBookings.fn (n : Nat) (a0 : List (Int × ByteArray × Int)) (b1 : List (Int × ByteArray × Int)) : Option Bool := laws_likeBookings.top (laws_likeBookings.l4 n n) a0 b1
def laws_likeBookings.f (a0 : List (Int × ByteArray × Int)) (b1 : List (Int × ByteArray × Int)) : Option Bool := laws_likeBookings.fn NN a0 b1
end
end Go.Pl

namespace Go.Pl
open Go.Ev
set_option linter.unusedVariables false
set_option linter.unusedSimpArgs false
theorem getB_mem {xs : List ByteArray} {i : Nat} (h : i < xs.length) : xs.getD i ByteArray.empty ∈ xs := by
  rw [List.getD_eq_getElem?_getD, List.getElem?_eq_getElem h]; exact List.getElem_mem h
def names6 : List ByteArray := [(⟨#[97, 115, 116, 101, 114]⟩ : ByteArray), (⟨#[99, 111, 109, 101, 116]⟩ : ByteArray), (⟨#[100, 97, 104, 108, 105, 97]⟩ : ByteArray), (⟨#[112, 97, 108, 109]⟩ : ByteArray), (⟨#[112, 101, 111, 110, 121]⟩ : ByteArray), (⟨#[119, 105, 108, 108, 111, 119]⟩ : ByteArray)]
theorem names_f : spec_l03Names.f = some names6 := rfl
theorem names6_len : names6.length = 6 := rfl
theorem names6_sm : ∀ c ∈ names6, Sm c := by
  intro c hc
  unfold names6 at hc
  simp only [List.mem_cons, List.not_mem_nil, or_false] at hc
  unfold Sm
  rcases hc with h | h | h | h | h | h <;> (rw [h]; exact Nat.le_of_ble_eq_true rfl)
theorem good01_ok {s : List Int × Int × Int} (hs : SrcOk s) : ∃ u s', spec_l01Good.f s = some (u, s') ∧ SrcOk s' ∧ Sm u := by
  unfold spec_l01Good.f spec_l01Good.fn spec_l01Good.top
  obtain ⟨a, s1, e1, o1, a0, a1⟩ := next_ok hs 12 (by omega)
  rw [e1]
  simp only [Option.bind_some]
  rw [if_pos ⟨a0, by simp only [List.length_cons, List.length_nil]; omega⟩]
  refine ⟨_, _, rfl, o1, ?_⟩
  have hm := getB_mem (xs := [(⟨#[97, 100, 97]⟩ : ByteArray), (⟨#[98, 114, 117, 110, 111]⟩ : ByteArray), (⟨#[99, 108, 97, 114, 97]⟩ : ByteArray), (⟨#[100, 111, 114, 97]⟩ : ByteArray), (⟨#[101, 109, 105, 108]⟩ : ByteArray), (⟨#[102, 114, 105, 100, 97]⟩ : ByteArray), (⟨#[103, 117, 115, 116, 97, 118]⟩ : ByteArray), (⟨#[104, 97, 110, 110, 97]⟩ : ByteArray), (⟨#[105, 118, 97, 110]⟩ : ByteArray), (⟨#[106, 97, 110, 97]⟩ : ByteArray), (⟨#[107, 97, 114, 108]⟩ : ByteArray), (⟨#[108, 101, 110, 97]⟩ : ByteArray)]) (i := a.toNat) (by simp only [List.length_cons, List.length_nil]; omega)
  revert hm
  generalize List.getD _ a.toNat ByteArray.empty = c
  intro hc
  simp only [List.mem_cons, List.not_mem_nil, or_false] at hc
  unfold Sm
  rcases hc with h | h | h | h | h | h | h | h | h | h | h | h <;> (rw [h]; exact Nat.le_of_ble_eq_true rfl)
theorem drawWord_ok {s : List Int × Int × Int} (hs : SrcOk s) : ∃ u s', spec_l01DrawWord.f s = some (u, s') ∧ SrcOk s' ∧ Sm u := by
  unfold spec_l01DrawWord.f spec_l01DrawWord.fn spec_l01DrawWord.top
  obtain ⟨a, s1, e1, o1, a0, a1⟩ := next_ok hs 24 (by omega)
  obtain ⟨b, s2, e2, o2, b0, b1⟩ := next_ok o1 6 (by omega)
  obtain ⟨u, s3, e3, o3, u1⟩ := good01_ok o1
  rw [e1]
  simp only [Option.bind_some, e2, e3]
  split
  · rw [if_pos ⟨b0, by simp only [List.length_cons, List.length_nil]; omega⟩]
    refine ⟨_, _, rfl, o2, ?_⟩
    have hm := getB_mem (xs := [(⟨#[]⟩ : ByteArray), (⟨#[65, 100, 97]⟩ : ByteArray), (⟨#[97, 49]⟩ : ByteArray), (⟨#[97, 98, 99, 100, 101, 102, 103, 104, 105, 106, 107, 108, 109, 110, 111, 112]⟩ : ByteArray), (⟨#[97, 98, 99, 100, 101, 102, 103, 104, 105, 106, 107, 108, 109, 110, 111, 112, 113]⟩ : ByteArray), (⟨#[97, 32, 98]⟩ : ByteArray)]) (i := b.toNat) (by simp only [List.length_cons, List.length_nil]; omega)
    revert hm
    generalize List.getD _ b.toNat ByteArray.empty = c
    intro hc
    simp only [List.mem_cons, List.not_mem_nil, or_false] at hc
    unfold Sm
    rcases hc with h | h | h | h | h | h <;> (rw [h]; exact Nat.le_of_ble_eq_true rfl)
  · exact ⟨_, _, rfl, o3, u1⟩
theorem mkB {a c : Int} {n : ByteArray} (h1 : -9223372036854775808 ≤ a ∧ a ≤ 9223372036854775807) (h2 : Sm n) (h3 : -9223372036854775808 ≤ c ∧ c ≤ 9223372036854775807) : OkBooking (a, n, c) := ⟨wf64.2 h1, h2, wf64.2 h3⟩
theorem bookR_zero {xs : List (Int × ByteArray × Int)} {b : Int × ByteArray × Int} (h : (bookR xs b).2 = 0) : booksB xs = true ∧ (bookR xs b).1 = xs ++ [b] ∧ booksB (xs ++ [b]) = true := by
  unfold bookR at h ⊢
  by_cases h1 : booksB xs = true
  · rw [if_pos h1] at h ⊢
    by_cases h2 : xs.length = 60
    · rw [if_pos h2] at h; simp at h
    · rw [if_neg h2] at h ⊢
      by_cases h3 : booksB (xs ++ [b]) = true
      · rw [if_pos h3]; exact ⟨h1, rfl, h3⟩
      · rw [if_neg h3] at h; simp at h
  · rw [if_neg h1] at h; simp at h
theorem bookR_one (xs : List (Int × ByteArray × Int)) (b : Int × ByteArray × Int) : ((bookR xs b).2 != 1) = booksB xs := by
  unfold bookR
  cases h1 : booksB xs
  · rfl
  · by_cases h2 : xs.length = 60
    · simp [h2]
    · by_cases h3 : booksB (xs ++ [b]) = true
      · simp [h2, h3]
      · simp [h2, h3]
theorem good32_l : ∀ (d k : Nat) (s : List Int × Int × Int) (out : List (Int × ByteArray × Int)), d < k → d ≤ 1000 → SrcOk s → booksB out = true → Lm OkBooking out →
    ∃ o' s', spec_l32Good.l4 NN k d s out names6 = some (o', s') ∧ SrcOk s' ∧ booksB o' = true ∧ Lm OkBooking o' := by
  intro d
  induction d with
  | zero =>
    intro k s out hk _ hs hb hl
    obtain ⟨k, rfl⟩ : ∃ j, k = j + 1 := ⟨k - 1, by omega⟩
    exact ⟨out, s, by simp [spec_l32Good.l4, spec_l32Good.g4], hs, hb, hl⟩
  | succ d ih =>
    intro k s out hk hd hs hb hl
    obtain ⟨k, rfl⟩ : ∃ j, k = j + 1 := ⟨k - 1, by omega⟩
    obtain ⟨a, s1, e1, o1, a0, a1⟩ := next_ok hs 4 (by omega)
    obtain ⟨c, s2, e2, o2, c0, c1⟩ := next_ok o1 4 (by omega)
    obtain ⟨n, s3, e3, o3, n0, n1⟩ := next_ok o2 12 (by omega)
    obtain ⟨f, s4, e4, o4, f0, f1⟩ := next_ok o3 2 (by omega)
    have hv := booksB_val hb
    have hc : c < (names6.length : Int) := by rw [names6_len]; omega
    have hm := names6_sm _ (getB_mem (show c.toNat < names6.length by rw [names6_len]; omega))
    have hleft := leftOf_le (names6.getD c.toNat ByteArray.empty) out hv.1
    have z := l32Left_all out (names6.getD c.toNat ByteArray.empty) hv.1 (by omega)
    have hv2 := hv.2
    have w1 : IntKind.i64.wrap (((d + 1 : Nat) : Int) - 1) = (d : Int) := by rw [w64 (by omega) (by omega)]; omega
    have w2 := w64 (n := 1 + n) (by omega) (by omega)
    have bk : ∀ (b : Int × ByteArray × Int) (s' : List Int × Int × Int), OkBooking b → SrcOk s' → ∃ o' s'', ((spec_BookPieces.f out b).bind fun r => if ((r.2 : Int) == 0) = true then spec_l32Good.l4 NN k d s' r.1 names6 else spec_l32Good.l4 NN k d s' out names6) = some (o', s'') ∧ SrcOk s'' ∧ booksB o' = true ∧ Lm OkBooking o' := by
      intro b s' hb' hs'
      rw [spec_BookPieces_f out b hl hb']
      simp only [Option.bind_some]
      by_cases h0 : (bookR out b).2 = 0
      · rw [if_pos (by rw [h0]; rfl)]
        have := bookR_zero h0
        exact ih k s' _ (by omega) (by omega) hs' (by rw [this.2.1]; exact this.2.2) (bookR_ok out b hl hb')
      · rw [if_neg (by simpa using h0)]
        exact ih k s' out (by omega) (by omega) hs' hb hl
    simp only [spec_l32Good.l4, spec_l32Good.g4, show (0 : Int) < ((d + 1 : Nat) : Int) from by omega, decide_true, if_true, e1, e2, e3, e4, z, hc, c0, and_self, Option.bind_some, w1, w2]
    generalize names6.getD c.toNat ByteArray.empty = nm at hm hleft
    generalize leftOf out nm = lf at hleft
    have hmin : -9223372036854775808 ≤ (if lf < 1000 then lf else 1000) ∧ (if lf < 1000 then lf else 1000) ≤ 9223372036854775807 := by split <;> omega
    generalize (if lf < 1000 then lf else 1000) = mn at hmin
    by_cases h1 : 0 < a
    · by_cases h2 : 0 < lf
      · have f4 : (lf == 0) = false := by rw [beq_eq_false_iff_ne]; omega
        by_cases h3 : f = 0
        · have f3 : (f == 0) = true := by rw [h3]; rfl
          simp only [decide_eq_true h1, decide_eq_true h2, f3, f4, if_true, Bool.false_eq_true, if_false]
          exact bk (a, nm, mn) s4 (mkB (by omega) hm hmin) o4
        · have f3 : (f == 0) = false := by rw [beq_eq_false_iff_ne]; exact h3
          simp only [decide_eq_true h1, decide_eq_true h2, f3, f4, if_true, Bool.false_eq_true, if_false]
          exact bk (a, nm, 1 + n) s4 (mkB (by omega) hm (by omega)) o4
      · by_cases h4 : lf = 0
        · have f4 : (lf == 0) = true := by rw [h4]; rfl
          simp only [decide_eq_true h1, decide_eq_false h2, f4, if_true, Bool.false_eq_true, if_false]
          exact bk (0, nm, 1 + n) s3 (mkB (by omega) hm (by omega)) o3
        · have f4 : (lf == 0) = false := by rw [beq_eq_false_iff_ne]; exact h4
          simp only [decide_eq_true h1, decide_eq_false h2, f4, if_true, Bool.false_eq_true, if_false]
          exact bk (a, nm, 1 + n) s3 (mkB (by omega) hm (by omega)) o3
    · by_cases h4 : lf = 0
      · have f4 : (lf == 0) = true := by rw [h4]; rfl
        simp only [decide_eq_false h1, f4, if_true, Bool.false_eq_true, if_false]
        exact bk (0, nm, 1 + n) s3 (mkB (by omega) hm (by omega)) o3
      · have f4 : (lf == 0) = false := by rw [beq_eq_false_iff_ne]; exact h4
        simp only [decide_eq_false h1, f4, if_true, Bool.false_eq_true, if_false]
        exact bk (a, nm, 1 + n) s3 (mkB (by omega) hm (by omega)) o3
theorem good32_ok {s : List Int × Int × Int} (hs : SrcOk s) : ∃ o s', spec_l32Good.f s = some (o, s') ∧ SrcOk s' ∧ booksB o = true ∧ Lm OkBooking o := by
  unfold spec_l32Good.f spec_l32Good.fn spec_l32Good.top
  obtain ⟨n, s1, e1, o1, n0, n1⟩ := next_ok hs 10 (by omega)
  obtain ⟨N, hN⟩ := Int.eq_ofNat_of_zero_le n0
  subst hN
  simp only [names_f, e1, Option.bind_some]
  exact good32_l N NN s1 [] (NN_lt (by omega)) (by omega) o1 rfl ⟨by simp, by simp⟩
theorem draw32_l : ∀ (d k : Nat) (s : List Int × Int × Int) (out : List (Int × ByteArray × Int)), out.length + d = 62 → d < k → SrcOk s → Lm OkBooking out →
    ∃ o s', spec_l32Draw.l6 NN k s out = some (o, s') ∧ SrcOk s' ∧ Lm OkBooking o := by
  intro d
  induction d with
  | zero =>
    intro k s out hd hk hs hl
    obtain ⟨k, rfl⟩ : ∃ j, k = j + 1 := ⟨k - 1, by omega⟩
    obtain ⟨a, s1, e1, o1, a0, a1⟩ := next_ok hs 2 (by omega)
    have w := w64 (n := 60 + a) (by omega) (by omega)
    have n1 : ¬ (out.length : Int) < 60 + a := by omega
    simp only [spec_l32Draw.l6, spec_l32Draw.g6, e1, Option.bind_some, w, n1, decide_false, Bool.false_eq_true, if_false]
    exact ⟨_, _, rfl, o1, hl⟩
  | succ d ih =>
    intro k s out hd hk hs hl
    obtain ⟨k, rfl⟩ : ∃ j, k = j + 1 := ⟨k - 1, by omega⟩
    obtain ⟨a, s1, e1, o1, a0, a1⟩ := next_ok hs 2 (by omega)
    have w := w64 (n := 60 + a) (by omega) (by omega)
    by_cases n1 : (out.length : Int) < 60 + a
    · simp only [spec_l32Draw.l6, spec_l32Draw.g6, e1, Option.bind_some, w, n1, decide_true, if_true]
      rw [if_pos (by rw [room32]; simp; omega)]
      exact ih k s1 _ (by simp; omega) (by omega) o1 (ok_snoc hl (mkB (by omega) (Nat.le_of_ble_eq_true rfl) (by omega)) (by omega))
    · simp only [spec_l32Draw.l6, spec_l32Draw.g6, e1, Option.bind_some, w, n1, decide_false, Bool.false_eq_true, if_false]
      exact ⟨_, _, rfl, o1, hl⟩
theorem draw32_ok {s : List Int × Int × Int} (hs : SrcOk s) : ∃ o s', spec_l32Draw.f s = some (o, s') ∧ SrcOk s' ∧ Lm OkBooking o := by
  unfold spec_l32Draw.f spec_l32Draw.fn spec_l32Draw.top
  obtain ⟨o, s1, e1, o1, b1, l1⟩ := good32_ok hs
  have hv := (booksB_val b1).2
  obtain ⟨x, s2, e2, o2, x0, x1⟩ := next_ok o1 30 (by omega)
  obtain ⟨y, s3, e3, o3, y0, y1⟩ := next_ok o2 6 (by omega)
  obtain ⟨u, s4, e4, o4, u1⟩ := drawWord_ok o3
  obtain ⟨c, s5, e5, o5, c1⟩ := pick_ok o4 [0, 1, 1000, 1001] (by simp) (by simp)
  have hc : 0 ≤ c ∧ c ≤ 1001 := by simp at c1; omega
  have w := w64 (n := y - 1) (by omega) (by omega)
  simp only [e1, e2, e3, e4, e5, Option.bind_some, w]
  by_cases h0 : x = 0
  · simp only [h0, beq_self_eq_true, if_true]
    rw [if_pos (by rw [room32]; simp; omega)]
    exact ⟨_, _, rfl, o5, ok_snoc l1 (mkB (by omega) u1 (by omega)) (by omega)⟩
  · by_cases h1 : x = 1
    · simp only [h1, beq_iff_eq, show ¬ (1 : Int) = 0 from by omega, if_true, if_false]
      exact draw32_l (62 - o.length) NN s2 o (by omega) (NN_lt (by omega)) o2 l1
    · by_cases h2 : x = 2
      · simp only [h2, beq_iff_eq, show ¬ (2 : Int) = 0 from by omega, show ¬ (2 : Int) = 1 from by omega, if_true, if_false]
        rw [if_pos (by rw [room32]; simp; omega)]
        refine ⟨_, _, rfl, o2, ?_⟩
        have q1 := ok_snoc l1 (mkB (a := 0) (n := (⟨#[97, 115, 116, 101, 114]⟩ : ByteArray)) (c := 1000) (by omega) (Nat.le_of_ble_eq_true rfl) (by omega)) (by omega)
        have q2 := ok_snoc q1 (mkB (a := 0) (n := (⟨#[97, 115, 116, 101, 114]⟩ : ByteArray)) (c := 700) (by omega) (Nat.le_of_ble_eq_true rfl) (by omega)) (by simp; omega)
        rw [List.append_assoc] at q2
        exact q2
      · simp only [h0, h1, h2, beq_iff_eq, if_false]
        exact ⟨_, _, rfl, o2, l1⟩
theorem drawBook_ok {code : List Int} (h : CodeOk code) : ∃ o b, spec_DrawBookPieces.f code = some (o, b) ∧ Lm OkBooking o ∧ OkBooking b := by
  unfold spec_DrawBookPieces.f spec_DrawBookPieces.fn spec_DrawBookPieces.top
  obtain ⟨s, e, ho⟩ := from_ok h
  obtain ⟨o, s1, e1, o1, l1⟩ := draw32_ok ho
  obtain ⟨x, s2, e2, o2, x0, x1⟩ := next_ok o1 4 (by omega)
  obtain ⟨y, s3, e3, o3, y0, y1⟩ := next_ok o2 5 (by omega)
  obtain ⟨m, s4, e4, o4, m0, m1⟩ := next_ok o3 12 (by omega)
  obtain ⟨n, s5, e5, o5, n0, n1⟩ := next_ok o4 4 (by omega)
  have w1 := w64 (n := 1 + m) (by omega) (by omega)
  have w2 := w64 (n := 1 + n) (by omega) (by omega)
  obtain ⟨c, s6, e6, o6, c1⟩ := pick_ok o5 [1 + m, 1, 1000, 1001, 1 + n] (by simp) (by simp)
  have hc : 0 ≤ c ∧ c ≤ 1001 := by simp at c1; omega
  have hy : y < (names6.length : Int) := by rw [names6_len]; omega
  have hm := names6_sm _ (getB_mem (show y.toNat < names6.length by rw [names6_len]; omega))
  simp only [e, e1, e2, e3, e4, e5, w1, w2, e6, names_f, Option.bind_some, y0, hy, and_self, if_true]
  exact ⟨_, _, rfl, l1, mkB (by omega) hm (by omega)⟩
theorem drawPieces_ok {code : List Int} (h : CodeOk code) : ∃ o b, spec_DrawPiecesLeft.f code = some (o, b) ∧ Lm OkBooking o ∧ Sm b := by
  unfold spec_DrawPiecesLeft.f spec_DrawPiecesLeft.fn spec_DrawPiecesLeft.top
  obtain ⟨s, e, ho⟩ := from_ok h
  obtain ⟨o, s1, e1, o1, l1⟩ := draw32_ok ho
  obtain ⟨x, s2, e2, o2, x0, x1⟩ := next_ok o1 16 (by omega)
  obtain ⟨u, s3, e3, o3, u1⟩ := drawWord_ok o2
  obtain ⟨y, s4, e4, o4, y0, y1⟩ := next_ok o2 5 (by omega)
  have hy : y < (names6.length : Int) := by rw [names6_len]; omega
  have hm := names6_sm _ (getB_mem (show y.toNat < names6.length by rw [names6_len]; omega))
  simp only [e, e1, e2, e3, e4, names_f, Option.bind_some, y0, hy, and_self, if_true]
  split
  · exact ⟨_, _, rfl, l1, u1⟩
  · exact ⟨_, _, rfl, l1, hm⟩
theorem likeBookings_self (a : List (Int × ByteArray × Int)) (hl : a.length ≤ 140737488355328) : laws_likeBookings.f a a = some true := by
  unfold laws_likeBookings.f laws_likeBookings.fn laws_likeBookings.top
  simp only [bne_self_eq_false, Bool.false_eq_true, if_false]
  refine eqS_loop (E := fun _ => True) (fun k a b i => laws_likeBookings.l4 NN k a b i) a (fun _ _ => trivial) ?_ ?_ NN (NN_lt (by omega))
  · intro k p x r hx ha
    subst ha
    have hm := mid_len p r x
    have c1 : (p.length : Int) < ((p ++ x :: r).length : Int) := by omega
    have c0 : (0 : Int) ≤ (p.length : Int) := by omega
    have cw := w64 (n := (p.length : Int) + 1) (by omega) (by omega)
    simp only [laws_likeBookings.l4, laws_likeBookings.g4, c0, c1, cw, and_self, and_true, true_and, decide_true, decide_false, if_true, if_false, mid_get, mid_set, mid_getn, mid_setn, bt_mid, Option.bind_some, Bool.not_true, Bool.not_false, Bool.false_eq_true, Bool.true_eq_false, beq_self_eq_true, bne_self_eq_false, Int.toNat_natCast]
    simp
  · intro k
    simp [laws_likeBookings.l4, laws_likeBookings.g4]
theorem leftOf_nonneg : ∀ (r p : List (Int × ByteArray × Int)) (a : ByteArray), okFrom p r = true → 0 ≤ leftOf p a → 0 ≤ leftOf (p ++ r) a := by
  intro r
  induction r with
  | nil => intro p a _ h; rwa [List.append_nil]
  | cons b r ih =>
    intro p a h hp
    simp only [okFrom, Bool.and_eq_true, decide_eq_true_eq] at h
    have := ih (p ++ [b]) a h.2 (by
      by_cases ha : b.2.1 = a
      · rw [← ha]; exact h.1.2
      · rw [leftOf_snoc]; unfold addL; rw [if_neg ha]; exact hp)
    rwa [List.append_assoc] at this
theorem tot0_mono (a : ByteArray) : ∀ (r p : List (Int × ByteArray × Int)), (∀ b ∈ p ++ r, valB b = true) → (totL p a).getD 0 0 ≤ (totL (p ++ r) a).getD 0 0 := by
  intro r
  induction r with
  | nil => intro p _; rw [List.append_nil]; exact Int.le_refl _
  | cons b r ih =>
    intro p h
    have h1 := ih (p ++ [b]) (by rw [List.append_assoc]; exact h)
    rw [List.append_assoc] at h1
    refine Int.le_trans ?_ h1
    have hv := valB_count (h b (by simp))
    obtain ⟨t0, t1, t2, t3, q1, q2⟩ := totL_shape a p (fun x hx => h x (by simp [hx]))
    rw [totL_snoc, q1]
    unfold addT
    split
    · obtain h | h | h | h : b.1 = 0 ∨ b.1 = 1 ∨ b.1 = 2 ∨ b.1 = 3 := by omega
      all_goals (rw [h]; simp)
      omega
    · exact Int.le_refl _
theorem left_tot0 (xs : List (Int × ByteArray × Int)) (a : ByteArray) (h : ∀ b ∈ xs, valB b = true) (n : Nat) : leftOf (xs.take n) a ≤ (totL xs a).getD 0 0 := by
  have h1 := tot0_mono a (xs.drop n) (xs.take n) (by rw [List.take_append_drop]; exact h)
  rw [List.take_append_drop] at h1
  obtain ⟨t0, t1, t2, t3, q1, q2, q3, q4, q5, q6, q7⟩ := totL_shape a (xs.take n) (fun x hx => h x (List.mem_of_mem_take hx))
  rw [q1] at h1
  have : ([t0, t1, t2, t3] : List Int).getD 0 0 = t0 := rfl
  rw [this] at h1
  omega
theorem most_le (xs : List (Int × ByteArray × Int)) (a : ByteArray) (h : ∀ b ∈ xs, valB b = true) (B : Int) (hB : ∀ n, leftOf (xs.take n) a ≤ B) : ∀ (r : List (Int × ByteArray × Int)) (i : Nat) (st : Int), st ≤ B → foldi (fun i st (_ : Int × ByteArray × Int) => mostF xs a i st) i st r ≤ B := by
  intro r
  induction r with
  | nil => intro i st hs; exact hs
  | cons b r ih =>
    intro i st hs
    refine ih (i + 1) _ ?_
    have := hB (i + 1)
    show mostF xs a i st ≤ B
    unfold mostF; split <;> omega
theorem most_ge (xs : List (Int × ByteArray × Int)) (a : ByteArray) : ∀ (r : List (Int × ByteArray × Int)) (i : Nat) (st : Int), st ≤ foldi (fun i st (_ : Int × ByteArray × Int) => mostF xs a i st) i st r ∧ (0 < r.length → leftOf (xs.take (i + r.length)) a ≤ foldi (fun i st (_ : Int × ByteArray × Int) => mostF xs a i st) i st r) := by
  intro r
  induction r with
  | nil => intro i st; exact ⟨Int.le_refl _, fun h => by simp at h⟩
  | cons b r ih =>
    intro i st
    have h1 := ih (i + 1) (mostF xs a i st)
    have h2 : st ≤ mostF xs a i st ∧ leftOf (xs.take (i + 1)) a ≤ mostF xs a i st := by unfold mostF; split <;> omega
    refine ⟨Int.le_trans h2.1 h1.1, fun _ => ?_⟩
    cases r with
    | nil => exact Int.le_trans h2.2 h1.1
    | cons c r =>
      have := h1.2 (by simp)
      rw [show i + (b :: c :: r).length = i + 1 + (c :: r).length by simp only [List.length_cons]; omega]
      exact this
theorem most_bd (xs : List (Int × ByteArray × Int)) (a : ByteArray) (h : booksB xs = true) : 0 ≤ leftOf xs a ∧ leftOf xs a ≤ mostL xs a ∧ mostL xs a ≤ (totL xs a).getD 0 0 := by
  have hv := booksB_val h
  have hok : okFrom [] xs = true := by
    unfold booksB at h
    simp only [Bool.and_eq_true] at h
    exact h.2
  have h0 := leftOf_nonneg xs [] a hok (Int.le_refl 0)
  rw [List.nil_append] at h0
  have ht := left_tot0 xs a hv.1
  refine ⟨h0, ?_, ?_⟩
  · have := most_ge xs a xs 0 0
    unfold mostL
    cases xs with
    | nil => exact Int.le_refl 0
    | cons b r =>
      have h2 := this.2 (by simp)
      rw [Nat.zero_add, List.take_length] at h2
      exact h2
  · unfold mostL
    refine most_le xs a hv.1 _ ht xs 0 0 ?_
    have := ht 0
    rw [List.take_zero] at this
    exact this
end Go.Pl

namespace Go.Pl
open Go.Ev
set_option linter.unusedVariables false
noncomputable section
def spec_DrawAppendEntry.top (code0 : List Int) : Option (ByteArray × Int × ByteArray) :=
  (spec_l01From.f code0).bind fun r1 =>
  (spec_l33Journal.f r1).bind fun r2 =>
  (spec_l33Entry.f r2.2).bind fun r3 =>
  some (r2.1, r3.1)
def spec_DrawAppendEntry.fn (n : Nat) (code0 : List Int) : Option (ByteArray × Int × ByteArray) := spec_DrawAppendEntry.top code0
def spec_DrawAppendEntry.f (code0 : List Int) : Option (ByteArray × Int × ByteArray) := spec_DrawAppendEntry.fn NN code0
end
end Go.Pl

namespace Go.Pl
open Go.Ev
set_option linter.unusedVariables false
noncomputable section
def spec_DrawFirstDifference.top (code0 : List Int) : Option (ByteArray × ByteArray) :=
  (spec_l01From.f code0).bind fun r1 =>
  (spec_l33Journal.f r1).bind fun r2 =>
  (spec_l01Next.f r2.2 3).bind fun r3 =>
  if ((r3.1 : Int) == 0) = true then
    (spec_l33Journal.f r3.2).bind fun r4 =>
    some (r2.1, r4.1)
  else
    (spec_l01Next.f r3.2 (IntKind.i64.wrap ((r2.1.size : Int) + 1))).bind fun r5 =>
    if (0 : Int) ≤ r5.1 ∧ (r5.1 : Int) ≤ r2.1.size then
      some (r2.1, r2.1.extract 0 (r5.1 : Int).toNat)
    else
      none
def spec_DrawFirstDifference.fn (n : Nat) (code0 : List Int) : Option (ByteArray × ByteArray) := spec_DrawFirstDifference.top code0
def spec_DrawFirstDifference.f (code0 : List Int) : Option (ByteArray × ByteArray) := spec_DrawFirstDifference.fn NN code0
end
end Go.Pl

namespace Go.Pl
open Go.Ev
set_option linter.unusedVariables false
noncomputable section
def spec_DrawEntriesOf.top (code0 : List Int) : Option (ByteArray × Int) :=
  (spec_l01From.f code0).bind fun r1 =>
  (spec_l33Journal.f r1).bind fun r2 =>
  (spec_l01Next.f r2.2 4).bind fun r3 =>
  if (0 : Int) ≤ r3.1 ∧ (r3.1 : Int) < (⟨#[102, 109, 122, 110]⟩ : ByteArray).size then
    some (r2.1, bt (⟨#[102, 109, 122, 110]⟩ : ByteArray) r3.1)
  else
    none
def spec_DrawEntriesOf.fn (n : Nat) (code0 : List Int) : Option (ByteArray × Int) := spec_DrawEntriesOf.top code0
def spec_DrawEntriesOf.f (code0 : List Int) : Option (ByteArray × Int) := spec_DrawEntriesOf.fn NN code0
end
end Go.Pl

namespace Go.Pl
open Go.Ev
set_option linter.unusedVariables false
set_option linter.unusedSimpArgs false
theorem lit_mem (xs : List ByteArray) (n : Int) (hn : n = (xs.length : Int)) (h : ∀ c ∈ xs, c.size ≤ 50) {a : Int} (a0 : 0 ≤ a) (a1 : a < n ∨ a = 0) (hp : 0 < n) : ((0 : Int) ≤ a ∧ a < (xs.length : Int)) ∧ (xs.getD a.toNat ByteArray.empty).size ≤ 50 :=
  ⟨⟨a0, by omega⟩, h _ (getB_mem (by omega))⟩
def DrE (e : Int × ByteArray) : Prop := (0 ≤ e.1 ∧ e.1 ≤ 255) ∧ e.2.size ≤ 50
theorem entry_ok {s : List Int × Int × Int} (hs : SrcOk s) : ∃ e s', spec_l33Entry.f s = some (e, s') ∧ SrcOk s' ∧ DrE e := by
  unfold spec_l33Entry.f spec_l33Entry.fn spec_l33Entry.top
  obtain ⟨a, s1, e1, o1, a0, a1⟩ := next_ok hs 3 (by omega)
  obtain ⟨b, s2, e2, o2, b0, b1⟩ := next_ok o1 5 (by omega)
  obtain ⟨c, s3, e3, o3, c0, c1⟩ := next_ok o2 30 (by omega)
  obtain ⟨d, s4, e4, o4, d0, d1⟩ := next_ok o3 4 (by omega)
  obtain ⟨f, s5, e5, o5, f0, f1⟩ := next_ok o3 3 (by omega)
  have k1 := lit_mem [(⟨#[]⟩ : ByteArray), (⟨#[99, 117, 101, 32, 51, 32, 102, 105, 114, 101, 100]⟩ : ByteArray), (⟨#[109, 105, 115, 102, 105, 114, 101]⟩ : ByteArray), (⟨#[32, 97, 32, 32, 98, 32]⟩ : ByteArray), (⟨#[122, 111, 110, 101, 32, 102, 105, 101, 108, 100, 32, 99, 108, 101, 97, 114]⟩ : ByteArray)] 5 rfl (by
    intro c hc
    simp only [List.mem_cons, List.not_mem_nil, or_false] at hc
    rcases hc with h | h | h | h | h <;> (rw [h]; exact Nat.le_of_ble_eq_true rfl)) b0 b1 (by omega)
  have k2 := lit_mem [(⟨#[97, 10]⟩ : ByteArray), (⟨#[48, 49, 50, 51, 52, 53, 54, 55, 56, 57, 48, 49, 50, 51, 52, 53, 54, 55, 56, 57, 48, 49, 50, 51, 52, 53, 54, 55, 56, 57, 48, 49, 50, 51, 52, 53, 54, 55, 56, 57]⟩ : ByteArray), (⟨#[48, 49, 50, 51, 52, 53, 54, 55, 56, 57, 48, 49, 50, 51, 52, 53, 54, 55, 56, 57, 48, 49, 50, 51, 52, 53, 54, 55, 56, 57, 48, 49, 50, 51, 52, 53, 54, 55, 56, 57, 48]⟩ : ByteArray)] 3 rfl (by
    intro c hc
    simp only [List.mem_cons, List.not_mem_nil, or_false] at hc
    rcases hc with h | h | h <;> (rw [h]; exact Nat.le_of_ble_eq_true rfl)) f0 f1 (by omega)
  have z1 : a < ((⟨#[102, 109, 122]⟩ : ByteArray).size : Int) := by show a < 3; omega
  have z2 : d < ((⟨#[65, 96, 123, 122]⟩ : ByteArray).size : Int) := by show d < 4; omega
  have r1 := bt_range (⟨#[102, 109, 122]⟩ : ByteArray) a
  have r2 := bt_range (⟨#[65, 96, 123, 122]⟩ : ByteArray) d
  simp only [e1, e2, e3, e4, e5, Option.bind_some]
  rw [if_pos ⟨a0, z1⟩, if_pos k1.1]
  by_cases h0 : c = 0
  · rw [if_pos (by rw [h0]; rfl), if_pos ⟨d0, z2⟩]
    exact ⟨_, _, rfl, o4, r2, k1.2⟩
  · rw [if_neg (by simpa using h0)]
    by_cases h1 : c = 1
    · rw [if_pos (by rw [h1]; rfl), if_pos k2.1]
      exact ⟨_, _, rfl, o5, r1, k2.2⟩
    · rw [if_neg (by simpa using h1)]
      exact ⟨_, _, rfl, o3, r1, k1.2⟩
theorem dr_snoc {xs : List (Int × ByteArray)} {e : Int × ByteArray} (h : ∀ x ∈ xs, DrE x) (he : DrE e) : ∀ x ∈ xs ++ [e], DrE x := fun x hx => by
  rcases List.mem_append.1 hx with h1 | h1
  · exact h x h1
  · rw [List.mem_singleton.1 h1]; exact he
theorem list33_l7 : ∀ (d k : Nat) (s : List Int × Int × Int) (out : List (Int × ByteArray)), out.length + d = 22 → d < k → SrcOk s → (∀ x ∈ out, DrE x) →
    ∃ o s', spec_l33List.l7 NN k s out = some (o, s') ∧ SrcOk s' ∧ o.length ≤ 22 ∧ ∀ x ∈ o, DrE x := by
  intro d
  induction d with
  | zero =>
    intro k s out hd hk hs hl
    obtain ⟨k, rfl⟩ : ∃ j, k = j + 1 := ⟨k - 1, by omega⟩
    obtain ⟨a, s1, e1, o1, a0, a1⟩ := next_ok hs 2 (by omega)
    have w := w64 (n := 20 + a) (by omega) (by omega)
    have n1 : ¬ (out.length : Int) < 20 + a := by omega
    simp only [spec_l33List.l7, spec_l33List.g7, e1, Option.bind_some, w, n1, decide_false, Bool.false_eq_true, if_false]
    exact ⟨_, _, rfl, o1, by omega, hl⟩
  | succ d ih =>
    intro k s out hd hk hs hl
    obtain ⟨k, rfl⟩ : ∃ j, k = j + 1 := ⟨k - 1, by omega⟩
    obtain ⟨a, s1, e1, o1, a0, a1⟩ := next_ok hs 2 (by omega)
    have w := w64 (n := 20 + a) (by omega) (by omega)
    by_cases n1 : (out.length : Int) < 20 + a
    · simp only [spec_l33List.l7, spec_l33List.g7, e1, Option.bind_some, w, n1, decide_true, if_true]
      rw [if_pos (by rw [room24]; simp; omega)]
      exact ih k s1 _ (by simp; omega) (by omega) o1 (dr_snoc hl ⟨by simp only; omega, Nat.le_of_ble_eq_true rfl⟩)
    · simp only [spec_l33List.l7, spec_l33List.g7, e1, Option.bind_some, w, n1, decide_false, Bool.false_eq_true, if_false]
      exact ⟨_, _, rfl, o1, by omega, hl⟩
theorem list33_l3 : ∀ (d k : Nat) (s : List Int × Int × Int) (out : List (Int × ByteArray)), out.length + d ≤ 10 → d < k → SrcOk s → (∀ x ∈ out, DrE x) →
    ∃ o s', spec_l33List.l3 NN k d s out = some (o, s') ∧ SrcOk s' ∧ o.length ≤ 22 ∧ ∀ x ∈ o, DrE x := by
  intro d
  induction d with
  | zero =>
    intro k s out hd hk hs hl
    obtain ⟨k, rfl⟩ : ∃ j, k = j + 1 := ⟨k - 1, by omega⟩
    obtain ⟨a, s1, e1, o1, a0, a1⟩ := next_ok hs 24 (by omega)
    have n1 : ¬ (0 : Int) < ((0 : Nat) : Int) := by omega
    simp only [spec_l33List.l3, spec_l33List.g3, e1, Option.bind_some, n1, decide_false, Bool.false_eq_true, if_false]
    by_cases h0 : a = 0
    · rw [if_pos (by rw [h0]; rfl)]
      exact list33_l7 (22 - out.length) NN s1 out (by omega) (NN_lt (by omega)) o1 hl
    · rw [if_neg (by simpa using h0)]
      exact ⟨_, _, rfl, o1, by omega, hl⟩
  | succ d ih =>
    intro k s out hd hk hs hl
    obtain ⟨k, rfl⟩ : ∃ j, k = j + 1 := ⟨k - 1, by omega⟩
    obtain ⟨e, s1, e1, o1, d1⟩ := entry_ok hs
    have n1 : (0 : Int) < ((d + 1 : Nat) : Int) := by omega
    have w : IntKind.i64.wrap (((d + 1 : Nat) : Int) - 1) = (d : Int) := by rw [w64 (by omega) (by omega)]; omega
    simp only [spec_l33List.l3, spec_l33List.g3, e1, Option.bind_some, n1, decide_true, if_true, w]
    rw [if_pos (by rw [room24]; simp; omega)]
    exact ih k s1 _ (by simp; omega) (by omega) o1 (dr_snoc hl d1)
theorem list33_ok {s : List Int × Int × Int} (hs : SrcOk s) : ∃ o s', spec_l33List.f s = some (o, s') ∧ SrcOk s' ∧ o.length ≤ 22 ∧ ∀ x ∈ o, DrE x := by
  unfold spec_l33List.f spec_l33List.fn spec_l33List.top
  obtain ⟨n, s1, e1, o1, n0, n1⟩ := next_ok hs 7 (by omega)
  obtain ⟨N, hN⟩ := Int.eq_ofNat_of_zero_le n0
  subst hN
  simp only [e1, Option.bind_some]
  exact list33_l3 N NN s1 [] (by simp; omega) (NN_lt (by omega)) o1 (by simp)
theorem dr_sz {xs : List (Int × ByteArray)} (hl : xs.length ≤ 1000) (h : ∀ x ∈ xs, DrE x) : Ls (fun e => Sz e.2) xs := ⟨by omega, fun x hx => Nat.le_trans (h x hx).2 (by omega)⟩
theorem jB_size : ∀ (l : List (Int × ByteArray)) (c : Int), (∀ x ∈ l, entB x = true) → (jB c l).size ≤ 100 * l.length := by
  intro l
  induction l with
  | nil => intro c _; exact Nat.zero_le _
  | cons e l ih =>
    intro c h
    have hc := @ckE_range c e
    have h1 := lnB_size e (c := ckE c e) hc.1 (by omega)
    have h2 := (entB_iff (h e (by simp))).2.2.1
    have h3 := ih (ckE c e) (fun x hx => h x (by simp [hx]))
    simp only [jB, List.length_cons]
    rw [← bl_length, bl_append, List.length_append, bl_length, bl_length]
    omega
theorem journal_end {t : ByteArray} (ht : t.size ≤ 100000) {s : List Int × Int × Int} (hs : SrcOk s) : ∃ u s', (spec_l01Next.f s 4).bind (fun r9 =>
    if ((r9.1 : Int) == 0) = true then
      (spec_l01Next.f r9.2 (IntKind.i64.wrap ((t.size : Int) + 1))).bind fun r10 =>
      if (0 : Int) ≤ r10.1 ∧ (r10.1 : Int) ≤ t.size then
        some (t.extract 0 (r10.1 : Int).toNat, r10.2)
      else
        none
    else if ((r9.1 : Int) == 1) = true then
      (spec_l01Damage.f r9.2 t).bind fun r11 =>
      some (r11.1, r11.2)
    else if ((r9.1 : Int) == 2) = true then
      (spec_l01Next.f r9.2 4).bind fun r12 =>
      if (0 : Int) ≤ r12.1 ∧ (r12.1 : Int) < ([(⟨#[]⟩ : ByteArray), (⟨#[102, 32]⟩ : ByteArray), (⟨#[102, 32, 32, 57, 10]⟩ : ByteArray), (⟨#[120, 10]⟩ : ByteArray)]).length then
        if t.size + (([(⟨#[]⟩ : ByteArray), (⟨#[102, 32]⟩ : ByteArray), (⟨#[102, 32, 32, 57, 10]⟩ : ByteArray), (⟨#[120, 10]⟩ : ByteArray)]).getD (r12.1 : Int).toNat ByteArray.empty).size ≤ 9223372036854775807 then
          some (t ++ (([(⟨#[]⟩ : ByteArray), (⟨#[102, 32]⟩ : ByteArray), (⟨#[102, 32, 32, 57, 10]⟩ : ByteArray), (⟨#[120, 10]⟩ : ByteArray)]).getD (r12.1 : Int).toNat ByteArray.empty), r12.2)
        else
          none
      else
        none
    else
      some (t, r9.2)) = some (u, s') ∧ SrcOk s' ∧ u.size ≤ 200000 := by
  obtain ⟨a, s1, e1, o1, a0, a1⟩ := next_ok hs 4 (by omega)
  have w := w64 (n := (t.size : Int) + 1) (by omega) (by omega)
  obtain ⟨b, s2, e2, o2, b0, b1⟩ := next_ok o1 ((t.size : Int) + 1) (by omega)
  obtain ⟨c, s3, e3, o3, c0, c1⟩ := next_ok o1 4 (by omega)
  obtain ⟨u, s4, e4, o4, u1⟩ := damage_ok o1 t (by omega)
  have k := lit_mem [(⟨#[]⟩ : ByteArray), (⟨#[102, 32]⟩ : ByteArray), (⟨#[102, 32, 32, 57, 10]⟩ : ByteArray), (⟨#[120, 10]⟩ : ByteArray)] 4 rfl (by
    intro c hc
    simp only [List.mem_cons, List.not_mem_nil, or_false] at hc
    rcases hc with h | h | h | h <;> (rw [h]; exact Nat.le_of_ble_eq_true rfl)) c0 c1 (by omega)
  simp only [e1, e2, e3, e4, w, Option.bind_some]
  by_cases h0 : a = 0
  · rw [if_pos (by rw [h0]; rfl), if_pos ⟨b0, by omega⟩]
    have := size_extract_le t 0 b.toNat
    exact ⟨_, _, rfl, o2, by omega⟩
  rw [if_neg (by simpa using h0)]
  by_cases h1 : a = 1
  · rw [if_pos (by rw [h1]; rfl)]
    exact ⟨_, _, rfl, o4, by omega⟩
  rw [if_neg (by simpa using h1)]
  by_cases h2 : a = 2
  · rw [if_pos (by rw [h2]; rfl), if_pos k.1, if_pos (by have := k.2; omega)]
    exact ⟨_, _, rfl, o3, by have := k.2; rw [ByteArray.size_append]; omega⟩
  · rw [if_neg (by simpa using h2)]
    exact ⟨_, _, rfl, o1, by omega⟩
theorem journal_ok {s : List Int × Int × Int} (hs : SrcOk s) : ∃ u s', spec_l33Journal.f s = some (u, s') ∧ SrcOk s' ∧ u.size ≤ 200000 := by
  unfold spec_l33Journal.f spec_l33Journal.fn spec_l33Journal.top
  obtain ⟨xs, s1, e1, o1, l1, d1⟩ := list33_ok hs
  simp only [e1, Option.bind_some, spec_l33Code_f xs (dr_sz (by omega) d1)]
  by_cases hc : (if xs.all entB = true then (if xs.length ≤ 20 then (0 : Int) else 3) else 1) = 0
  · rw [if_neg (by rw [hc]; simp)]
    have hall : xs.all entB = true := by
      by_cases h : xs.all entB = true
      · exact h
      · rw [if_neg h] at hc; cases hc
    have hin := all_in hall
    have hz := jB_size xs 1 (fun x hx => List.all_eq_true.1 hall x hx)
    rw [(spec_l33Write_f xs (by omega) hin).1, jText_eq]
    simp only [Option.bind_some]
    exact journal_end (by omega) o1
  · rw [if_pos (by simpa using hc)]
    rw [(spec_l33Write_f [] (by simp) (by simp)).1, jText_eq]
    simp only [Option.bind_some]
    exact journal_end (t := jB 1 []) (by show 0 ≤ 100000; omega) o1
theorem drawWJ_ok {code : List Int} (h : CodeOk code) : ∃ o, spec_DrawWriteJournal.f code = some o ∧ o.length ≤ 22 ∧ ∀ x ∈ o, DrE x := by
  unfold spec_DrawWriteJournal.f spec_DrawWriteJournal.fn spec_DrawWriteJournal.top
  obtain ⟨s, e, ho⟩ := from_ok h
  obtain ⟨xs, s1, e1, o1, l1, d1⟩ := list33_ok ho
  simp only [e, e1, Option.bind_some]
  exact ⟨_, rfl, l1, d1⟩
theorem drawRJ_ok {code : List Int} (h : CodeOk code) : ∃ o, spec_DrawReadJournal.f code = some o ∧ o.size ≤ 200000 := by
  unfold spec_DrawReadJournal.f spec_DrawReadJournal.fn spec_DrawReadJournal.top
  obtain ⟨s, e, ho⟩ := from_ok h
  obtain ⟨u, s1, e1, o1, u1⟩ := journal_ok ho
  simp only [e, e1, Option.bind_some]
  exact ⟨_, rfl, u1⟩
theorem drawCJ_ok {code : List Int} (h : CodeOk code) : ∃ o n, spec_DrawCutJournal.f code = some (o, n) ∧ o.size ≤ 200000 := by
  unfold spec_DrawCutJournal.f spec_DrawCutJournal.fn spec_DrawCutJournal.top
  obtain ⟨s, e, ho⟩ := from_ok h
  obtain ⟨u, s1, e1, o1, u1⟩ := journal_ok ho
  obtain ⟨a, s2, e2, o2, a0, a1⟩ := next_ok o1 8 (by omega)
  obtain ⟨b, s3, e3, o3, b0, b1⟩ := next_ok o2 24 (by omega)
  simp only [e, e1, e2, e3, Option.bind_some]
  exact ⟨_, _, rfl, u1⟩
theorem drawAE_ok {code : List Int} (h : CodeOk code) : ∃ o x, spec_DrawAppendEntry.f code = some (o, x) ∧ o.size ≤ 200000 ∧ DrE x := by
  unfold spec_DrawAppendEntry.f spec_DrawAppendEntry.fn spec_DrawAppendEntry.top
  obtain ⟨s, e, ho⟩ := from_ok h
  obtain ⟨u, s1, e1, o1, u1⟩ := journal_ok ho
  obtain ⟨x, s2, e2, o2, x1⟩ := entry_ok o1
  simp only [e, e1, e2, Option.bind_some]
  exact ⟨_, _, rfl, u1, x1⟩
theorem drawFD_ok {code : List Int} (h : CodeOk code) : ∃ a b, spec_DrawFirstDifference.f code = some (a, b) ∧ a.size ≤ 200000 ∧ b.size ≤ 200000 := by
  unfold spec_DrawFirstDifference.f spec_DrawFirstDifference.fn spec_DrawFirstDifference.top
  obtain ⟨s, e, ho⟩ := from_ok h
  obtain ⟨u, s1, e1, o1, u1⟩ := journal_ok ho
  obtain ⟨a, s2, e2, o2, a0, a1⟩ := next_ok o1 3 (by omega)
  obtain ⟨v, s3, e3, o3, v1⟩ := journal_ok o2
  have w := w64 (n := (u.size : Int) + 1) (by omega) (by omega)
  obtain ⟨b, s4, e4, o4, b0, b1⟩ := next_ok o2 ((u.size : Int) + 1) (by omega)
  simp only [e, e1, e2, e3, e4, w, Option.bind_some]
  by_cases h0 : a = 0
  · rw [if_pos (by rw [h0]; rfl)]
    exact ⟨_, _, rfl, u1, v1⟩
  · rw [if_neg (by simpa using h0), if_pos ⟨b0, by omega⟩]
    have := size_extract_le u 0 b.toNat
    exact ⟨_, _, rfl, u1, by omega⟩
theorem drawEO_ok {code : List Int} (h : CodeOk code) : ∃ a n, spec_DrawEntriesOf.f code = some (a, n) ∧ a.size ≤ 200000 := by
  unfold spec_DrawEntriesOf.f spec_DrawEntriesOf.fn spec_DrawEntriesOf.top
  obtain ⟨s, e, ho⟩ := from_ok h
  obtain ⟨u, s1, e1, o1, u1⟩ := journal_ok ho
  obtain ⟨a, s2, e2, o2, a0, a1⟩ := next_ok o1 4 (by omega)
  simp only [e, e1, e2, Option.bind_some]
  rw [if_pos ⟨a0, by show a < 4; omega⟩]
  exact ⟨_, _, rfl, u1⟩
end Go.Pl

namespace Go.Pl
open Go.Ev
set_option linter.unusedVariables false
noncomputable section
def impl_EntriesOf.g4 (L4 : Int → Int → Int → List ByteArray → (List (Int × ByteArray)) → Option (List ByteArray)) (kind1 : Int) (v16 : Int) (v17 : Int) (out5 : List ByteArray) (v15 : List (Int × ByteArray)) : Option (List ByteArray) :=
  if (decide ((v17 : Int) < v16)) = true then
    if (0 : Int) ≤ v17 ∧ (v17 : Int) < v15.length then
      if ((((v15.getD (v17 : Int).toNat (0, ByteArray.empty)).1) : Int) == kind1) = true then
        if out5.length + ([(v15.getD (v17 : Int).toNat (0, ByteArray.empty)).2]).length < room 16 then
          L4 kind1 v16 (IntKind.i64.wrap (v17 + 1)) (out5 ++ ([(v15.getD (v17 : Int).toNat (0, ByteArray.empty)).2])) v15
        else
          none
      else
        L4 kind1 v16 (IntKind.i64.wrap (v17 + 1)) out5 v15
    else
      none
  else
    some out5
def impl_EntriesOf.l4 (n : Nat) : Nat → Int → Int → Int → List ByteArray → (List (Int × ByteArray)) → Option (List ByteArray)
  | 0 => fun _ _ _ _ _ => none
  | k + 1 => impl_EntriesOf.g4 (impl_EntriesOf.l4 n k)
def impl_EntriesOf.top (I4 : Int → Int → Int → List ByteArray → (List (Int × ByteArray)) → Option (List ByteArray)) (s0 : ByteArray) (kind1 : Int) : Option (List ByteArray) :=
  (impl_readJournal.f s0).bind fun r1 =>
  I4 kind1 (r1.1.length : Int) 0 [] r1.1
def impl_EntriesOf.fn (n : Nat) (s0 : ByteArray) (kind1 : Int) : Option (List ByteArray) := impl_EntriesOf.top (impl_EntriesOf.l4 n n) s0 kind1
def impl_EntriesOf.f (s0 : ByteArray) (kind1 : Int) : Option (List ByteArray) := impl_EntriesOf.fn NN s0 kind1
end
end Go.Pl

namespace Go.Pl
open Go.Ev
set_option linter.unusedVariables false
noncomputable section
def spec_EntriesOf.g4 (L4 : Int → Int → (List (Int × ByteArray)) → List ByteArray → Option (List ByteArray)) (kind1 : Int) (i8 : Int) (list5 : List (Int × ByteArray)) (out7 : List ByteArray) : Option (List ByteArray) :=
  if (decide ((i8 : Int) < (list5.length : Int))) = true then
    if (0 : Int) ≤ i8 ∧ (i8 : Int) < list5.length then
      if ((((list5.getD (i8 : Int).toNat (0, ByteArray.empty)).1) : Int) == kind1) = true then
        if (0 : Int) ≤ i8 ∧ (i8 : Int) < list5.length then
          if out7.length + ([(list5.getD (i8 : Int).toNat (0, ByteArray.empty)).2]).length < room 16 then
            L4 kind1 (IntKind.i64.wrap (i8 + 1)) list5 (out7 ++ ([(list5.getD (i8 : Int).toNat (0, ByteArray.empty)).2]))
          else
            none
        else
          none
      else
        L4 kind1 (IntKind.i64.wrap (i8 + 1)) list5 out7
    else
      none
  else
    some out7
def spec_EntriesOf.l4 (n : Nat) : Nat → Int → Int → (List (Int × ByteArray)) → List ByteArray → Option (List ByteArray)
  | 0 => fun _ _ _ _ => none
  | k + 1 => spec_EntriesOf.g4 (spec_EntriesOf.l4 n k)
def spec_EntriesOf.top (I4 : Int → Int → (List (Int × ByteArray)) → List ByteArray → Option (List ByteArray)) (s0 : ByteArray) (kind1 : Int) : Option (List ByteArray) :=
  (spec_l33Read.f s0).bind fun r1 =>
  I4 kind1 0 r1.1 []
def spec_EntriesOf.fn (n : Nat) (s0 : ByteArray) (kind1 : Int) : Option (List ByteArray) := spec_EntriesOf.top (spec_EntriesOf.l4 n n) s0 kind1
def spec_EntriesOf.f (s0 : ByteArray) (kind1 : Int) : Option (List ByteArray) := spec_EntriesOf.fn NN s0 kind1
end
end Go.Pl

namespace Go.Pl
open Go.Ev
set_option linter.unusedVariables false
noncomputable section
def impl_FirstDifference.g4 (L4 : Int → (List (Int × ByteArray)) → (List (Int × ByteArray)) → Option (Int × Int)) (i10 : Int) (x6 : List (Int × ByteArray)) (y8 : List (Int × ByteArray)) : Option (Int × Int) :=
  if (decide ((i10 : Int) < (x6.length : Int))) = false then
    if (decide ((i10 : Int) < (y8.length : Int))) = true then
      if (decide (((x6.length : Int) : Int) ≤ i10)) = false then
        if (decide (((y8.length : Int) : Int) ≤ i10)) = false then
          if (0 : Int) ≤ i10 ∧ (i10 : Int) < x6.length then
            if (0 : Int) ≤ i10 ∧ (i10 : Int) < y8.length then
              if (!(((((x6.getD (i10 : Int).toNat (0, ByteArray.empty)).1) : Int) == ((y8.getD (i10 : Int).toNat (0, ByteArray.empty)).1)) && (((x6.getD (i10 : Int).toNat (0, ByteArray.empty)).2).toList == ((y8.getD (i10 : Int).toNat (0, ByteArray.empty)).2).toList))) = true then
                some (i10, 0)
              else
                L4 (IntKind.i64.wrap (i10 + 1)) x6 y8
            else
              none
          else
            none
        else
          some (i10, 0)
      else
        some (i10, 0)
    else
      some (0, 4)
  else if (decide (((x6.length : Int) : Int) ≤ i10)) = false then
    if (decide (((y8.length : Int) : Int) ≤ i10)) = false then
      if (0 : Int) ≤ i10 ∧ (i10 : Int) < x6.length then
        if (0 : Int) ≤ i10 ∧ (i10 : Int) < y8.length then
          if (!(((((x6.getD (i10 : Int).toNat (0, ByteArray.empty)).1) : Int) == ((y8.getD (i10 : Int).toNat (0, ByteArray.empty)).1)) && (((x6.getD (i10 : Int).toNat (0, ByteArray.empty)).2).toList == ((y8.getD (i10 : Int).toNat (0, ByteArray.empty)).2).toList))) = true then
            some (i10, 0)
          else
            L4 (IntKind.i64.wrap (i10 + 1)) x6 y8
        else
          none
      else
        none
    else
      some (i10, 0)
  else
    some (i10, 0)
def impl_FirstDifference.l4 (n : Nat) : Nat → Int → (List (Int × ByteArray)) → (List (Int × ByteArray)) → Option (Int × Int)
  | 0 => fun _ _ _ => none
  | k + 1 => impl_FirstDifference.g4 (impl_FirstDifference.l4 n k)
def impl_FirstDifference.top (I4 : Int → (List (Int × ByteArray)) → (List (Int × ByteArray)) → Option (Int × Int)) (a0 : ByteArray) (b1 : ByteArray) : Option (Int × Int) :=
  (impl_readJournal.f a0).bind fun r1 =>
  (impl_readJournal.f b1).bind fun r2 =>
  I4 0 r1.1 r2.1
def impl_FirstDifference.fn (n : Nat) (a0 : ByteArray) (b1 : ByteArray) : Option (Int × Int) := impl_FirstDifference.top (impl_FirstDifference.l4 n n) a0 b1
def impl_FirstDifference.f (a0 : ByteArray) (b1 : ByteArray) : Option (Int × Int) := impl_FirstDifference.fn NN a0 b1
end
end Go.Pl
