/- Part 8 of what the law FnPapers stands on: an evaluator of the model's code, proved sound; the functions as plain texts; their contracts. -/
import Derived.Test.YtgddpcjbjkbpcaaChecked
import Derived.Test.YtgddpcjbjkbpcaaProg
import Derived.Test.YtgddpcjbjkbpcaaRows
import Derived.Below
import Derived.Calls
import Derived.Carry
import Derived.ChangeArms
import Derived.ChangeKeysEq
import Derived.ChangeOld
import Derived.Deep.Quiet
import Derived.KernelRfl
import Derived.Laws.Append
import Derived.Laws.BytesString
import Derived.Laws.MakeOwn
import Derived.Laws.Strings
import Derived.Laws.StructEq
import Derived.OpenShut
import Derived.OrdersHeld
import Derived.ProofKit
import Derived.ShutString
import Derived.SizedLaws
import Derived.Tactics
import Derived.WalkKit
import Derived.WideShapes
import Derived.Test.YtgddpcjbjkbpcaaEvPapers7
/- Words for the plain laws. -/
namespace Go.Pl
open Go.Ev
set_option linter.unusedVariables false

theorem wf64 {n : Int} : (Lit.int .i64 n).wf = true ↔ (-9223372036854775808 ≤ n ∧ n ≤ 9223372036854775807) := by
  simp only [Lit.wf, Bool.and_eq_true, decide_eq_true_eq]
  have e1 : IntKind.i64.min = -9223372036854775808 := by decide
  have e2 : IntKind.i64.max = 9223372036854775807 := by decide
  omega
theorem wf8 {n : Int} : (Lit.int .u8 n).wf = true ↔ (0 ≤ n ∧ n ≤ 255) := by
  simp only [Lit.wf, Bool.and_eq_true, decide_eq_true_eq]
  have e1 : IntKind.u8.min = 0 := by decide
  have e2 : IntKind.u8.max = 255 := by decide
  omega
theorem w8 {n : Int} (h1 : 0 ≤ n) (h2 : n < 256) : IntKind.u8.wrap n = n := by
  simp only [IntKind.wrap, IntKind.bits, IntKind.signed]
  simp
  omega
theorem w8_range (n : Int) : 0 ≤ IntKind.u8.wrap n ∧ IntKind.u8.wrap n < 256 := by
  simp only [IntKind.wrap, IntKind.bits, IntKind.signed]
  simp
  omega

/-! Rows, taken apart where a loop stands. -/
theorem mid_get {α : Type} (p r : List α) (x z : α) : (p ++ x :: r).getD (p.length : Int).toNat z = x := by simp
theorem mid_set {α : Type} (p r : List α) (x y : α) : (p ++ x :: r).set (p.length : Int).toNat y = p ++ y :: r := by simp
theorem mid_getn {α : Type} (p r : List α) (x z : α) : (p ++ x :: r).getD p.length z = x := by simp
theorem mid_setn {α : Type} (p r : List α) (x y : α) : (p ++ x :: r).set p.length y = p ++ y :: r := by simp
theorem mid_len {α : Type} (p r : List α) (x : α) : ((p ++ x :: r).length : Int) = (p.length : Int) + r.length + 1 := by simp; omega
theorem mid_nil {α : Type} (p : List α) : p ++ [] = p := by simp
theorem mid_snoc {α : Type} (p r : List α) (x : α) : (p ++ [x]) ++ r = p ++ x :: r := by simp
theorem snoc_len {α : Type} (p : List α) (x : α) : ((p ++ [x]).length : Int) = (p.length : Int) + 1 := by simp
/-- A loop over a row: l stands for its rounds, f for what it comes to. -/
theorem loop_mid {α ρ σ : Type} {B : Nat} (l : Nat → List α → Int → σ → Option ρ) (f : List α → List α → σ → Option ρ)
    (hnil : ∀ k pre st, pre.length ≤ B → l (k + 1) pre (pre.length : Int) st = f pre [] st)
    (hcons : ∀ k pre a r st, pre.length + r.length + 1 ≤ B → (∀ st', l k (pre ++ a :: r) ((pre.length : Int) + 1) st' = f (pre ++ [a]) r st') → l (k + 1) (pre ++ a :: r) (pre.length : Int) st = f pre (a :: r) st) :
    ∀ r pre k st, pre.length + r.length ≤ B → r.length < k → l k (pre ++ r) (pre.length : Int) st = f pre r st := by
  intro r
  induction r with
  | nil =>
    intro pre k st h1 h2
    obtain ⟨k, rfl⟩ : ∃ j, k = j + 1 := ⟨k - 1, by omega⟩
    rw [List.append_nil]
    exact hnil k pre st (by simpa using h1)
  | cons a r ih =>
    intro pre k st h1 h2
    simp only [List.length_cons] at h1 h2
    obtain ⟨k, rfl⟩ : ∃ j, k = j + 1 := ⟨k - 1, by omega⟩
    refine hcons k pre a r st (by omega) fun st' => ?_
    have := ih (pre ++ [a]) k st' (by simp; omega) (by omega)
    rw [mid_snoc, snoc_len] at this
    exact this
/-- The same, where the row itself is written. -/
theorem loop_mid0 {α ρ σ : Type} {B : Nat} (l : Nat → List α → Int → σ → Option ρ) (f : List α → List α → σ → Option ρ)
    (hnil : ∀ k pre st, pre.length ≤ B → l (k + 1) pre (pre.length : Int) st = f pre [] st)
    (hcons : ∀ k pre a r st, pre.length + r.length + 1 ≤ B → (∀ st', l k (pre ++ a :: r) ((pre.length : Int) + 1) st' = f (pre ++ [a]) r st') → l (k + 1) (pre ++ a :: r) (pre.length : Int) st = f pre (a :: r) st)
    (xs : List α) (k : Nat) (st : σ) (h1 : xs.length ≤ B) (h2 : xs.length < k) : l k xs 0 st = f [] xs st := by
  have := loop_mid l f hnil hcons xs [] k st (by simpa using h1) h2
  simpa using this
/-- A loop by a measure. -/
theorem loop_by {ρ σ : Type} (l : Nat → σ → Option ρ) (μ : σ → Nat) (Q : σ → Option ρ → Prop)
    (h : ∀ k st, (∀ st', μ st' < μ st → Q st' (l k st')) → Q st (l (k + 1) st)) : ∀ k st, μ st < k → Q st (l k st) := by
  intro k
  induction k with
  | zero => intro st h; omega
  | succ k ih => intro st hk; exact h k st fun st' h' => ih st' (by omega)

/-! Bytes. -/
theorem ba_toList {a b : ByteArray} : a.toList = b.toList ↔ a = b := by
  rw [ByteArray.toList_eq, ByteArray.toList_eq]
  exact ⟨fun h => ByteArray.ext (Array.toList_inj.mp h), fun h => by rw [h]⟩
theorem ba_beq (a b : ByteArray) : (a.toList == b.toList) = decide (a = b) := by
  by_cases h : a = b
  · subst h; simp
  · rw [decide_eq_false h, beq_eq_false_iff_ne]; exact fun e => h (ba_toList.1 e)
def bl (s : ByteArray) : List UInt8 := s.data.toList
def ob (l : List UInt8) : ByteArray := ⟨l.toArray⟩
theorem bl_ob (l : List UInt8) : bl (ob l) = l := by simp [bl, ob]
theorem ob_bl (s : ByteArray) : ob (bl s) = s := by simp [bl, ob]
theorem bl_inj {a b : ByteArray} (h : bl a = bl b) : a = b := by rw [← ob_bl a, h, ob_bl]
theorem ob_inj {a b : List UInt8} (h : ob a = ob b) : a = b := by rw [← bl_ob a, h, bl_ob]
theorem bl_length (s : ByteArray) : (bl s).length = s.size := by simp only [bl, Array.length_toList]; rfl
theorem ob_size (l : List UInt8) : (ob l).size = l.length := by rw [← bl_length, bl_ob]
theorem bl_append (a b : ByteArray) : bl (a ++ b) = bl a ++ bl b := by simp [bl]
theorem ob_append (a b : List UInt8) : ob a ++ ob b = ob (a ++ b) := by apply bl_inj; rw [bl_append, bl_ob, bl_ob, bl_ob]
theorem bl_lit (a : Array UInt8) : bl (⟨a⟩ : ByteArray) = a.toList := rfl
theorem lit_ob (l : List UInt8) : (⟨l.toArray⟩ : ByteArray) = ob l := rfl
theorem bl_extract (s : ByteArray) (i j : Nat) : bl (s.extract i j) = ((bl s).take j).drop i := by
  simp only [bl, ByteArray.data_extract, Array.toList_extract, List.extract]
  rw [List.drop_take]
theorem ob_extract (l : List UInt8) (i j : Nat) : (ob l).extract i j = ob ((l.take j).drop i) := by apply bl_inj; rw [bl_extract, bl_ob, bl_ob]
theorem ob_toList (l : List UInt8) : (ob l).toList = l := by rw [ByteArray.toList_eq]; rfl
theorem ba_bl (s : ByteArray) : s.toList = bl s := by rw [ByteArray.toList_eq]; rfl
theorem bt_ob (l : List UInt8) (i : Int) : bt (ob l) i = ((l.getD i.toNat 0).toNat : Int) := rfl
theorem bt_mid (p r : List UInt8) (c : UInt8) : bt (ob (p ++ c :: r)) (p.length : Int) = (c.toNat : Int) := by rw [bt_ob, mid_get]
theorem bt_range (s : ByteArray) (i : Int) : 0 ≤ bt s i ∧ bt s i ≤ 255 := by
  unfold bt
  have := UInt8.toNat_lt ((s.data.toList.getD i.toNat 0))
  omega
theorem u8_lt (c : UInt8) : c.toNat < 256 := UInt8.toNat_lt c
theorem u8_eq {a : UInt8} {n : Nat} (h : n < 256) : ((a.toNat : Int) = (n : Int)) ↔ a = UInt8.ofNat n := by
  constructor
  · intro e
    apply UInt8.toNat_inj.mp
    rw [UInt8.toNat_ofNat']; omega
  · rintro rfl
    rw [UInt8.toNat_ofNat']; omega
theorem bytesOf_ob (l : List Int) : bytesOf l = ob (l.map fun n => UInt8.ofNat n.toNat) := rfl
/-- Every string is of bytes. -/
theorem ob_all {P : ByteArray → Prop} (h : ∀ l, P (ob l)) (s : ByteArray) : P s := by rw [← ob_bl s]; exact h _
/-- A loop over a string's bytes. -/
theorem loop_str0 {ρ σ : Type} {B : Nat} (l : Nat → ByteArray → Int → σ → Option ρ) (f : List UInt8 → List UInt8 → σ → Option ρ)
    (hnil : ∀ k pre st, pre.length ≤ B → l (k + 1) (ob pre) (pre.length : Int) st = f pre [] st)
    (hcons : ∀ k pre a r st, pre.length + r.length + 1 ≤ B → (∀ st', l k (ob (pre ++ a :: r)) ((pre.length : Int) + 1) st' = f (pre ++ [a]) r st') → l (k + 1) (ob (pre ++ a :: r)) (pre.length : Int) st = f pre (a :: r) st)
    (s : ByteArray) (k : Nat) (st : σ) (h1 : s.size ≤ B) (h2 : s.size < k) : l k s 0 st = f [] (bl s) st := by
  have := loop_mid0 (fun k xs i st => l k (ob xs) i st) f hnil hcons (bl s) k st (by rw [bl_length]; exact h1) (by rw [bl_length]; exact h2)
  rw [ob_bl] at this
  exact this
theorem room1 : room 1 = 140737488355328 := by decide
theorem room8 : room 8 = 17592186044416 := by decide
theorem room16 : room 16 = 8796093022208 := by decide
theorem room24 : room 24 = 5864062014805 := by decide
theorem room32 : room 32 = 4398046511104 := by decide
theorem room40 : room 40 = 3518437208883 := by decide
theorem NNb : (1000000000000 : Nat) < NN := by rw [NN_eq]; omega
theorem NN_lt {n : Nat} (h : n < 1152921504606846976) : n < NN := by rw [NN_eq]; omega
theorem some_iff {b c : Bool} (h : b = true ↔ c = true) : some b = some c := by
  congr 1; exact Bool.eq_iff_iff.mpr h
end Go.Pl

/- A law's row: what its arguments are, in plain words. -/
namespace Go.Ev
set_option linter.unusedVariables false
set_option linter.unusedSimpArgs false
open Go.RowKit Go.WideShapes Go.ChangeShapes Go.ChangeAt
variable {P : Program}

def Rg (k : IntKind) (n : Int) : Prop := (Lit.int k n).wf = true
def Sz (s : ByteArray) : Prop := s.size ≤ 140737488355328
def Ls {α : Type} (Q : α → Prop) (xs : List α) : Prop := xs.length ≤ 140737488355328 ∧ ∀ x ∈ xs, Q x
def Plain : (t : Ty) → t.I → Prop
  | .int k, n => Rg k n
  | .bool, _ => True
  | .str, s => Sz s
  | .sl _ t, xs => Ls (Plain t) xs
  | .slb _ _, _ => True
  | .pair a b, x => Plain a x.1 ∧ Plain b x.2
  | .arr n t, xs => xs.length = n ∧ ∀ x ∈ xs, Plain t x
def PlainAll : (ts : List Ty) → Tup ts → Prop
  | [], _ => True
  | [t], x => Plain t x
  | t :: u :: r, x => Plain t x.1 ∧ PlainAll (u :: r) x.2
def okE (B : TypeId → Nat) : Ty → Bool
  | .sl e t => decide (1 ≤ B e) && okE B t
  | .slb e t => decide (1 ≤ B e) && okE B t
  | .pair a b => okE B a && okE B b
  | .arr _ t => okE B t
  | _ => true
theorem reach_lt : reachBytes ≤ 140737488355328 := by decide
theorem fit_plain {B : TypeId → Nat} : ∀ (t : Ty) (x : t.I), okE B t = true → Fit B t x → Plain t x := by
  intro t
  induction t with
  | int k => intro x _ h; exact h
  | bool => intro x _ h; trivial
  | str => intro x _ h; exact Nat.le_trans h reach_lt
  | sl e t ih =>
    intro x ho h
    simp only [okE, Bool.and_eq_true, decide_eq_true_eq] at ho
    refine ⟨?_, fun y hy => ih y ho.2 (h.2 y hy)⟩
    have h1 : x.length * 1 ≤ x.length * B e := Nat.mul_le_mul_left _ ho.1
    have h2 := h.1
    have h3 := reach_lt
    omega
  | slb e t ih => intro x ho h; trivial
  | pair a b iha ihb =>
    intro x ho h
    simp only [okE, Bool.and_eq_true] at ho
    exact ⟨iha _ ho.1 h.1, ihb _ ho.2 h.2⟩
  | arr n t ih => intro x ho h; exact ⟨h.1, fun y hy => ih y ho (h.2 y hy)⟩
theorem fit_plainAll {B : TypeId → Nat} : ∀ (ts : List Ty) (x : Tup ts), ts.all (okE B) = true → FitAll B ts x → PlainAll ts x := by
  intro ts
  induction ts with
  | nil => intro x _ _; trivial
  | cons t r ih =>
    intro x ho h
    simp only [List.all_cons, Bool.and_eq_true] at ho
    cases r with
    | nil => exact fit_plain t x ho.1 h
    | cons u r => exact ⟨fit_plain t x.1 ho.1 h.1, ih x.2 ho.2 h.2⟩
theorem ok_all {tab : List TRow} (h : okB P tab = true) : tab.all (rowB P tab) = true := by
  unfold okB at h; simp only [Bool.and_eq_true] at h; exact h.2.2
theorem bytes_sound {tab : List TRow} (h : okB P tab = true) : ∀ t x, tabT tab t = some x → P.bytesOf t = tabB tab t := by
  intro t x ht
  have hs := tab_sound (ok_all h)
  obtain ⟨ty, n⟩ := x
  obtain ⟨i, h1, h2⟩ := (hs.1 t ty n ht).info
  unfold Program.bytesOf
  rw [h1]
  exact hs.2 t _ ht i h1
section
variable {H : Type} {enc : TypeId × Value → H} {w : World} {base : Nat} {spare : Nat → Bool} {held : Bool}
theorem law_row {tab : List TRow} (hok : okB P tab = true) (hpos : posB tab = true) {f : FuncId} {c : Con} (hg : Good P f c) (hps : (c.ps.map (·.2)).map ((Kn.val, ·)) = c.ps) (hE : (c.ps.map (·.2)).all (okE (tabB tab)) = true)
    (hlaw : ∀ x, PlainAll (c.ps.map (·.2)) x → ∃ r, c.F x = some r ∧ kds' c.rs (dats _ r) = [(.val, ⟨.bool, true⟩)])
    {r : Reach} {b0 : Nat} {ts : List TypeId} {args : Array Value} {ds : List (DataW H)} {p : List MemPlace} (hts : tysOf (tabT tab) ts = some (c.ps.map (·.2))) (h : DataW.TrodAll enc P w base spare held ts args.toList ds p)
    (hval : ∀ (j : Nat) t v, ts[j]? = some t → args[j]? = some v → Value.okWide P w r b0 t v) {vt : List TypeId} {gs : List (DataW H)} (hgs : vt = [] ∨ gs = []) (hw : (DataW.weightsEach P (ts ++ vt) (ds ++ gs)).all (· ≤ reachBytes) = true) (hl : ts.length = ds.length) :
    Calls P f args w fun e w' => e = .returned (.bool true) ∧ Below w.heap.size w w' := by
  refine law_calls (tab_sound (ok_all hok)).1 (bytes_sound hok) (posB_sound hpos) hg hps (fun x hx => hlaw x (fit_plainAll _ x hE hx)) hts h (fun j t v hj hv => hval j t v hj (by simpa using hv)) ?_
  have key : ∀ (ts : List TypeId) (ds : List (DataW H)), ts.length = ds.length → ∀ m ∈ DataW.weightsEach P ts ds, m ∈ DataW.weightsEach P (ts ++ vt) (ds ++ gs) := by
    intro ts
    induction ts with
    | nil => intro ds hl m hm; cases ds <;> simp [DataW.weightsEach] at hm
    | cons t ts ih =>
      intro ds hl m hm
      cases ds with
      | nil => simp [DataW.weightsEach] at hm
      | cons d ds =>
        simp only [List.cons_append, DataW.weightsEach, List.mem_append] at hm ⊢
        rcases hm with hm | hm
        · exact .inl hm
        · exact .inr (ih ds (by simpa using hl) m hm)
  intro m hm
  have := List.all_eq_true.1 hw m (key ts ds hl m hm)
  simpa using this
end
end Go.Ev

/- What the laws' own helpers do, loop by loop: sizes, copies, comparisons, marks. -/
namespace Go.Pl
open Go.Ev
set_option linter.unusedVariables false

def Sm (s : ByteArray) : Prop := s.size ≤ 1000000
def Lm {α : Type} (Q : α → Prop) (xs : List α) : Prop := xs.length ≤ 1000000 ∧ ∀ x ∈ xs, Q x

theorem eqS_loop {α : Type} {E : α → Prop} (l : Nat → List α → List α → Int → Option Bool) (a : List α) (hE : ∀ x ∈ a, E x)
    (hs : ∀ k p x r, E x → a = p ++ x :: r → l (k + 1) a a p.length = l k a a ((p.length : Int) + 1)) (he : ∀ k, l (k + 1) a a a.length = some true) :
    ∀ k, a.length < k → l k a a 0 = some true := by
  have key : ∀ (r p : List α) (k : Nat), a = p ++ r → r.length < k → l k a a p.length = some true := by
    intro r
    induction r with
    | nil =>
      intro p k h hk
      obtain ⟨k, rfl⟩ : ∃ j, k = j + 1 := ⟨k - 1, by omega⟩
      rw [List.append_nil] at h
      rw [← h]; exact he k
    | cons x r ih =>
      intro p k h hk
      simp only [List.length_cons] at hk
      obtain ⟨k, rfl⟩ : ∃ j, k = j + 1 := ⟨k - 1, by omega⟩
      rw [hs k p x r (hE x (by rw [h]; simp)) h]
      have := ih (p ++ [x]) k (by rw [h]; simp) (by omega)
      rw [snoc_len] at this
      exact this
  intro k hk
  have := key a [] k (by simp) hk
  simpa using this

theorem szS_loop {α : Type} {Q R : α → Prop} (l : Nat → List α → Int → Int → Option Int)
    (he : ∀ k p left, l (k + 1) p left p.length = some left)
    (hs : ∀ x, Q x → ∀ left, -1000000000000000 ≤ left → left ≤ 1000000 → ∃ s, s ≤ 1000000 ∧ (0 ≤ s → s ≤ left ∧ R x) ∧ ∀ k p r, p.length + r.length + 1 ≤ 140737488355328 → l (k + 1) (p ++ x :: r) left p.length = if s < 0 then some (-1) else l k (p ++ x :: r) s ((p.length : Int) + 1))
    (a : List α) (k : Nat) (left : Int) (h0 : -1000000000000000 ≤ left) (h1 : left ≤ 1000000) (ha : Ls Q a) (hk : a.length < k) : ∃ s, l k a left 0 = some s ∧ s ≤ 1000000 ∧ (0 ≤ s → s ≤ left ∧ ∀ x ∈ a, R x) := by
  have key : ∀ (r p : List α) (k : Nat) (left : Int), p.length + r.length ≤ 140737488355328 → (∀ x ∈ r, Q x) → -1000000000000000 ≤ left → left ≤ 1000000 → r.length < k → ∃ s, l k (p ++ r) left p.length = some s ∧ s ≤ 1000000 ∧ (0 ≤ s → s ≤ left ∧ ∀ x ∈ r, R x) := by
    intro r
    induction r with
    | nil =>
      intro p k left _ _ _ _ hk
      obtain ⟨k, rfl⟩ : ∃ j, k = j + 1 := ⟨k - 1, by omega⟩
      rw [List.append_nil]
      exact ⟨left, he k p left, by omega, fun _ => ⟨by omega, fun x hx => by cases hx⟩⟩
    | cons x r ih =>
      intro p k left hb hq h0 h1 hk
      simp only [List.length_cons] at hk hb
      obtain ⟨k, rfl⟩ : ∃ j, k = j + 1 := ⟨k - 1, by omega⟩
      obtain ⟨s, s1, s2, s3⟩ := hs x (hq x (by simp)) left h0 h1
      rw [s3 k p r (by omega)]
      by_cases hn : s < 0
      · rw [if_pos hn]; exact ⟨-1, rfl, by omega, by omega⟩
      · rw [if_neg hn]
        obtain ⟨u, u1, u2, u3⟩ := ih (p ++ [x]) k s (by simp; omega) (fun y hy => hq y (by simp [hy])) (by omega) (by omega) (by omega)
        rw [mid_snoc, snoc_len] at u1
        refine ⟨u, u1, by omega, fun h => ⟨by have := (u3 h).1; have := (s2 (by omega)).1; omega, fun y hy => ?_⟩⟩
        rcases List.mem_cons.1 hy with rfl | hy
        · exact (s2 (by omega)).2
        · exact (u3 h).2 y hy
  have := key a [] k left (by simpa using ha.1) ha.2 h0 h1 hk
  simpa using this

theorem toS_loop {α : Type} {Z R : α → Prop} (l5 l9 : Nat → List α → Int → List α → Option (List α × List α))
    (he9 : ∀ k a (out : List α), (a.length : Int) ≤ out.length → l9 (k + 1) a out.length out = some (out.take a.length, out.drop a.length))
    (hs9 : ∀ k a (i : Nat) (out : List α), i < out.length → out.length ≤ 140737488355328 → ∃ z, Z z ∧ l9 (k + 1) a i out = l9 k a ((i : Int) + 1) (out.set i z))
    (he5 : ∀ k a (out : List α), l5 (k + 1) a a.length out = l9 NN a a.length out)
    (hs5 : ∀ k (p r : List α) x (q s : List α) y, R x → p.length = q.length → p.length + r.length + 1 ≤ 140737488355328 → p.length + s.length + 1 ≤ 140737488355328 → l5 (k + 1) (p ++ x :: r) p.length (q ++ y :: s) = l5 k (p ++ x :: r) ((p.length : Int) + 1) (q ++ x :: s))
    (a : List α) (out : List α) (k : Nat) (ha : ∀ x ∈ a, R x) (h : a.length ≤ out.length) (hb : out.length ≤ 140737488355328) (hk : a.length < k) :
    ∃ fil, l5 k a 0 out = some (a, fil) ∧ fil.length = out.length - a.length ∧ ∀ x ∈ fil, Z x := by
  have hN : 140737488355328 < NN := NN_lt (by omega)
  have k9 : ∀ (d : Nat) (k : Nat) (i : Nat) (out : List α), out.length ≤ 140737488355328 → i + d = out.length → d < k → a.length ≤ i → out.take a.length = a → (∀ j x, a.length ≤ j → j < i → out[j]? = some x → Z x) →
      ∃ fil, l9 k a i out = some (a, fil) ∧ fil.length = out.length - a.length ∧ ∀ x ∈ fil, Z x := by
    intro d
    induction d with
    | zero =>
      intro k i out hb hi hk ha ht hz
      obtain ⟨k, rfl⟩ : ∃ j, k = j + 1 := ⟨k - 1, by omega⟩
      obtain rfl : i = out.length := by omega
      refine ⟨_, by rw [he9 k a out (by omega), ht], by simp, fun x hx => ?_⟩
      obtain ⟨m, hm⟩ := List.mem_iff_getElem?.1 hx
      rw [List.getElem?_drop] at hm
      exact hz _ x (by omega) (List.getElem?_eq_some_iff.1 hm).1 hm
    | succ d ih =>
      intro k i out hb hi hk ha ht hz
      obtain ⟨k, rfl⟩ : ∃ j, k = j + 1 := ⟨k - 1, by omega⟩
      obtain ⟨z, z1, z2⟩ := hs9 k a i out (by omega) hb
      rw [z2]
      obtain ⟨fil, f1, f2, f3⟩ := ih k (i + 1) (out.set i z) (by simpa using hb) (by simp; omega) (by omega) (by omega) (by rw [List.take_set_of_le ha]; exact ht) (fun j x h1 h2 h3 => by
        by_cases hj : i = j
        · subst hj
          rw [List.getElem?_set_self (by omega)] at h3
          cases h3; exact z1
        · rw [List.getElem?_set_ne hj] at h3
          exact hz j x h1 (by omega) h3)
      exact ⟨fil, f1, by simpa using f2, f3⟩
  have k5 : ∀ (r p : List α) (s : List α) (k : Nat), p ++ r = a → p.length + s.length ≤ 140737488355328 → r.length ≤ s.length → r.length < k → (∀ x ∈ r, R x) →
      ∃ fil, l5 k a p.length (p ++ s) = some (a, fil) ∧ fil.length = p.length + s.length - a.length ∧ ∀ x ∈ fil, Z x := by
    intro r
    induction r with
    | nil =>
      intro p s k h3 h4 h5 hk _
      obtain ⟨k, rfl⟩ : ∃ j, k = j + 1 := ⟨k - 1, by omega⟩
      rw [List.append_nil] at h3
      subst h3
      rw [he5]
      obtain ⟨fil, f1, f2, f3⟩ := k9 s.length NN p.length (p ++ s) (by simp; omega) (by simp) (by omega) (by omega) (by rw [List.take_left' rfl]) (fun j x h1 h2 => by omega)
      exact ⟨fil, f1, by rw [f2]; simp, f3⟩
    | cons x r ih =>
      intro p s k h3 h4 h5 hk hR
      simp only [List.length_cons] at h5 hk
      obtain ⟨k, rfl⟩ : ∃ j, k = j + 1 := ⟨k - 1, by omega⟩
      cases s with
      | nil => simp at h5
      | cons y s =>
        have hs := hs5 k p r x p s y (hR x (by simp)) rfl (by simp only [List.length_cons] at h4 h5; omega) (by simp only [List.length_cons] at h4; omega)
        rw [h3] at hs
        rw [hs]
        obtain ⟨fil, f1, f2, f3⟩ := ih (p ++ [x]) s k (by rw [← h3]; simp) (by simp only [List.length_append, List.length_cons, List.length_nil] at h4 ⊢; omega) (by simp only [List.length_cons] at h5; omega) (by omega) (fun z hz => hR z (by simp [hz]))
        rw [mid_snoc, snoc_len] at f1
        exact ⟨fil, f1, by rw [f2]; simp only [List.length_append, List.length_cons, List.length_nil]; omega, f3⟩
  obtain ⟨fil, f1, f2, f3⟩ := k5 a [] out k rfl (by simpa using hb) h hk ha
  exact ⟨fil, by simpa using f1, by simpa using f2, f3⟩

/-- Rows that are marked, and looked at afterwards. -/
theorem mark_held {α : Type} {Q : α → Prop} (l : Nat → List α → Int → Int → Option (Int × List α)) (lh : Nat → List α → Int → Int → Option Int) (C : Nat) (K : Int)
    (he : ∀ k p n, l (k + 1) p n p.length = some (n, p)) (heh : ∀ k p n, lh (k + 1) p n p.length = some n)
    (hs : ∀ x, Q x → ∀ n, 0 ≤ n → n ≤ K → ∃ x' n', n ≤ n' ∧ n' ≤ n + C ∧ (∀ k p r, p.length + r.length + 1 ≤ 1000000 → l (k + 1) (p ++ x :: r) n p.length = l k (p ++ x' :: r) n' ((p.length : Int) + 1))
      ∧ (∀ k p r, p.length + r.length + 1 ≤ 1000000 → lh (k + 1) (p ++ x' :: r) n p.length = lh k (p ++ x' :: r) n' ((p.length : Int) + 1)))
    (a : List α) (ha : Lm Q a) (n : Int) (h0 : 0 ≤ n) (h1 : n + (1000000 * C : Nat) ≤ K) (k kh : Nat) (hk : 1000000 < k) (hkh : 1000000 < kh) :
    ∃ n' a', l k a n 0 = some (n', a') ∧ lh kh a' n 0 = some n' ∧ n ≤ n' ∧ n' ≤ n + (1000000 * C : Nat) := by
  have key : ∀ (r p : List α) (k : Nat) (n : Int), p.length + r.length ≤ 1000000 → (∀ x ∈ r, Q x) → 0 ≤ n → n + ((r.length * C : Nat) : Int) ≤ K → r.length < k →
      ∃ n' r', l k (p ++ r) n p.length = some (n', p ++ r') ∧ r'.length = r.length ∧ n ≤ n' ∧ n' ≤ n + ((r.length * C : Nat) : Int) ∧ (∀ (q : List α) kh, q.length = p.length → r.length < kh → lh kh (q ++ r') n q.length = some n') := by
    intro r
    induction r with
    | nil =>
      intro p k n _ _ h0 _ hk
      obtain ⟨k, rfl⟩ : ∃ j, k = j + 1 := ⟨k - 1, by omega⟩
      refine ⟨n, [], by rw [List.append_nil]; exact he k p n, rfl, by omega, by simp, fun q kh _ hkh => ?_⟩
      obtain ⟨kh, rfl⟩ : ∃ j, kh = j + 1 := ⟨kh - 1, by simp at hkh; omega⟩
      rw [List.append_nil]; exact heh kh q n
    | cons x r ih =>
      intro p k n hb hq h0 hK hk
      simp only [List.length_cons] at hk hb hK
      obtain ⟨k, rfl⟩ : ∃ j, k = j + 1 := ⟨k - 1, by omega⟩
      have hm : (r.length + 1) * C = r.length * C + C := by rw [Nat.add_mul, Nat.one_mul]
      rw [hm] at hK
      obtain ⟨x', n1, a1, a2, a3, a4⟩ := hs x (hq x (by simp)) n h0 (by omega)
      rw [a3 k p r (by omega)]
      obtain ⟨n', r', b1, b2, b3, b4, b5⟩ := ih (p ++ [x']) k n1 (by simp; omega) (fun y hy => hq y (by simp [hy])) (by omega) (by omega) (by omega)
      rw [mid_snoc, snoc_len] at b1
      refine ⟨n', x' :: r', by rw [b1]; simp, by simp [b2], by omega, by simp only [List.length_cons]; rw [hm]; omega, fun q kh hq' hkh => ?_⟩
      simp only [List.length_cons] at hkh
      obtain ⟨kh, rfl⟩ : ∃ j, kh = j + 1 := ⟨kh - 1, by omega⟩
      rw [a4 kh q r' (by omega)]
      have := b5 (q ++ [x']) kh (by simp [hq']) (by omega)
      rw [mid_snoc, snoc_len] at this
      exact this
  have hle : ((a.length * C : Nat) : Int) ≤ ((1000000 * C : Nat) : Int) := Int.ofNat_le.2 (Nat.mul_le_mul_right _ ha.1)
  obtain ⟨n', r', b1, b2, b3, b4, b5⟩ := key a [] k n (by simpa using ha.1) ha.2 h0 (by omega) (by have := ha.1; omega)
  have := b5 [] kh rfl (by have := ha.1; omega)
  exact ⟨n', r', by simpa using b1, by simpa using this, b3, by omega⟩
theorem mem_mid {α : Type} {a p r : List α} {x : α} (h : a = p ++ x :: r) : x ∈ a := by rw [h]; simp
end Go.Pl

/- Loops of a few sorts, and what they come to. -/
namespace Go.Pl
open Go.Ev
set_option linter.unusedVariables false

/-- false at the first element that fails -/
theorem all_loop {α : Type} {E : α → Prop} (P : α → Bool) (fin : List α → Option Bool) (l : Nat → List α → Int → Option Bool)
    (hn : ∀ k p, l (k + 1) p p.length = fin p)
    (hc : ∀ k p a r, E a → (0 : Int) ≤ (p.length : Int) → (p.length : Int) < ((p ++ a :: r).length : Int) → IntKind.i64.wrap ((p.length : Int) + 1) = (p.length : Int) + 1 → l (k + 1) (p ++ a :: r) p.length = if P a = true then l k (p ++ a :: r) ((p.length : Int) + 1) else some false)
    (xs : List α) (hE : ∀ x ∈ xs, E x) (hB : xs.length ≤ 140737488355328) (k : Nat) (hk : xs.length < k) : l k xs 0 = if xs.all P = true then fin xs else some false := by
  have key : ∀ (r p : List α) (k : Nat), p.length + r.length ≤ 140737488355328 → (∀ x ∈ r, E x) → r.length < k → l k (p ++ r) p.length = if r.all P = true then fin (p ++ r) else some false := by
    intro r
    induction r with
    | nil =>
      intro p k _ _ hk
      obtain ⟨k, rfl⟩ : ∃ j, k = j + 1 := ⟨k - 1, by omega⟩
      rw [List.append_nil, hn]; simp
    | cons a r ih =>
      intro p k hb he hk
      simp only [List.length_cons] at hk hb
      obtain ⟨k, rfl⟩ : ∃ j, k = j + 1 := ⟨k - 1, by omega⟩
      have hm := mid_len p r a
      rw [hc k p a r (he a (by simp)) (by omega) (by omega) (w64 (by omega) (by omega))]
      have := ih (p ++ [a]) k (by simp; omega) (fun y hy => he y (by simp [hy])) (by omega)
      rw [mid_snoc, snoc_len] at this
      rw [this]
      cases h : P a <;> simp [h]
  have := key xs [] k (by simpa using hB) hE hk
  simpa using this
/-- the same over a string's bytes -/
theorem all_loop_str (P : UInt8 → Bool) (fin : ByteArray → Option Bool) (l : Nat → ByteArray → Int → Option Bool)
    (hn : ∀ k p, l (k + 1) (ob p) p.length = fin (ob p))
    (hc : ∀ k p a r, (0 : Int) ≤ (p.length : Int) → (p.length : Int) < ((ob (p ++ a :: r)).size : Int) → IntKind.i64.wrap ((p.length : Int) + 1) = (p.length : Int) + 1 → l (k + 1) (ob (p ++ a :: r)) p.length = if P a = true then l k (ob (p ++ a :: r)) ((p.length : Int) + 1) else some false)
    (s : ByteArray) (hB : s.size ≤ 140737488355328) (k : Nat) (hk : s.size < k) : l k s 0 = if (bl s).all P = true then fin s else some false := by
  have := all_loop (E := fun _ => True) P (fun x => fin (ob x)) (fun k x i => l k (ob x) i) hn (fun k p a r _ h1 h2 h3 => hc k p a r h1 (by rw [ob_size]; exact h2) h3) (bl s) (fun _ _ => trivial) (by rw [bl_length]; exact hB) k (by rw [bl_length]; exact hk)
  rw [ob_bl] at this
  exact this

def foldi {α σ : Type} (f : Nat → σ → α → σ) : Nat → σ → List α → σ
  | _, st, [] => st
  | i, st, a :: r => foldi f (i + 1) (f i st a) r
theorem foldi_foldl {α σ : Type} (f : σ → α → σ) : ∀ (xs : List α) (i : Nat) (st : σ), foldi (fun _ => f) i st xs = xs.foldl f st := by
  intro xs
  induction xs with
  | nil => intro i st; rfl
  | cons a r ih => intro i st; exact ih _ _
theorem foldi_append {α σ : Type} (f : Nat → σ → α → σ) : ∀ (xs ys : List α) (i : Nat) (st : σ), foldi f i st (xs ++ ys) = foldi f (i + xs.length) (foldi f i st xs) ys := by
  intro xs
  induction xs with
  | nil => intro ys i st; rfl
  | cons a r ih => intro ys i st; simp only [List.cons_append, foldi, List.length_cons]; rw [ih, show i + 1 + r.length = i + (r.length + 1) by omega]
/-- a state that goes from element to element; I: what holds of it behind a part of the row -/
theorem fold_loop {α σ ρ : Type} {E : α → Prop} (I : List α → σ → Prop) (f : Nat → σ → α → σ) (fin : List α → σ → Option ρ) (l : Nat → List α → Int → σ → Option ρ)
    (hn : ∀ k p st, I p st → l (k + 1) p p.length st = fin p st)
    (hc : ∀ k p a r st, E a → I p st → (0 : Int) ≤ (p.length : Int) → (p.length : Int) < ((p ++ a :: r).length : Int) → p.length < 140737488355328 → IntKind.i64.wrap ((p.length : Int) + 1) = (p.length : Int) + 1 →
      I (p ++ [a]) (f p.length st a) ∧ l (k + 1) (p ++ a :: r) p.length st = l k (p ++ a :: r) ((p.length : Int) + 1) (f p.length st a))
    (xs : List α) (st : σ) (hE : ∀ x ∈ xs, E x) (hI : I [] st) (hB : xs.length ≤ 140737488355328) (k : Nat) (hk : xs.length < k) :
    I xs (foldi f 0 st xs) ∧ l k xs 0 st = fin xs (foldi f 0 st xs) := by
  have key : ∀ (r p : List α) (k : Nat) (st : σ), p.length + r.length ≤ 140737488355328 → (∀ x ∈ r, E x) → I p st → r.length < k → I (p ++ r) (foldi f p.length st r) ∧ l k (p ++ r) p.length st = fin (p ++ r) (foldi f p.length st r) := by
    intro r
    induction r with
    | nil =>
      intro p k st _ _ hI hk
      obtain ⟨k, rfl⟩ : ∃ j, k = j + 1 := ⟨k - 1, by omega⟩
      rw [List.append_nil]; exact ⟨hI, hn k p st hI⟩
    | cons a r ih =>
      intro p k st hb he hI hk
      simp only [List.length_cons] at hk hb
      obtain ⟨k, rfl⟩ : ∃ j, k = j + 1 := ⟨k - 1, by omega⟩
      have hm := mid_len p r a
      obtain ⟨h1, h2⟩ := hc k p a r st (he a (by simp)) hI (by omega) (by omega) (by omega) (w64 (by omega) (by omega))
      have := ih (p ++ [a]) k (f p.length st a) (by simp; omega) (fun y hy => he y (by simp [hy])) h1 (by omega)
      rw [mid_snoc, snoc_len] at this
      rw [h2]
      simpa [foldi] using this
  have := key xs [] k st (by simpa using hB) hE hI hk
  simpa using this
/-- the same over a string's bytes -/
theorem fold_loop_str {σ ρ : Type} (I : List UInt8 → σ → Prop) (f : Nat → σ → UInt8 → σ) (fin : ByteArray → σ → Option ρ) (l : Nat → ByteArray → Int → σ → Option ρ)
    (hn : ∀ k p st, I p st → l (k + 1) (ob p) p.length st = fin (ob p) st)
    (hc : ∀ k p a r st, I p st → (0 : Int) ≤ (p.length : Int) → (p.length : Int) < ((ob (p ++ a :: r)).size : Int) → p.length < 140737488355328 → IntKind.i64.wrap ((p.length : Int) + 1) = (p.length : Int) + 1 →
      I (p ++ [a]) (f p.length st a) ∧ l (k + 1) (ob (p ++ a :: r)) p.length st = l k (ob (p ++ a :: r)) ((p.length : Int) + 1) (f p.length st a))
    (s : ByteArray) (st : σ) (hI : I [] st) (hB : s.size ≤ 140737488355328) (k : Nat) (hk : s.size < k) :
    I (bl s) (foldi f 0 st (bl s)) ∧ l k s 0 st = fin s (foldi f 0 st (bl s)) := by
  have := fold_loop (E := fun _ => True) I f (fun x => fin (ob x)) (fun k x i st => l k (ob x) i st) hn (fun k p a r st _ hI h1 h2 h3 h4 => hc k p a r st hI h1 (by rw [ob_size]; exact h2) h3 h4) (bl s) st (fun _ _ => trivial) hI (by rw [bl_length]; exact hB) k (by rw [bl_length]; exact hk)
  rw [ob_bl] at this
  exact this
/-- fold_loop, of one row: the rounds may look at it as a whole -/
theorem fold_fix {α σ ρ : Type} {E : α → Prop} (I : List α → σ → Prop) (f : Nat → σ → α → σ) (fin : σ → Option ρ) (l : Nat → Int → σ → Option ρ) (xs : List α)
    (hn : ∀ k st, I xs st → l (k + 1) xs.length st = fin st)
    (hc : ∀ k p a r st, xs = p ++ a :: r → E a → I p st → (0 : Int) ≤ (p.length : Int) → (p.length : Int) < (xs.length : Int) → p.length < 140737488355328 → IntKind.i64.wrap ((p.length : Int) + 1) = (p.length : Int) + 1 → (∀ z, xs.getD p.length z = a) →
      I (p ++ [a]) (f p.length st a) ∧ l (k + 1) p.length st = l k ((p.length : Int) + 1) (f p.length st a))
    (st : σ) (hE : ∀ x ∈ xs, E x) (hI : I [] st) (hB : xs.length ≤ 140737488355328) (k : Nat) (hk : xs.length < k) :
    I xs (foldi f 0 st xs) ∧ l k 0 st = fin (foldi f 0 st xs) := by
  have key : ∀ (r p : List α) (k : Nat) (st : σ), xs = p ++ r → (∀ x ∈ r, E x) → I p st → r.length < k → I xs (foldi f p.length st r) ∧ l k p.length st = fin (foldi f p.length st r) := by
    intro r
    induction r with
    | nil =>
      intro p k st hx _ hI hk
      obtain ⟨k, rfl⟩ : ∃ j, k = j + 1 := ⟨k - 1, by omega⟩
      rw [List.append_nil] at hx
      subst hx; exact ⟨hI, hn k st hI⟩
    | cons a r ih =>
      intro p k st hx he hI hk
      simp only [List.length_cons] at hk
      obtain ⟨k, rfl⟩ : ∃ j, k = j + 1 := ⟨k - 1, by omega⟩
      have hm := mid_len p r a
      have hxl : (xs.length : Int) = ((p ++ a :: r).length : Int) := by rw [hx]
      obtain ⟨h1, h2⟩ := hc k p a r st hx (he a (by simp)) hI (by omega) (by omega) (by omega) (w64 (by omega) (by omega)) (fun z => by rw [hx, mid_getn])
      have := ih (p ++ [a]) k (f p.length st a) (by rw [hx]; simp) (fun y hy => he y (by simp [hy])) h1 (by omega)
      rw [snoc_len] at this
      rw [h2]
      simpa [foldi] using this
  have := key xs [] k st (by simp) hE hI hk
  simpa using this
/-- the first element that is looked for, and its number -/
def firstOf {α : Type} (P : α → Bool) : Nat → List α → Option (Nat × α)
  | _, [] => none
  | i, a :: r => if P a = true then some (i, a) else firstOf P (i + 1) r
theorem find_loop {α ρ : Type} {E : α → Prop} (P : α → Bool) (hit : Nat → α → Option ρ) (fin : List α → Option ρ) (l : Nat → List α → Int → Option ρ)
    (hn : ∀ k p, l (k + 1) p p.length = fin p)
    (hc : ∀ k p a r, E a → (0 : Int) ≤ (p.length : Int) → (p.length : Int) < ((p ++ a :: r).length : Int) → p.length < 140737488355328 → IntKind.i64.wrap ((p.length : Int) + 1) = (p.length : Int) + 1 → l (k + 1) (p ++ a :: r) p.length = if P a = true then hit p.length a else l k (p ++ a :: r) ((p.length : Int) + 1))
    (xs : List α) (hE : ∀ x ∈ xs, E x) (hB : xs.length ≤ 140737488355328) (k : Nat) (hk : xs.length < k) : l k xs 0 = (firstOf P 0 xs).elim (fin xs) (fun x => hit x.1 x.2) := by
  have key : ∀ (r p : List α) (k : Nat), p.length + r.length ≤ 140737488355328 → (∀ x ∈ r, E x) → r.length < k → l k (p ++ r) p.length = (firstOf P p.length r).elim (fin (p ++ r)) (fun x => hit x.1 x.2) := by
    intro r
    induction r with
    | nil =>
      intro p k _ _ hk
      obtain ⟨k, rfl⟩ : ∃ j, k = j + 1 := ⟨k - 1, by omega⟩
      rw [List.append_nil, hn]; rfl
    | cons a r ih =>
      intro p k hb he hk
      simp only [List.length_cons] at hk hb
      obtain ⟨k, rfl⟩ : ∃ j, k = j + 1 := ⟨k - 1, by omega⟩
      have hm := mid_len p r a
      rw [hc k p a r (he a (by simp)) (by omega) (by omega) (by omega) (w64 (by omega) (by omega))]
      have := ih (p ++ [a]) k (by simp; omega) (fun y hy => he y (by simp [hy])) (by omega)
      rw [mid_snoc, snoc_len] at this
      rw [this]
      cases h : P a <;> simp [h, firstOf]
  have := key xs [] k (by simpa using hB) hE hk
  simpa using this
end Go.Pl

namespace Go.Pl
open Go.Ev
set_option linter.unusedVariables false
set_option linter.unusedSimpArgs false
def inB (n lo hi : Int) : Bool := decide (lo ≤ n) && decide (n ≤ hi)
theorem inB_iff {n lo hi : Int} : inB n lo hi = true ↔ lo ≤ n ∧ n ≤ hi := by unfold inB; simp
theorem impl_within_f (n lo hi : Int) : impl_within.f n lo hi = some (inB n lo hi) := by
  unfold impl_within.f impl_within.fn impl_within.top inB
  by_cases h : lo ≤ n <;> simp [h]
theorem spec_l01In_f (n lo hi : Int) : spec_l01In.f n lo hi = some (inB n lo hi) := by
  unfold spec_l01In.f spec_l01In.fn spec_l01In.top inB
  by_cases h : lo ≤ n <;> simp [h]
/-- a letter -/
def letB (c : UInt8) : Bool := !(decide ((c.toNat : Int) < 97)) && !(decide (122 < (c.toNat : Int)))
def wordB (s : ByteArray) : Bool := decide (1 ≤ s.size) && decide (s.size ≤ 16) && (bl s).all letB
theorem wordB_size {s : ByteArray} (h : wordB s = true) : 1 ≤ s.size ∧ s.size ≤ 16 := by
  unfold wordB at h; simp at h; exact h.1
theorem impl_IsWord_loop (s : ByteArray) (h : s.size ≤ 140737488355328) : impl_IsWord.l4 NN NN s 0 = if (bl s).all letB = true then some true else some false := by
  refine all_loop_str letB (fun s => some true) (fun k s i => impl_IsWord.l4 NN k s i) ?_ ?_ s h NN (NN_lt (by omega))
  · intro k p
    show impl_IsWord.g4 _ (ob p) p.length = _
    simp [impl_IsWord.g4, ob_size, spec_l01In_f]
  · intro k p a r c0 c1 cw
    show impl_IsWord.g4 (impl_IsWord.l4 NN k) (ob (p ++ a :: r)) p.length = _
    simp only [impl_IsWord.g4, c0, c1, cw, and_self, and_true, true_and, decide_true, decide_false, if_true, if_false, mid_get, mid_set, mid_getn, mid_setn, bt_mid, Option.bind_some, Bool.not_true, Bool.not_false, Bool.false_eq_true, Bool.true_eq_false, beq_self_eq_true, bne_self_eq_false, Int.toNat_natCast]
    unfold letB
    by_cases h1 : (a.toNat : Int) < 97 <;> by_cases h2 : (122 : Int) < (a.toNat : Int) <;> simp [h1, h2]
theorem spec_IsWord_loop (s : ByteArray) (h : s.size ≤ 140737488355328) : spec_IsWord.l2 NN NN s 0 = if (bl s).all letB = true then some (inB s.size 1 16) else some false := by
  refine all_loop_str letB (fun s => some (inB s.size 1 16)) (fun k s i => spec_IsWord.l2 NN k s i) ?_ ?_ s h NN (NN_lt (by omega))
  · intro k p
    show spec_IsWord.g2 _ (ob p) p.length = _
    simp [spec_IsWord.g2, ob_size, spec_l01In_f]
  · intro k p a r c0 c1 cw
    show spec_IsWord.g2 (spec_IsWord.l2 NN k) (ob (p ++ a :: r)) p.length = _
    simp only [spec_IsWord.g2, c0, c1, cw, and_self, and_true, true_and, decide_true, decide_false, if_true, if_false, mid_get, mid_set, mid_getn, mid_setn, bt_mid, Option.bind_some, Bool.not_true, Bool.not_false, Bool.false_eq_true, Bool.true_eq_false, beq_self_eq_true, bne_self_eq_false, Int.toNat_natCast]
    unfold letB
    by_cases h1 : (a.toNat : Int) < 97 <;> by_cases h2 : (122 : Int) < (a.toNat : Int) <;> simp [h1, h2]
theorem impl_IsWord_f (s : ByteArray) (h : s.size ≤ 140737488355328) : impl_IsWord.f s = some (wordB s) := by
  unfold impl_IsWord.f impl_IsWord.fn impl_IsWord.top
  rw [impl_IsWord_loop s h]
  unfold wordB
  by_cases h1 : (s.size : Int) < 1
  · have : ¬ 1 ≤ s.size := by omega
    simp [h1, this]
  · have e1 : 1 ≤ s.size := by omega
    by_cases h2 : (16 : Int) < s.size
    · have : ¬ s.size ≤ 16 := by omega
      simp [h1, h2, this]
    · have : s.size ≤ 16 := by omega
      cases h3 : (bl s).all letB <;> simp [h1, h2, this, h3, e1]
theorem spec_IsWord_f (s : ByteArray) (h : s.size ≤ 140737488355328) : spec_IsWord.f s = some (wordB s) := by
  unfold spec_IsWord.f spec_IsWord.fn spec_IsWord.top
  rw [spec_IsWord_loop s h]
  unfold wordB inB
  have e1 : decide ((1 : Int) ≤ s.size) = decide (1 ≤ s.size) := by congr 1; simp; omega
  have e2 : decide ((s.size : Int) ≤ 16) = decide (s.size ≤ 16) := by congr 1; simp; omega
  rw [e1, e2]
  cases h3 : (bl s).all letB <;> simp
end Go.Pl

namespace Go.Pl
open Go.Ev
set_option linter.unusedVariables false
set_option linter.unusedSimpArgs false
def PlRatio (x : Int × Int) : Prop := Rg .i64 x.1 ∧ Rg .i64 x.2
def OkRatio (x : Int × Int) : Prop := Rg .i64 x.1 ∧ Rg .i64 x.2
def PlArticle (x : ByteArray × Int × Int × Int × Int × Int × Int × Int × Int) : Prop := Sz x.1 ∧ Rg .i64 x.2.1 ∧ Rg .i64 x.2.2.1 ∧ Rg .i64 x.2.2.2.1 ∧ Rg .i64 x.2.2.2.2.1 ∧ Rg .i64 x.2.2.2.2.2.1 ∧ Rg .i64 x.2.2.2.2.2.2.1 ∧ Rg .i64 x.2.2.2.2.2.2.2.1 ∧ Rg .i64 x.2.2.2.2.2.2.2.2
def OkArticle (x : ByteArray × Int × Int × Int × Int × Int × Int × Int × Int) : Prop := Sm x.1 ∧ Rg .i64 x.2.1 ∧ Rg .i64 x.2.2.1 ∧ Rg .i64 x.2.2.2.1 ∧ Rg .i64 x.2.2.2.2.1 ∧ Rg .i64 x.2.2.2.2.2.1 ∧ Rg .i64 x.2.2.2.2.2.2.1 ∧ Rg .i64 x.2.2.2.2.2.2.2.1 ∧ Rg .i64 x.2.2.2.2.2.2.2.2
def PlLayer (x : Int × Int × Int) : Prop := Rg .i64 x.1 ∧ Rg .i64 x.2.1 ∧ Rg .i64 x.2.2
def OkLayer (x : Int × Int × Int) : Prop := Rg .i64 x.1 ∧ Rg .i64 x.2.1 ∧ Rg .i64 x.2.2
def PlShot (x : Int × Int × Int × Int) : Prop := Rg .i64 x.1 ∧ Rg .i64 x.2.1 ∧ Rg .i64 x.2.2.1 ∧ Rg .i64 x.2.2.2
def OkShot (x : Int × Int × Int × Int) : Prop := Rg .i64 x.1 ∧ Rg .i64 x.2.1 ∧ Rg .i64 x.2.2.1 ∧ Rg .i64 x.2.2.2
def PlBar (x : Int × Int) : Prop := Rg .i64 x.1 ∧ Rg .i64 x.2
def OkBar (x : Int × Int) : Prop := Rg .i64 x.1 ∧ Rg .i64 x.2
def PlCue (x : Int × Int × ByteArray × Int) : Prop := Rg .i64 x.1 ∧ Rg .i64 x.2.1 ∧ Sz x.2.2.1 ∧ Rg .i64 x.2.2.2
def OkCue (x : Int × Int × ByteArray × Int) : Prop := Rg .i64 x.1 ∧ Rg .i64 x.2.1 ∧ Sm x.2.2.1 ∧ Rg .i64 x.2.2.2
def PlShow (x : (List (Int × Int)) × (List (ByteArray × Int × Int × Int × Int × Int × Int × Int × Int)) × (List (Int × Int × ByteArray × Int))) : Prop := Ls PlBar x.1 ∧ Ls PlArticle x.2.1 ∧ Ls PlCue x.2.2
def OkShow (x : (List (Int × Int)) × (List (ByteArray × Int × Int × Int × Int × Int × Int × Int × Int)) × (List (Int × Int × ByteArray × Int))) : Prop := Lm OkBar x.1 ∧ Lm OkArticle x.2.1 ∧ Lm OkCue x.2.2
def PlFuse (x : Int × Int × Int × Int) : Prop := Rg .i64 x.1 ∧ Rg .i64 x.2.1 ∧ Rg .i64 x.2.2.1 ∧ Rg .i64 x.2.2.2
def OkFuse (x : Int × Int × Int × Int) : Prop := Rg .i64 x.1 ∧ Rg .i64 x.2.1 ∧ Rg .i64 x.2.2.1 ∧ Rg .i64 x.2.2.2
def PlLink (x : Int × Int) : Prop := Rg .i64 x.1 ∧ Rg .i64 x.2
def OkLink (x : Int × Int) : Prop := Rg .i64 x.1 ∧ Rg .i64 x.2
def PlModule (x : Int × Int) : Prop := Rg .i64 x.1 ∧ Rg .i64 x.2
def OkModule (x : Int × Int) : Prop := Rg .i64 x.1 ∧ Rg .i64 x.2
def PlWire (x : Int × Int × Int) : Prop := Rg .i64 x.1 ∧ Rg .i64 x.2.1 ∧ Rg .i64 x.2.2
def OkWire (x : Int × Int × Int) : Prop := Rg .i64 x.1 ∧ Rg .i64 x.2.1 ∧ Rg .i64 x.2.2
def PlCircuit (x : Int × List Int) : Prop := Rg .i64 x.1 ∧ Ls (Rg .i64) x.2
def OkCircuit (x : Int × List Int) : Prop := Rg .i64 x.1 ∧ Lm (Rg .i64) x.2
def PlArea (x : Int × Int × Int × Int × Int) : Prop := Rg .i64 x.1 ∧ Rg .i64 x.2.1 ∧ Rg .i64 x.2.2.1 ∧ Rg .i64 x.2.2.2.1 ∧ Rg .i64 x.2.2.2.2
def OkArea (x : Int × Int × Int × Int × Int) : Prop := Rg .i64 x.1 ∧ Rg .i64 x.2.1 ∧ Rg .i64 x.2.2.1 ∧ Rg .i64 x.2.2.2.1 ∧ Rg .i64 x.2.2.2.2
def PlDemand (x : Int × Int × Int) : Prop := Rg .i64 x.1 ∧ Rg .i64 x.2.1 ∧ Rg .i64 x.2.2
def OkDemand (x : Int × Int × Int) : Prop := Rg .i64 x.1 ∧ Rg .i64 x.2.1 ∧ Rg .i64 x.2.2
def PlRack (x : Int × Int × List Int × List ByteArray) : Prop := Rg .i64 x.1 ∧ Rg .i64 x.2.1 ∧ Ls (Rg .i64) x.2.2.1 ∧ Ls Sz x.2.2.2
def OkRack (x : Int × Int × List Int × List ByteArray) : Prop := Rg .i64 x.1 ∧ Rg .i64 x.2.1 ∧ Lm (Rg .i64) x.2.2.1 ∧ Lm Sm x.2.2.2
def PlField (x : (List (Int × Int × Int)) × (List (Int × Int × Int × Int × Int)) × List Int × List Int × List Int × Int) : Prop := Ls PlDemand x.1 ∧ Ls PlArea x.2.1 ∧ Ls (Rg .i64) x.2.2.1 ∧ Ls (Rg .i64) x.2.2.2.1 ∧ Ls (Rg .i64) x.2.2.2.2.1 ∧ Rg .i64 x.2.2.2.2.2
def OkField (x : (List (Int × Int × Int)) × (List (Int × Int × Int × Int × Int)) × List Int × List Int × List Int × Int) : Prop := Lm OkDemand x.1 ∧ Lm OkArea x.2.1 ∧ Lm (Rg .i64) x.2.2.1 ∧ Lm (Rg .i64) x.2.2.2.1 ∧ Lm (Rg .i64) x.2.2.2.2.1 ∧ Rg .i64 x.2.2.2.2.2
def PlMove (x : Int × ByteArray × Int) : Prop := Rg .i64 x.1 ∧ Sz x.2.1 ∧ Rg .i64 x.2.2
def OkMove (x : Int × ByteArray × Int) : Prop := Rg .i64 x.1 ∧ Sm x.2.1 ∧ Rg .i64 x.2.2
def PlController (x : Bool × Bool × Bool × Bool × Bool × Int) : Prop := True ∧ True ∧ True ∧ True ∧ True ∧ Rg .i64 x.2.2.2.2.2
def OkController (x : Bool × Bool × Bool × Bool × Bool × Int) : Prop := True ∧ True ∧ True ∧ True ∧ True ∧ Rg .i64 x.2.2.2.2.2
def PlSignal (x : Int × Int) : Prop := Rg .i64 x.1 ∧ Rg .i64 x.2
def OkSignal (x : Int × Int) : Prop := Rg .i64 x.1 ∧ Rg .i64 x.2
def PlTry (x : Int × Int × Bool) : Prop := Rg .i64 x.1 ∧ Rg .i64 x.2.1 ∧ True
def OkTry (x : Int × Int × Bool) : Prop := Rg .i64 x.1 ∧ Rg .i64 x.2.1 ∧ True
def PlMagazine (x : Int × List Int) : Prop := Rg .i64 x.1 ∧ Ls (Rg .i64) x.2
def OkMagazine (x : Int × List Int) : Prop := Rg .i64 x.1 ∧ Lm (Rg .i64) x.2
def PlDepot (x : Int × Int × Int) : Prop := Rg .i64 x.1 ∧ Rg .i64 x.2.1 ∧ Rg .i64 x.2.2
def OkDepot (x : Int × Int × Int) : Prop := Rg .i64 x.1 ∧ Rg .i64 x.2.1 ∧ Rg .i64 x.2.2
def PlBox (x : Int × Int) : Prop := Rg .i64 x.1 ∧ Rg .i64 x.2
def OkBox (x : Int × Int) : Prop := Rg .i64 x.1 ∧ Rg .i64 x.2
def PlLine (x : ByteArray × Int) : Prop := Sz x.1 ∧ Rg .i64 x.2
def OkLine (x : ByteArray × Int) : Prop := Sm x.1 ∧ Rg .i64 x.2
def PlPaper (x : ByteArray × Int × (List (ByteArray × Int))) : Prop := Sz x.1 ∧ Rg .i64 x.2.1 ∧ Ls PlLine x.2.2
def OkPaper (x : ByteArray × Int × (List (ByteArray × Int))) : Prop := Sm x.1 ∧ Rg .i64 x.2.1 ∧ Lm OkLine x.2.2
def PlPermit (x : Int × Int × Int × Int × List Int × Int) : Prop := Rg .i64 x.1 ∧ Rg .i64 x.2.1 ∧ Rg .i64 x.2.2.1 ∧ Rg .i64 x.2.2.2.1 ∧ Ls (Rg .i64) x.2.2.2.2.1 ∧ Rg .i64 x.2.2.2.2.2
def OkPermit (x : Int × Int × Int × Int × List Int × Int) : Prop := Rg .i64 x.1 ∧ Rg .i64 x.2.1 ∧ Rg .i64 x.2.2.1 ∧ Rg .i64 x.2.2.2.1 ∧ Lm (Rg .i64) x.2.2.2.2.1 ∧ Rg .i64 x.2.2.2.2.2
def PlGrid (x : Int × Int × List Bool) : Prop := Rg .i64 x.1 ∧ Rg .i64 x.2.1 ∧ Ls (fun _ => True) x.2.2
def OkGrid (x : Int × Int × List Bool) : Prop := Rg .i64 x.1 ∧ Rg .i64 x.2.1 ∧ Lm (fun _ => True) x.2.2
def PlBooking (x : Int × ByteArray × Int) : Prop := Rg .i64 x.1 ∧ Sz x.2.1 ∧ Rg .i64 x.2.2
def OkBooking (x : Int × ByteArray × Int) : Prop := Rg .i64 x.1 ∧ Sm x.2.1 ∧ Rg .i64 x.2.2
def PlEntry (x : Int × ByteArray) : Prop := Rg .u8 x.1 ∧ Sz x.2
def OkEntry (x : Int × ByteArray) : Prop := Rg .u8 x.1 ∧ Sm x.2
def PlDesk (x : (List (Int × ByteArray × Int)) × (List (Int × Int)) × (List (Int × ByteArray × Int))) : Prop := Ls PlMove x.1 ∧ Ls PlSignal x.2.1 ∧ Ls PlBooking x.2.2
def OkDesk (x : (List (Int × ByteArray × Int)) × (List (Int × Int)) × (List (Int × ByteArray × Int))) : Prop := Lm OkMove x.1 ∧ Lm OkSignal x.2.1 ∧ Lm OkBooking x.2.2
end Go.Pl

namespace Go.Pl
open Go.Ev
set_option linter.unusedVariables false
noncomputable section
def impl_isCalibre.top (n0 : Int) : Option Bool :=
  (impl_within.f n0 20 300).bind fun r1 =>
  some r1
def impl_isCalibre.fn (n : Nat) (n0 : Int) : Option Bool := impl_isCalibre.top n0
def impl_isCalibre.f (n0 : Int) : Option Bool := impl_isCalibre.fn NN n0
end
end Go.Pl

namespace Go.Pl
open Go.Ev
set_option linter.unusedVariables false
noncomputable section
def impl_allWithin.g2 (L2 : Int → Int → List Int → Int → Int → Option Bool) (low1 : Int) (high2 : Int) (v9 : List Int) (v10 : Int) (v11 : Int) : Option Bool :=
  if (decide ((v11 : Int) < v10)) = true then
    if (0 : Int) ≤ v11 ∧ (v11 : Int) < v9.length then
      (impl_within.f (v9.getD (v11 : Int).toNat 0) low1 high2).bind fun r1 =>
      if (!r1) = true then
        some false
      else
        L2 low1 high2 v9 v10 (IntKind.i64.wrap (v11 + 1))
    else
      none
  else
    some true
def impl_allWithin.l2 (n : Nat) : Nat → Int → Int → List Int → Int → Int → Option Bool
  | 0 => fun _ _ _ _ _ => none
  | k + 1 => impl_allWithin.g2 (impl_allWithin.l2 n k)
def impl_allWithin.top (I2 : Int → Int → List Int → Int → Int → Option Bool) (list0 : List Int) (low1 : Int) (high2 : Int) : Option Bool :=
  I2 low1 high2 list0 (list0.length : Int) 0
def impl_allWithin.fn (n : Nat) (list0 : List Int) (low1 : Int) (high2 : Int) : Option Bool := impl_allWithin.top (impl_allWithin.l2 n n) list0 low1 high2
def impl_allWithin.f (list0 : List Int) (low1 : Int) (high2 : Int) : Option Bool := impl_allWithin.fn NN list0 low1 high2
end
end Go.Pl

namespace Go.Pl
open Go.Ev
set_option linter.unusedVariables false
noncomputable section
def impl_IsPermit.g4 (L4 : Int → (Int × Int × Int × Int × List Int × Int) → Option Bool) (i3 : Int) (p1 : Int × Int × Int × Int × List Int × Int) : Option Bool :=
  if (decide ((i3 : Int) < (p1.2.2.2.2.1.length : Int))) = true then
    if (0 : Int) ≤ (IntKind.i64.wrap (i3 - 1)) ∧ ((IntKind.i64.wrap (i3 - 1)) : Int) < p1.2.2.2.2.1.length then
      if (0 : Int) ≤ i3 ∧ (i3 : Int) < p1.2.2.2.2.1.length then
        if (decide (((p1.2.2.2.2.1.getD (i3 : Int).toNat 0) : Int) ≤ (p1.2.2.2.2.1.getD ((IntKind.i64.wrap (i3 - 1)) : Int).toNat 0))) = true then
          some false
        else
          L4 (IntKind.i64.wrap (i3 + 1)) p1
      else
        none
    else
      none
  else
    some true
def impl_IsPermit.l4 (n : Nat) : Nat → Int → (Int × Int × Int × Int × List Int × Int) → Option Bool
  | 0 => fun _ _ => none
  | k + 1 => impl_IsPermit.g4 (impl_IsPermit.l4 n k)
def impl_IsPermit.top (I4 : Int → (Int × Int × Int × Int × List Int × Int) → Option Bool) (p0 : Int × Int × Int × Int × List Int × Int) : Option Bool :=
  (impl_isDay.f p0.1).bind fun r1 =>
  if (!r1) = false then
    (impl_isDay.f p0.2.1).bind fun r2 =>
    if (!r2) = false then
      if (decide ((p0.2.1 : Int) < p0.1)) = false then
        (impl_within.f p0.2.2.1 0 1000000000).bind fun r3 =>
        if (!r3) = false then
          (impl_isCalibre.f p0.2.2.2.1).bind fun r4 =>
          if (!r4) = false then
            (impl_within.f p0.2.2.2.2.2 0 3).bind fun r5 =>
            if (!r5) = false then
              (impl_allWithin.f p0.2.2.2.2.1 0 3).bind fun r6 =>
              if (!r6) = true then
                some false
              else
                I4 1 p0
            else
              some false
          else
            some false
        else
          some false
      else
        some false
    else
      some false
  else
    some false
def impl_IsPermit.fn (n : Nat) (p0 : Int × Int × Int × Int × List Int × Int) : Option Bool := impl_IsPermit.top (impl_IsPermit.l4 n n) p0
def impl_IsPermit.f (p0 : Int × Int × Int × Int × List Int × Int) : Option Bool := impl_IsPermit.fn NN p0
end
end Go.Pl

namespace Go.Pl
open Go.Ev
set_option linter.unusedVariables false
noncomputable section
def spec_l01Rises.g2 (L2 : List Int → Int → Int → Option Bool) (list0 : List Int) (n1 : Int) (i5 : Int) : Option Bool :=
  if (decide ((i5 : Int) < (list0.length : Int))) = true then
    if (0 : Int) ≤ i5 ∧ (i5 : Int) < list0.length then
      (spec_l01In.f (list0.getD (i5 : Int).toNat 0) 0 (IntKind.i64.wrap (n1 - 1))).bind fun r1 =>
      if (!r1) = false then
        if (decide ((0 : Int) < i5)) = true then
          if (0 : Int) ≤ i5 ∧ (i5 : Int) < list0.length then
            if (0 : Int) ≤ (IntKind.i64.wrap (i5 - 1)) ∧ ((IntKind.i64.wrap (i5 - 1)) : Int) < list0.length then
              if (decide (((list0.getD (i5 : Int).toNat 0) : Int) ≤ (list0.getD ((IntKind.i64.wrap (i5 - 1)) : Int).toNat 0))) = true then
                some false
              else
                L2 list0 n1 (IntKind.i64.wrap (i5 + 1))
            else
              none
          else
            none
        else
          L2 list0 n1 (IntKind.i64.wrap (i5 + 1))
      else
        some false
    else
      none
  else
    some true
def spec_l01Rises.l2 (n : Nat) : Nat → List Int → Int → Int → Option Bool
  | 0 => fun _ _ _ => none
  | k + 1 => spec_l01Rises.g2 (spec_l01Rises.l2 n k)
def spec_l01Rises.top (I2 : List Int → Int → Int → Option Bool) (list0 : List Int) (n1 : Int) : Option Bool :=
  I2 list0 n1 0
def spec_l01Rises.fn (n : Nat) (list0 : List Int) (n1 : Int) : Option Bool := spec_l01Rises.top (spec_l01Rises.l2 n n) list0 n1
def spec_l01Rises.f (list0 : List Int) (n1 : Int) : Option Bool := spec_l01Rises.fn NN list0 n1
end
end Go.Pl

namespace Go.Pl
open Go.Ev
set_option linter.unusedVariables false
noncomputable section
def spec_IsPermit.top (p0 : Int × Int × Int × Int × List Int × Int) : Option Bool :=
  (spec_l01In.f p0.1 0 100000).bind fun r1 =>
  if r1 = true then
    (spec_l01In.f p0.2.1 p0.1 100000).bind fun r2 =>
    if r2 = true then
      (spec_l01In.f p0.2.2.1 0 1000000000).bind fun r3 =>
      if r3 = true then
        (spec_l01In.f p0.2.2.2.1 20 300).bind fun r4 =>
        if r4 = true then
          (spec_l01Rises.f p0.2.2.2.2.1 4).bind fun r5 =>
          if r5 = true then
            (spec_l01In.f p0.2.2.2.2.2 0 3).bind fun r6 =>
            some r6
          else
            some false
        else
          some false
      else
        some false
    else
      some false
  else
    some false
def spec_IsPermit.fn (n : Nat) (p0 : Int × Int × Int × Int × List Int × Int) : Option Bool := spec_IsPermit.top p0
def spec_IsPermit.f (p0 : Int × Int × Int × Int × List Int × Int) : Option Bool := spec_IsPermit.fn NN p0
end
end Go.Pl

namespace Go.Pl
open Go.Ev
set_option linter.unusedVariables false
set_option linter.unusedSimpArgs false
theorem impl_isDay_f (n : Int) : impl_isDay.f n = some (inB n 0 100000) := by
  unfold impl_isDay.f impl_isDay.fn impl_isDay.top
  rw [impl_within_f]; rfl
theorem impl_isCalibre_f (n : Int) : impl_isCalibre.f n = some (inB n 20 300) := by
  unfold impl_isCalibre.f impl_isCalibre.fn impl_isCalibre.top
  rw [impl_within_f]; rfl
theorem impl_allWithin_f (xs : List Int) (lo hi : Int) (h : xs.length ≤ 140737488355328) : impl_allWithin.f xs lo hi = some (xs.all (inB · lo hi)) := by
  have := all_loop (E := fun _ => True) (inB · lo hi) (fun _ => some true) (fun k xs i => impl_allWithin.l2 NN k lo hi xs xs.length i) ?_ ?_ xs (fun _ _ => trivial) h NN (NN_lt (by omega))
  · unfold impl_allWithin.f impl_allWithin.fn impl_allWithin.top
    refine this.trans ?_
    cases xs.all (inB · lo hi) <;> simp
  · intro k p
    simp [impl_allWithin.l2, impl_allWithin.g2]
  · intro k p a r _ c0 c1 cw
    simp only [impl_allWithin.l2, impl_allWithin.g2, c0, c1, cw, and_self, and_true, true_and, decide_true, decide_false, if_true, if_false, mid_get, mid_set, mid_getn, mid_setn, bt_mid, Option.bind_some, Bool.not_true, Bool.not_false, Bool.false_eq_true, Bool.true_eq_false, beq_self_eq_true, bne_self_eq_false, Int.toNat_natCast, impl_within_f]
    cases inB a lo hi <;> simp
/-- strictly rising -/
def risB : List Int → Bool
  | [] => true
  | [_] => true
  | a :: b :: r => decide (a < b) && risB (b :: r)
theorem risB_snoc : ∀ (p : List Int) (a b : Int), risB (p ++ [a, b]) = (risB (p ++ [a]) && decide (a < b)) := by
  intro p
  induction p with
  | nil => intro a b; simp [risB]
  | cons x p ih =>
    intro a b
    cases p with
    | nil => simp [risB]
    | cons y p =>
      have := ih a b
      simp only [List.cons_append] at this ⊢
      simp only [risB, this, Bool.and_assoc]
/-- rises, looked at from its second element on -/
def risF : Int → List Int → Bool
  | _, [] => true
  | a, b :: r => decide (a < b) && risF b r
theorem risB_cons (a : Int) (r : List Int) : risB (a :: r) = risF a r := by
  induction r generalizing a with
  | nil => rfl
  | cons b r ih => simp only [risB, risF, ih]
theorem snoc_getl (p r : List Int) (x a z : Int) : (p ++ [x] ++ a :: r).getD p.length z = x := by simp
theorem impl_IsPermit_loop (f t n c g : Int) : ∀ (r p : List Int) (x : Int) (k : Nat), p.length + r.length + 1 ≤ 140737488355328 → r.length < k →
    impl_IsPermit.l4 NN k ((p.length : Int) + 1) (f, t, n, c, p ++ [x] ++ r, g) = some (risF x r) := by
  intro r
  induction r with
  | nil =>
    intro p x k _ hk
    obtain ⟨k, rfl⟩ : ∃ j, k = j + 1 := ⟨k - 1, by omega⟩
    simp [impl_IsPermit.l4, impl_IsPermit.g4, risF]
  | cons a r ih =>
    intro p x k hb hk
    simp only [List.length_cons] at hb hk
    obtain ⟨k, rfl⟩ : ∃ j, k = j + 1 := ⟨k - 1, by omega⟩
    have hl : ((p ++ [x] ++ a :: r).length : Int) = p.length + r.length + 2 := by simp; omega
    have w1 := w64 (n := (p.length : Int) + 1 - 1) (by omega) (by omega)
    have w2 := w64 (n := (p.length : Int) + 1 + 1) (by omega) (by omega)
    have c1 : (p.length : Int) + 1 < ((p ++ [x] ++ a :: r).length : Int) := by omega
    have c2 : (0 : Int) ≤ (p.length : Int) + 1 - 1 := by omega
    have c3 : (p.length : Int) + 1 - 1 < ((p ++ [x] ++ a :: r).length : Int) := by omega
    have c4 : (0 : Int) ≤ (p.length : Int) + 1 := by omega
    have g1 : (p ++ [x] ++ a :: r).getD ((p.length : Int) + 1).toNat 0 = a := by
      rw [show ((p.length : Int) + 1).toNat = (p ++ [x]).length by simp, mid_getn]
    have g2 : (p ++ [x] ++ a :: r).getD ((p.length : Int) + 1 - 1).toNat 0 = x := by
      rw [show ((p.length : Int) + 1 - 1).toNat = p.length by omega, snoc_getl]
    simp only [impl_IsPermit.l4, impl_IsPermit.g4, w1, w2, c1, c2, c3, c4, g1, g2, and_self, decide_true, if_true, decide_eq_true_eq, risF]
    have := ih (p ++ [x]) a k (by simp; omega) (by omega)
    by_cases h : a ≤ x
    · have h' : ¬ x < a := by omega
      simp [h, h']
    · have h' : x < a := by omega
      simp only [h, h', if_false, decide_true, Bool.true_and]
      rw [← this]
      simp
theorem spec_l01Rises_loop (n : Int) (hn : Rg .i64 (n - 1)) : ∀ (r p : List Int) (x : Int) (k : Nat), p.length + r.length + 1 ≤ 140737488355328 → r.length < k →
    spec_l01Rises.l2 NN k (p ++ [x] ++ r) n ((p.length : Int) + 1) = some (r.all (inB · 0 (n - 1)) && risF x r) := by
  intro r
  induction r with
  | nil =>
    intro p x k _ hk
    obtain ⟨k, rfl⟩ : ∃ j, k = j + 1 := ⟨k - 1, by omega⟩
    simp [spec_l01Rises.l2, spec_l01Rises.g2, risF]
  | cons a r ih =>
    intro p x k hb hk
    simp only [List.length_cons] at hb hk
    obtain ⟨k, rfl⟩ : ∃ j, k = j + 1 := ⟨k - 1, by omega⟩
    have hl : ((p ++ [x] ++ a :: r).length : Int) = p.length + r.length + 2 := by simp; omega
    have w1 := w64 (n := (p.length : Int) + 1 - 1) (by omega) (by omega)
    have w2 := w64 (n := (p.length : Int) + 1 + 1) (by omega) (by omega)
    have hn' := wf64.1 hn
    have w3 := w64 (n := n - 1) (by omega) (by omega)
    have c1 : (p.length : Int) + 1 < ((p ++ [x] ++ a :: r).length : Int) := by omega
    have c2 : (0 : Int) ≤ (p.length : Int) + 1 - 1 := by omega
    have c3 : (p.length : Int) + 1 - 1 < ((p ++ [x] ++ a :: r).length : Int) := by omega
    have c4 : (0 : Int) ≤ (p.length : Int) + 1 := by omega
    have c5 : (0 : Int) < (p.length : Int) + 1 := by omega
    have g1 : (p ++ [x] ++ a :: r).getD ((p.length : Int) + 1).toNat 0 = a := by
      rw [show ((p.length : Int) + 1).toNat = (p ++ [x]).length by simp, mid_getn]
    have g2 : (p ++ [x] ++ a :: r).getD ((p.length : Int) + 1 - 1).toNat 0 = x := by
      rw [show ((p.length : Int) + 1 - 1).toNat = p.length by omega, snoc_getl]
    simp only [spec_l01Rises.l2, spec_l01Rises.g2, w1, w2, w3, c1, c2, c3, c4, c5, g1, g2, and_self, decide_true, if_true, decide_eq_true_eq, risF, spec_l01In_f, Option.bind_some, List.all_cons]
    have := ih (p ++ [x]) a k (by simp; omega) (by omega)
    cases h0 : inB a 0 (n - 1)
    · simp
    by_cases h : a ≤ x
    · have h' : ¬ x < a := by omega
      simp [h, h']
    · have h' : x < a := by omega
      simp only [h, h', if_false, decide_true, Bool.true_and, Bool.not_true, if_true]
      rw [← this]
      simp
theorem spec_l01Rises_f (xs : List Int) (n : Int) (hn : Rg .i64 (n - 1)) (h : xs.length ≤ 140737488355328) : spec_l01Rises.f xs n = some (xs.all (inB · 0 (n - 1)) && risB xs) := by
  unfold spec_l01Rises.f spec_l01Rises.fn spec_l01Rises.top
  obtain ⟨k, hk⟩ : ∃ j, NN = j + 1 := ⟨NN - 1, by have := NNb; omega⟩
  have hkb : 1000000000000000 < k := by rw [NN_eq] at hk; omega
  cases xs with
  | nil => rw [show spec_l01Rises.l2 NN NN = spec_l01Rises.l2 NN (k + 1) by rw [← hk]]; simp [spec_l01Rises.l2, spec_l01Rises.g2, risB]
  | cons a r =>
    simp only [List.length_cons] at h
    have hl := spec_l01Rises_loop n hn r [] a k (by simp; omega) (by omega)
    have hn' := wf64.1 hn
    have w3 := w64 (n := n - 1) (by omega) (by omega)
    have w1 := w64 (n := 0 + 1) (by omega) (by omega)
    have c1 : (0 : Int) < ((a :: r).length : Int) := by simp only [List.length_cons]; omega
    rw [show spec_l01Rises.l2 NN NN = spec_l01Rises.l2 NN (k + 1) by rw [← hk]]
    simp only [spec_l01Rises.l2, spec_l01Rises.g2, c1, w1, w3, spec_l01In_f]
    simp at hl
    simp [risB_cons, hl]
    cases inB a 0 (n - 1) <;> simp
def permB (p : Int × Int × Int × Int × List Int × Int) : Bool :=
  inB p.1 0 100000 && inB p.2.1 p.1 100000 && inB p.2.2.1 0 1000000000 && inB p.2.2.2.1 20 300 && (p.2.2.2.2.1.all (inB · 0 3) && risB p.2.2.2.2.1) && inB p.2.2.2.2.2 0 3
theorem spec_IsPermit_f (p : Int × Int × Int × Int × List Int × Int) (h : p.2.2.2.2.1.length ≤ 140737488355328) : spec_IsPermit.f p = some (permB p) := by
  unfold spec_IsPermit.f spec_IsPermit.fn spec_IsPermit.top permB
  simp only [spec_l01In_f, spec_l01Rises_f _ 4 (wf64.2 (by omega)) h, Option.bind_some, show (4 : Int) - 1 = 3 from rfl]
  cases inB p.1 0 100000 <;> cases inB p.2.1 p.1 100000 <;> cases inB p.2.2.1 0 1000000000 <;> cases inB p.2.2.2.1 20 300 <;> cases (p.2.2.2.2.1.all (inB · 0 3)) <;> cases risB p.2.2.2.2.1 <;> cases inB p.2.2.2.2.2 0 3 <;> rfl
theorem impl_IsPermit_f (p : Int × Int × Int × Int × List Int × Int) (h : p.2.2.2.2.1.length ≤ 140737488355328) : impl_IsPermit.f p = some (permB p) := by
  unfold impl_IsPermit.f impl_IsPermit.fn impl_IsPermit.top permB
  obtain ⟨f, t, n, c, ks, g⟩ := p
  simp only at h
  have hl : impl_IsPermit.l4 NN NN 1 (f, t, n, c, ks, g) = some (risB ks) := by
    cases ks with
    | nil =>
      obtain ⟨k, hk⟩ : ∃ j, NN = j + 1 := ⟨NN - 1, by have := NNb; omega⟩
      rw [show impl_IsPermit.l4 NN NN = impl_IsPermit.l4 NN (k + 1) by rw [← hk]]
      simp [impl_IsPermit.l4, impl_IsPermit.g4, risB]
    | cons a r =>
      simp only [List.length_cons] at h
      have := impl_IsPermit_loop f t n c g r [] a NN (by simp; omega) (NN_lt (by omega))
      simp at this
      rw [risB_cons, ← this]
  simp only [impl_isDay_f, impl_isCalibre_f, impl_within_f, impl_allWithin_f _ _ _ h, Option.bind_some, hl]
  have e : (inB f 0 100000 && inB t f 100000) = (inB f 0 100000 && inB t 0 100000 && !decide (t < f)) := by
    unfold inB
    by_cases h1 : 0 ≤ f <;> by_cases h2 : f ≤ 100000 <;> by_cases h3 : t ≤ 100000 <;> by_cases h4 : f ≤ t <;> by_cases h5 : 0 ≤ t <;> simp [h1, h2, h3, h4, h5] <;> omega
  rw [e]
  cases inB f 0 100000 <;> cases inB t 0 100000 <;> cases decide (t < f) <;> cases inB n 0 1000000000 <;> cases inB c 20 300 <;> cases (ks.all (inB · 0 3)) <;> cases inB g 0 3 <;> simp
theorem IsPermit_core (p : Int × Int × Int × Int × List Int × Int) (h : OkPermit p) : ∃ w, spec_IsPermit.f p = some w ∧ impl_IsPermit.f p = some w ∧ True :=
  have h1 : p.2.2.2.2.1.length ≤ 140737488355328 := Nat.le_trans h.2.2.2.2.1.1 (by omega)
  ⟨_, spec_IsPermit_f p h1, impl_IsPermit_f p h1, trivial⟩
end Go.Pl

namespace Go.Pl
open Go.Ev
set_option linter.unusedVariables false
set_option linter.unusedSimpArgs false
def ltS (a b : ByteArray) : Bool := Op.bytesLess a.toList b.toList
def lineOk (l : ByteArray × Int) : Bool := wordB l.1 && inB l.2 1 1000
/-- lines behind another one -/
def linesF : ByteArray × Int → List (ByteArray × Int) → Bool
  | _, [] => true
  | x, a :: r => lineOk a && ltS x.1 a.1 && linesF a r
def linesL : List (ByteArray × Int) → Bool
  | [] => true
  | a :: r => lineOk a && linesF a r
def linesB (l : List (ByteArray × Int)) : Bool := decide (l.length ≤ 12) && linesL l
def paperB (p : ByteArray × Int × List (ByteArray × Int)) : Bool := wordB p.1 && inB p.2.1 0 100000 && linesB p.2.2
theorem snoc_getl' {α : Type} (p r : List α) (x a z : α) : (p ++ [x] ++ a :: r).getD p.length z = x := by simp
theorem impl_areLines_l : ∀ (r p : List (ByteArray × Int)) (x : ByteArray × Int) (k : Nat), p.length + r.length + 1 ≤ 1000000 → r.length < k → (∀ l ∈ r, Sz l.1) →
    impl_areLines.l4 NN k (p ++ [x] ++ r) (p ++ [x] ++ r) (p ++ [x] ++ r).length ((p.length : Int) + 1) = some (linesF x r) := by
  intro r
  induction r with
  | nil =>
    intro p x k _ hk _
    obtain ⟨k, rfl⟩ : ∃ j, k = j + 1 := ⟨k - 1, by omega⟩
    simp [impl_areLines.l4, impl_areLines.g4, linesF]
  | cons a r ih =>
    intro p x k hb hk hs
    simp only [List.length_cons] at hb hk
    obtain ⟨k, rfl⟩ : ∃ j, k = j + 1 := ⟨k - 1, by omega⟩
    have hl : ((p ++ [x] ++ a :: r).length : Int) = p.length + r.length + 2 := by simp; omega
    have w1 := w64 (n := (p.length : Int) + 1 - 1) (by omega) (by omega)
    have w2 := w64 (n := (p.length : Int) + 1 + 1) (by omega) (by omega)
    have c1 : (p.length : Int) + 1 < ((p ++ [x] ++ a :: r).length : Int) := by omega
    have c2 : (0 : Int) ≤ (p.length : Int) + 1 - 1 := by omega
    have c3 : (p.length : Int) + 1 - 1 < ((p ++ [x] ++ a :: r).length : Int) := by omega
    have c4 : (0 : Int) ≤ (p.length : Int) + 1 := by omega
    have c5 : (0 : Int) < (p.length : Int) + 1 := by omega
    have g1 : ∀ z, (p ++ [x] ++ a :: r).getD ((p.length : Int) + 1).toNat z = a := fun z => by
      rw [show ((p.length : Int) + 1).toNat = (p ++ [x]).length by simp, mid_getn]
    have g2 : ∀ z, (p ++ [x] ++ a :: r).getD ((p.length : Int) + 1 - 1).toNat z = x := fun z => by
      rw [show ((p.length : Int) + 1 - 1).toNat = p.length by omega, snoc_getl']
    have := ih (p ++ [x]) a k (by simp; omega) (by omega) (fun l h => hs l (by simp [h]))
    simp only [impl_areLines.l4, impl_areLines.g4, w1, w2, c1, c2, c3, c4, c5, g1, g2, and_self, and_true, true_and, decide_true, decide_false, if_true, if_false, mid_get, mid_set, mid_getn, mid_setn, bt_mid, Option.bind_some, Bool.not_true, Bool.not_false, Bool.false_eq_true, Bool.true_eq_false, beq_self_eq_true, bne_self_eq_false, Int.toNat_natCast, impl_IsWord_f _ (hs a (by simp)), impl_within_f, linesF, lineOk]
    cases wordB a.1
    · simp
    cases inB a.2 1 1000
    · simp
    show (if (!ltS x.1 a.1) = true then _ else _) = _
    cases ltS x.1 a.1
    · simp
    · simp only [and_self, and_true, true_and, decide_true, decide_false, if_true, if_false, mid_get, mid_set, mid_getn, mid_setn, bt_mid, Option.bind_some, Bool.not_true, Bool.not_false, Bool.false_eq_true, Bool.true_eq_false, beq_self_eq_true, bne_self_eq_false, Int.toNat_natCast, Bool.true_and]
      rw [← this]
      simp
theorem impl_areLines_f (xs : List (ByteArray × Int)) (h : Lm OkLine xs) : impl_areLines.f xs = some (linesB xs) := by
  unfold impl_areLines.f impl_areLines.fn impl_areLines.top linesB
  have hl := h.1
  by_cases h12 : (12 : Int) < (xs.length : Int)
  · have : ¬ xs.length ≤ 12 := by omega
    simp [h12, this]
  have e12 : xs.length ≤ 12 := by omega
  simp only [h12, e12, and_self, and_true, true_and, decide_true, decide_false, if_true, if_false, mid_get, mid_set, mid_getn, mid_setn, bt_mid, Option.bind_some, Bool.not_true, Bool.not_false, Bool.false_eq_true, Bool.true_eq_false, beq_self_eq_true, bne_self_eq_false, Int.toNat_natCast]
  obtain ⟨k, hk⟩ : ∃ j, NN = j + 1 := ⟨NN - 1, by have := NNb; omega⟩
  have hkb : 1000000000000000 < k := by rw [NN_eq] at hk; omega
  rw [show impl_areLines.l4 NN NN = impl_areLines.l4 NN (k + 1) by rw [← hk]]
  cases xs with
  | nil => simp [impl_areLines.l4, impl_areLines.g4, linesL]
  | cons a r =>
    simp only [List.length_cons] at hl
    have := impl_areLines_l r [] a k (by simp; omega) (by omega) (fun l hl => Nat.le_trans (h.2 l (by simp [hl])).1 (by omega))
    have w2 := w64 (n := 0 + 1) (by omega) (by omega)
    have c1 : (0 : Int) < ((a :: r).length : Int) := by simp only [List.length_cons]; omega
    simp only [impl_areLines.l4, impl_areLines.g4, c1, w2, and_self, and_true, true_and, decide_true, decide_false, if_true, if_false, mid_get, mid_set, mid_getn, mid_setn, bt_mid, Option.bind_some, Bool.not_true, Bool.not_false, Bool.false_eq_true, Bool.true_eq_false, beq_self_eq_true, bne_self_eq_false, Int.toNat_natCast, Int.le_refl, impl_IsWord_f _ (Nat.le_trans (h.2 a (by simp)).1 (show 1000000 ≤ 140737488355328 by omega)), impl_within_f, linesL, lineOk, List.getD_cons_zero, Int.toNat_zero]
    simp at this
    cases wordB a.1
    · simp
    cases inB a.2 1 1000
    · simp
    simp [this]
theorem impl_IsPaper_f (p : ByteArray × Int × List (ByteArray × Int)) (h : OkPaper p) : impl_IsPaper.f p = some (paperB p) := by
  unfold impl_IsPaper.f impl_IsPaper.fn impl_IsPaper.top paperB
  rw [impl_IsWord_f _ (Nat.le_trans h.1 (by omega)), impl_isDay_f, impl_areLines_f _ h.2.2]
  cases wordB p.1 <;> cases inB p.2.1 0 100000 <;> rfl
theorem spec_IsPaper_l (v : ByteArray) (d : Int) (hv : Sz v) : ∀ (r p : List (ByteArray × Int)) (x : ByteArray × Int) (k : Nat), p.length + r.length + 1 ≤ 1000000 → r.length < k → (∀ l ∈ r, Sz l.1) →
    spec_IsPaper.l2 NN k ((p.length : Int) + 1) (v, d, p ++ [x] ++ r) = some (linesF x r && (wordB v && inB d 0 100000 && decide ((p ++ [x] ++ r).length ≤ 12))) := by
  intro r
  induction r with
  | nil =>
    intro p x k hb hk _
    obtain ⟨k, rfl⟩ : ∃ j, k = j + 1 := ⟨k - 1, by omega⟩
    have e : decide (((p ++ [x]).length : Int) ≤ 12) = decide ((p ++ [x]).length ≤ 12) := by congr 1; exact propext (by omega)
    have c1 : ¬ (p.length : Int) + 1 < ((p ++ [x]).length : Int) := by simp
    simp only [spec_IsPaper.l2, spec_IsPaper.g2, List.append_nil, c1, and_self, and_true, true_and, decide_true, decide_false, if_true, if_false, mid_get, mid_set, mid_getn, mid_setn, bt_mid, Option.bind_some, Bool.not_true, Bool.not_false, Bool.false_eq_true, Bool.true_eq_false, beq_self_eq_true, bne_self_eq_false, Int.toNat_natCast, spec_IsWord_f v hv, spec_l01In_f, linesF, e]
    cases wordB v <;> cases inB d 0 100000 <;> rfl
  | cons a r ih =>
    intro p x k hb hk hs
    simp only [List.length_cons] at hb hk
    obtain ⟨k, rfl⟩ : ∃ j, k = j + 1 := ⟨k - 1, by omega⟩
    have hl : ((p ++ [x] ++ a :: r).length : Int) = p.length + r.length + 2 := by simp; omega
    have w1 := w64 (n := (p.length : Int) + 1 - 1) (by omega) (by omega)
    have w2 := w64 (n := (p.length : Int) + 1 + 1) (by omega) (by omega)
    have c1 : (p.length : Int) + 1 < ((p ++ [x] ++ a :: r).length : Int) := by omega
    have c2 : (0 : Int) ≤ (p.length : Int) + 1 - 1 := by omega
    have c3 : (p.length : Int) + 1 - 1 < ((p ++ [x] ++ a :: r).length : Int) := by omega
    have c4 : (0 : Int) ≤ (p.length : Int) + 1 := by omega
    have c5 : (0 : Int) < (p.length : Int) + 1 := by omega
    have g1 : ∀ z, (p ++ [x] ++ a :: r).getD ((p.length : Int) + 1).toNat z = a := fun z => by
      rw [show ((p.length : Int) + 1).toNat = (p ++ [x]).length by simp, mid_getn]
    have g2 : ∀ z, (p ++ [x] ++ a :: r).getD ((p.length : Int) + 1 - 1).toNat z = x := fun z => by
      rw [show ((p.length : Int) + 1 - 1).toNat = p.length by omega, snoc_getl']
    have := ih (p ++ [x]) a k (by simp; omega) (by omega) (fun l h => hs l (by simp [h]))
    rw [show p ++ [x] ++ [a] ++ r = p ++ [x] ++ a :: r by simp, snoc_len] at this
    simp only [spec_IsPaper.l2, spec_IsPaper.g2, w1, w2, c1, c2, c3, c4, c5, g1, g2, and_self, and_true, true_and, decide_true, decide_false, if_true, if_false, mid_get, mid_set, mid_getn, mid_setn, bt_mid, Option.bind_some, Bool.not_true, Bool.not_false, Bool.false_eq_true, Bool.true_eq_false, beq_self_eq_true, bne_self_eq_false, Int.toNat_natCast, spec_IsWord_f _ (hs a (by simp)), spec_l01In_f, linesF, lineOk, this]
    cases wordB a.1
    · simp
    cases inB a.2 1 1000
    · simp
    show (if (!ltS x.1 a.1) = true then _ else _) = _
    cases ltS x.1 a.1
    · simp
    · simp
theorem spec_IsPaper_f (p : ByteArray × Int × List (ByteArray × Int)) (h : OkPaper p) : spec_IsPaper.f p = some (paperB p) := by
  obtain ⟨v, d, xs⟩ := p
  unfold spec_IsPaper.f spec_IsPaper.fn spec_IsPaper.top paperB linesB
  have hl : xs.length ≤ 1000000 := h.2.2.1
  have hv : Sz v := Nat.le_trans h.1 (by omega)
  obtain ⟨k, hk⟩ : ∃ j, NN = j + 1 := ⟨NN - 1, by have := NNb; omega⟩
  have hkb : 1000000000000000 < k := by rw [NN_eq] at hk; omega
  rw [show spec_IsPaper.l2 NN NN = spec_IsPaper.l2 NN (k + 1) by rw [← hk]]
  cases xs with
  | nil =>
    simp only [spec_IsPaper.l2, spec_IsPaper.g2, spec_IsWord_f v hv, spec_l01In_f, linesL, and_self, and_true, true_and, decide_true, decide_false, if_true, if_false, mid_get, mid_set, mid_getn, mid_setn, bt_mid, Option.bind_some, Bool.not_true, Bool.not_false, Bool.false_eq_true, Bool.true_eq_false, beq_self_eq_true, bne_self_eq_false, Int.toNat_natCast]
    cases wordB v <;> cases inB d 0 100000 <;> rfl
  | cons a r =>
    simp only [List.length_cons] at hl
    have hxs : Lm OkLine (a :: r) := h.2.2
    have := spec_IsPaper_l v d hv r [] a k (by simp; omega) (by omega) (fun l hl => Nat.le_trans (hxs.2 l (by simp [hl])).1 (by omega))
    have w2 := w64 (n := 0 + 1) (by omega) (by omega)
    have c1 : (0 : Int) < ((a :: r).length : Int) := by simp only [List.length_cons]; omega
    simp only [List.nil_append, List.length_nil, List.cons_append] at this
    rw [show (((0 : Nat) : Int) + 1) = 0 + 1 from rfl] at this
    simp only [spec_IsPaper.l2, spec_IsPaper.g2, c1, w2, and_self, and_true, true_and, decide_true, decide_false, if_true, if_false, mid_get, mid_set, mid_getn, mid_setn, bt_mid, Option.bind_some, Bool.not_true, Bool.not_false, Bool.false_eq_true, Bool.true_eq_false, beq_self_eq_true, bne_self_eq_false, Int.toNat_natCast, Int.le_refl, spec_IsWord_f _ (Nat.le_trans (hxs.2 a (by simp)).1 (show 1000000 ≤ 140737488355328 by omega)), spec_l01In_f, linesL, lineOk, List.getD_cons_zero, Int.toNat_zero]
    cases wordB a.1
    · simp
    cases inB a.2 1 1000
    · simp
    simp only [Int.lt_irrefl, decide_false, and_self, and_true, true_and, decide_true, decide_false, if_true, if_false, mid_get, mid_set, mid_getn, mid_setn, bt_mid, Option.bind_some, Bool.not_true, Bool.not_false, Bool.false_eq_true, Bool.true_eq_false, beq_self_eq_true, bne_self_eq_false, Int.toNat_natCast]
    rw [this]
    cases linesF a r <;> cases wordB v <;> cases inB d 0 100000 <;> simp
/-- how many of an article -/
def cntL (a : ByteArray) : List (ByteArray × Int) → Int
  | [] => 0
  | l :: r => if l.1 = a then l.2 else cntL a r
theorem impl_countIn_f (xs : List (ByteArray × Int)) (a : ByteArray) (h : xs.length ≤ 1000000) : impl_countIn.f xs a = some (cntL a xs) := by
  have := find_loop (E := fun _ => True) (fun l : ByteArray × Int => decide (l.1 = a)) (fun _ l => some l.2) (fun _ => some 0) (fun k xs i => impl_countIn.l2 NN k a xs xs.length i) ?_ ?_ xs (fun _ _ => trivial) (by omega) NN (NN_lt (by omega))
  · refine this.trans ?_
    have key : ∀ (xs : List (ByteArray × Int)) (i : Nat), (firstOf (fun l : ByteArray × Int => decide (l.1 = a)) i xs).elim (some 0) (fun x => some x.2.2) = some (cntL a xs) := by
      intro xs
      induction xs with
      | nil => intro i; rfl
      | cons l r ih =>
        intro i
        by_cases h : l.1 = a
        · simp [firstOf, cntL, h]
        · simp only [firstOf, cntL, h, decide_false, Bool.false_eq_true, if_false]
          exact ih _
    exact key xs 0
  · intro k p
    simp [impl_countIn.l2, impl_countIn.g2]
  · intro k p l r _ c0 c1 c2 cw
    simp only [impl_countIn.l2, impl_countIn.g2, c0, c1, cw, and_self, and_true, true_and, decide_true, decide_false, if_true, if_false, mid_get, mid_set, mid_getn, mid_setn, bt_mid, Option.bind_some, Bool.not_true, Bool.not_false, Bool.false_eq_true, Bool.true_eq_false, beq_self_eq_true, bne_self_eq_false, Int.toNat_natCast, ba_beq]
theorem spec_l29Find_f (p : ByteArray × Int × List (ByteArray × Int)) (a : ByteArray) (h : p.2.2.length ≤ 1000000) : spec_l29Find.f p a = some ((firstOf (fun l : ByteArray × Int => decide (l.1 = a)) 0 p.2.2).elim (-1) (fun x => (x.1 : Int))) := by
  obtain ⟨v, d, xs⟩ := p
  have h : xs.length ≤ 1000000 := h
  have := find_loop (E := fun _ => True) (fun l : ByteArray × Int => decide (l.1 = a)) (fun i _ => some (i : Int)) (fun _ => some (-1)) (fun k xs i => spec_l29Find.l2 NN k a i (v, d, xs)) ?_ ?_ xs (fun _ _ => trivial) (by omega) NN (NN_lt (by omega))
  · refine this.trans ?_
    cases firstOf (fun l : ByteArray × Int => decide (l.1 = a)) 0 xs <;> rfl
  · intro k p
    simp [spec_l29Find.l2, spec_l29Find.g2]
  · intro k p l r _ c0 c1 c2 cw
    simp only [spec_l29Find.l2, spec_l29Find.g2, c0, c1, cw, and_self, and_true, true_and, decide_true, decide_false, if_true, if_false, mid_get, mid_set, mid_getn, mid_setn, bt_mid, Option.bind_some, Bool.not_true, Bool.not_false, Bool.false_eq_true, Bool.true_eq_false, beq_self_eq_true, bne_self_eq_false, Int.toNat_natCast, ba_beq]
/-- what is found: its number and its line -/
theorem firstOf_spec {α : Type} (P : α → Bool) : ∀ (xs : List α) (i j : Nat) (x : α), firstOf P i xs = some (j, x) → i ≤ j ∧ j < i + xs.length ∧ xs[j - i]? = some x ∧ P x = true := by
  intro xs
  induction xs with
  | nil => intro i j x h; cases h
  | cons a r ih =>
    intro i j x h
    simp only [firstOf] at h
    split at h
    · rename_i hp
      cases h
      refine ⟨by omega, by simp, by simp, hp⟩
    · obtain ⟨h1, h2, h3, h4⟩ := ih _ _ _ h
      refine ⟨by omega, by simp; omega, ?_, h4⟩
      rw [show j - i = (j - (i + 1)) + 1 by omega, List.getElem?_cons_succ]; exact h3
theorem cntL_first (a : ByteArray) : ∀ (xs : List (ByteArray × Int)) (i : Nat), cntL a xs = (firstOf (fun l : ByteArray × Int => decide (l.1 = a)) i xs).elim 0 (fun x => x.2.2) := by
  intro xs
  induction xs with
  | nil => intro i; rfl
  | cons l r ih =>
    intro i
    by_cases h : l.1 = a
    · simp [firstOf, cntL, h]
    · simp only [firstOf, cntL, h, decide_false, Bool.false_eq_true, if_false]
      exact ih _
theorem linesF_ok : ∀ (r : List (ByteArray × Int)) (x : ByteArray × Int), linesF x r = true → ∀ l ∈ r, lineOk l = true := by
  intro r
  induction r with
  | nil => intro x _ l hl; cases hl
  | cons a r ih =>
    intro x h l hl
    simp only [linesF, Bool.and_eq_true] at h
    rcases List.mem_cons.1 hl with rfl | hl
    · exact h.1.1
    · exact ih a h.2 l hl
theorem linesB_ok {xs : List (ByteArray × Int)} (h : linesB xs = true) : xs.length ≤ 12 ∧ ∀ l ∈ xs, lineOk l = true := by
  unfold linesB at h
  simp only [Bool.and_eq_true, decide_eq_true_eq] at h
  refine ⟨h.1, ?_⟩
  cases xs with
  | nil => intro l hl; cases hl
  | cons a r =>
    have h2 := h.2
    simp only [linesL, Bool.and_eq_true] at h2
    intro l hl
    rcases List.mem_cons.1 hl with rfl | hl
    · exact h2.1
    · exact linesF_ok r a h2.2 l hl
theorem lineOk_iff {l : ByteArray × Int} : lineOk l = true ↔ wordB l.1 = true ∧ 1 ≤ l.2 ∧ l.2 ≤ 1000 := by
  unfold lineOk; rw [Bool.and_eq_true, inB_iff]
theorem cntL_bd (a : ByteArray) : ∀ (xs : List (ByteArray × Int)), (∀ l ∈ xs, lineOk l = true) → 0 ≤ cntL a xs ∧ cntL a xs ≤ 1000 := by
  intro xs
  induction xs with
  | nil => intro _; simp [cntL]
  | cons l r ih =>
    intro h
    have h1 := lineOk_iff.1 (h l (by simp))
    have h2 := ih fun x hx => h x (by simp [hx])
    simp only [cntL]
    split <;> omega
end Go.Pl

namespace Go.Pl
open Go.Ev
set_option linter.unusedVariables false
noncomputable section
def impl_MissingLines.g5 (L5 : (List (ByteArray × Int)) → Int → Int → (ByteArray × Int × List (ByteArray × Int)) → (List (ByteArray × Int)) → Option ((List (ByteArray × Int)) × Int)) (v19 : List (ByteArray × Int)) (v20 : Int) (v21 : Int) (b3 : ByteArray × Int × List (ByteArray × Int)) (out6 : List (ByteArray × Int)) : Option ((List (ByteArray × Int)) × Int) :=
  if (decide ((v21 : Int) < v20)) = true then
    if (0 : Int) ≤ v21 ∧ (v21 : Int) < v19.length then
      (impl_countIn.f b3.2.2 ((v19.getD (v21 : Int).toNat (ByteArray.empty, 0)).1)).bind fun r3 =>
      if (decide ((0 : Int) < (IntKind.i64.wrap (((v19.getD (v21 : Int).toNat (ByteArray.empty, 0)).2) - r3)))) = true then
        if out6.length + ([((v19.getD (v21 : Int).toNat (ByteArray.empty, 0)).1, IntKind.i64.wrap (((v19.getD (v21 : Int).toNat (ByteArray.empty, 0)).2) - r3))]).length < room 24 then
          L5 v19 v20 (IntKind.i64.wrap (v21 + 1)) b3 (out6 ++ ([((v19.getD (v21 : Int).toNat (ByteArray.empty, 0)).1, IntKind.i64.wrap (((v19.getD (v21 : Int).toNat (ByteArray.empty, 0)).2) - r3))]))
        else
          none
      else
        L5 v19 v20 (IntKind.i64.wrap (v21 + 1)) b3 out6
    else
      none
  else
    some (out6, 0)
def impl_MissingLines.l5 (n : Nat) : Nat → (List (ByteArray × Int)) → Int → Int → (ByteArray × Int × List (ByteArray × Int)) → (List (ByteArray × Int)) → Option ((List (ByteArray × Int)) × Int)
  | 0 => fun _ _ _ _ _ => none
  | k + 1 => impl_MissingLines.g5 (impl_MissingLines.l5 n k)
def impl_MissingLines.top (I5 : (List (ByteArray × Int)) → Int → Int → (ByteArray × Int × List (ByteArray × Int)) → (List (ByteArray × Int)) → Option ((List (ByteArray × Int)) × Int)) (a0 : ByteArray × Int × List (ByteArray × Int)) (b1 : ByteArray × Int × List (ByteArray × Int)) : Option ((List (ByteArray × Int)) × Int) :=
  (impl_IsPaper.f a0).bind fun r1 =>
  if (!r1) = false then
    (impl_IsPaper.f b1).bind fun r2 =>
    if (!r2) = true then
      some ([], 1)
    else
      I5 a0.2.2 (a0.2.2.length : Int) 0 b1 []
  else
    some ([], 1)
def impl_MissingLines.fn (n : Nat) (a0 : ByteArray × Int × List (ByteArray × Int)) (b1 : ByteArray × Int × List (ByteArray × Int)) : Option ((List (ByteArray × Int)) × Int) := impl_MissingLines.top (impl_MissingLines.l5 n n) a0 b1
def impl_MissingLines.f (a0 : ByteArray × Int × List (ByteArray × Int)) (b1 : ByteArray × Int × List (ByteArray × Int)) : Option ((List (ByteArray × Int)) × Int) := impl_MissingLines.fn NN a0 b1
end
end Go.Pl

namespace Go.Pl
open Go.Ev
set_option linter.unusedVariables false
noncomputable section
def spec_MissingLines.g5 (L5 : Int → (ByteArray × Int × List (ByteArray × Int)) → (ByteArray × Int × List (ByteArray × Int)) → (List (ByteArray × Int)) → Option ((List (ByteArray × Int)) × Int)) (i7 : Int) (a2 : ByteArray × Int × List (ByteArray × Int)) (b3 : ByteArray × Int × List (ByteArray × Int)) (out6 : List (ByteArray × Int)) : Option ((List (ByteArray × Int)) × Int) :=
  if (decide ((i7 : Int) < (a2.2.2.length : Int))) = true then
    if (0 : Int) ≤ i7 ∧ (i7 : Int) < a2.2.2.length then
      if (0 : Int) ≤ i7 ∧ (i7 : Int) < a2.2.2.length then
        (spec_l29Find.f b3 ((a2.2.2.getD (i7 : Int).toNat (ByteArray.empty, 0)).1)).bind fun r3 =>
        if (decide ((0 : Int) ≤ r3)) = true then
          if (0 : Int) ≤ r3 ∧ (r3 : Int) < b3.2.2.length then
            if (decide ((0 : Int) < (IntKind.i64.wrap (((a2.2.2.getD (i7 : Int).toNat (ByteArray.empty, 0)).2) - ((b3.2.2.getD (r3 : Int).toNat (ByteArray.empty, 0)).2))))) = true then
              if (0 : Int) ≤ i7 ∧ (i7 : Int) < a2.2.2.length then
                if out6.length + ([((a2.2.2.getD (i7 : Int).toNat (ByteArray.empty, 0)).1, IntKind.i64.wrap (((a2.2.2.getD (i7 : Int).toNat (ByteArray.empty, 0)).2) - ((b3.2.2.getD (r3 : Int).toNat (ByteArray.empty, 0)).2)))]).length < room 24 then
                  L5 (IntKind.i64.wrap (i7 + 1)) a2 b3 (out6 ++ ([((a2.2.2.getD (i7 : Int).toNat (ByteArray.empty, 0)).1, IntKind.i64.wrap (((a2.2.2.getD (i7 : Int).toNat (ByteArray.empty, 0)).2) - ((b3.2.2.getD (r3 : Int).toNat (ByteArray.empty, 0)).2)))]))
                else
                  none
              else
                none
            else
              L5 (IntKind.i64.wrap (i7 + 1)) a2 b3 out6
          else
            none
        else if (decide ((0 : Int) < ((a2.2.2.getD (i7 : Int).toNat (ByteArray.empty, 0)).2))) = true then
          if (0 : Int) ≤ i7 ∧ (i7 : Int) < a2.2.2.length then
            if out6.length + ([((a2.2.2.getD (i7 : Int).toNat (ByteArray.empty, 0)).1, (a2.2.2.getD (i7 : Int).toNat (ByteArray.empty, 0)).2)]).length < room 24 then
              L5 (IntKind.i64.wrap (i7 + 1)) a2 b3 (out6 ++ ([((a2.2.2.getD (i7 : Int).toNat (ByteArray.empty, 0)).1, (a2.2.2.getD (i7 : Int).toNat (ByteArray.empty, 0)).2)]))
            else
              none
          else
            none
        else
          L5 (IntKind.i64.wrap (i7 + 1)) a2 b3 out6
      else
        none
    else
      none
  else
    some (out6, 0)
def spec_MissingLines.l5 (n : Nat) : Nat → Int → (ByteArray × Int × List (ByteArray × Int)) → (ByteArray × Int × List (ByteArray × Int)) → (List (ByteArray × Int)) → Option ((List (ByteArray × Int)) × Int)
  | 0 => fun _ _ _ _ => none
  | k + 1 => spec_MissingLines.g5 (spec_MissingLines.l5 n k)
def spec_MissingLines.top (I5 : Int → (ByteArray × Int × List (ByteArray × Int)) → (ByteArray × Int × List (ByteArray × Int)) → (List (ByteArray × Int)) → Option ((List (ByteArray × Int)) × Int)) (a0 : ByteArray × Int × List (ByteArray × Int)) (b1 : ByteArray × Int × List (ByteArray × Int)) : Option ((List (ByteArray × Int)) × Int) :=
  (spec_IsPaper.f a0).bind fun r1 =>
  if (!r1) = false then
    (spec_IsPaper.f b1).bind fun r2 =>
    if (!r2) = true then
      some ([], 1)
    else
      I5 0 a0 b1 []
  else
    some ([], 1)
def spec_MissingLines.fn (n : Nat) (a0 : ByteArray × Int × List (ByteArray × Int)) (b1 : ByteArray × Int × List (ByteArray × Int)) : Option ((List (ByteArray × Int)) × Int) := spec_MissingLines.top (spec_MissingLines.l5 n n) a0 b1
def spec_MissingLines.f (a0 : ByteArray × Int × List (ByteArray × Int)) (b1 : ByteArray × Int × List (ByteArray × Int)) : Option ((List (ByteArray × Int)) × Int) := spec_MissingLines.fn NN a0 b1
end
end Go.Pl

namespace Go.Pl
open Go.Ev
set_option linter.unusedVariables false
set_option linter.unusedSimpArgs false
def missF (bs : List (ByteArray × Int)) (out : List (ByteArray × Int)) (l : ByteArray × Int) : List (ByteArray × Int) := if 0 < l.2 - cntL l.1 bs then out ++ [(l.1, l.2 - cntL l.1 bs)] else out
def missL (ax bs : List (ByteArray × Int)) : List (ByteArray × Int) := ax.foldl (missF bs) []
theorem missF_ok (bs : List (ByteArray × Int)) (hb : ∀ l ∈ bs, lineOk l = true) (out : List (ByteArray × Int)) (l : ByteArray × Int) (hl : lineOk l = true) (n : Nat) (h : out.length ≤ n ∧ ∀ x ∈ out, lineOk x = true) : (missF bs out l).length ≤ n + 1 ∧ ∀ x ∈ missF bs out l, lineOk x = true := by
  have h1 := lineOk_iff.1 hl
  have h2 := cntL_bd l.1 bs hb
  unfold missF
  split
  · refine ⟨by simp; omega, fun x hx => ?_⟩
    rcases List.mem_append.1 hx with h3 | h3
    · exact h.2 x h3
    · rw [List.mem_singleton.1 h3]; exact lineOk_iff.2 ⟨h1.1, by simp only; omega, by simp only; omega⟩
  · exact ⟨by omega, h.2⟩
theorem room24' {α : Type} (out : List α) (x : α) (h : out.length ≤ 2000000) : out.length + [x].length < room 24 := by rw [room24]; simp; omega
theorem impl_Missing_l (v : ByteArray) (d : Int) (ax bs : List (ByteArray × Int)) (ha : ∀ l ∈ ax, lineOk l = true) (hb : ∀ l ∈ bs, lineOk l = true) (hla : ax.length ≤ 12) (hlb : bs.length ≤ 12) :
    ((missL ax bs).length ≤ ax.length ∧ ∀ x ∈ missL ax bs, lineOk x = true) ∧ impl_MissingLines.l5 NN NN ax ax.length 0 (v, d, bs) [] = some (missL ax bs, 0) := by
  have := fold_fix (E := fun l => lineOk l = true) (fun p st => st.length ≤ p.length ∧ ∀ x ∈ st, lineOk x = true) (fun _ => missF bs) (fun st => some (st, (0 : Int))) (fun k i st => impl_MissingLines.l5 NN k ax ax.length i (v, d, bs) st) ax ?_ ?_ [] ha ⟨by simp, by simp⟩ (by omega) NN (NN_lt (by omega))
  · rw [foldi_foldl] at this
    exact this
  · intro k st _
    simp [impl_MissingLines.l5, impl_MissingLines.g5]
  · intro k p l r st hx hl hI c0 c1 c2 cw g
    have h1 := lineOk_iff.1 hl
    have h2 := cntL_bd l.1 bs hb
    have e1 := w64 (n := l.2 - cntL l.1 bs) (by omega) (by omega)
    refine ⟨by rw [List.length_append, List.length_singleton]; exact missF_ok bs hb st l hl p.length hI, ?_⟩
    simp only [impl_MissingLines.l5, impl_MissingLines.g5, c0, c1, cw, and_self, and_true, true_and, decide_true, decide_false, if_true, if_false, mid_get, mid_set, mid_getn, mid_setn, bt_mid, Option.bind_some, Bool.not_true, Bool.not_false, Bool.false_eq_true, Bool.true_eq_false, beq_self_eq_true, bne_self_eq_false, Int.toNat_natCast, g, impl_countIn_f bs l.1 (by omega), e1, decide_eq_true_eq]
    unfold missF
    rw [if_pos (room24' st _ (by omega))]
    split <;> rfl
theorem spec_Missing_l (v w : ByteArray) (d e : Int) (ax bs : List (ByteArray × Int)) (ha : ∀ l ∈ ax, lineOk l = true) (hb : ∀ l ∈ bs, lineOk l = true) (hla : ax.length ≤ 12) (hlb : bs.length ≤ 12) :
    spec_MissingLines.l5 NN NN 0 (w, e, ax) (v, d, bs) [] = some (missL ax bs, 0) := by
  have := (fold_fix (E := fun l => lineOk l = true) (fun p st => st.length ≤ p.length ∧ ∀ x ∈ st, lineOk x = true) (fun _ => missF bs) (fun st => some (st, (0 : Int))) (fun k i st => spec_MissingLines.l5 NN k i (w, e, ax) (v, d, bs) st) ax ?_ ?_ [] ha ⟨by simp, by simp⟩ (by omega) NN (NN_lt (by omega))).2
  · rw [foldi_foldl] at this
    exact this
  · intro k st _
    simp [spec_MissingLines.l5, spec_MissingLines.g5]
  · intro k p l r st hx hl hI c0 c1 c2 cw g
    have h1 := lineOk_iff.1 hl
    have h2 := cntL_bd l.1 bs hb
    have e1 := w64 (n := l.2 - cntL l.1 bs) (by omega) (by omega)
    refine ⟨by rw [List.length_append, List.length_singleton]; exact missF_ok bs hb st l hl p.length hI, ?_⟩
    simp only [spec_MissingLines.l5, spec_MissingLines.g5, c0, c1, cw, and_self, and_true, true_and, decide_true, decide_false, if_true, if_false, mid_get, mid_set, mid_getn, mid_setn, bt_mid, Option.bind_some, Bool.not_true, Bool.not_false, Bool.false_eq_true, Bool.true_eq_false, beq_self_eq_true, bne_self_eq_false, Int.toNat_natCast, g]
    rw [spec_l29Find_f _ _ (by simp only; omega)]
    simp only [Option.bind_some]
    unfold missF
    have hc := cntL_first l.1 bs 0
    cases hf : firstOf (fun x : ByteArray × Int => decide (x.1 = l.1)) 0 bs with
    | none =>
      rw [hf] at hc
      simp only [Option.elim] at hc
      rw [hc]
      simp only [Option.elim, hf]
      have n1 : ¬ (0 : Int) ≤ -1 := by omega
      simp only [n1, and_self, and_true, true_and, decide_true, decide_false, if_true, if_false, mid_get, mid_set, mid_getn, mid_setn, bt_mid, Option.bind_some, Bool.not_true, Bool.not_false, Bool.false_eq_true, Bool.true_eq_false, beq_self_eq_true, bne_self_eq_false, Int.toNat_natCast, Int.sub_zero]
      rw [if_pos (room24' st _ (by omega))]
      simp only [decide_eq_true_eq]
      split <;> rfl
    | some x =>
      obtain ⟨j, y⟩ := x
      obtain ⟨f1, f2, f3, f4⟩ := firstOf_spec _ _ _ _ _ hf
      rw [hf] at hc
      simp only [Option.elim] at hc
      simp only [Option.elim, hf]
      have n1 : (0 : Int) ≤ (j : Int) := by omega
      have n2 : (j : Int) < (bs.length : Int) := by omega
      have g2 : ∀ z, bs.getD j z = y := fun z => by
        rw [List.getD_eq_getElem?_getD, show j = j - 0 by omega, f3]; rfl
      rw [hc] at e1 ⊢
      simp only [n1, n2, and_self, and_true, true_and, decide_true, decide_false, if_true, if_false, mid_get, mid_set, mid_getn, mid_setn, bt_mid, Option.bind_some, Bool.not_true, Bool.not_false, Bool.false_eq_true, Bool.true_eq_false, beq_self_eq_true, bne_self_eq_false, Int.toNat_natCast, g2, e1]
      rw [if_pos (room24' st _ (by omega))]
      simp only [decide_eq_true_eq]
      split <;> rfl
theorem paperB_iff {p : ByteArray × Int × List (ByteArray × Int)} (h : paperB p = true) : wordB p.1 = true ∧ (0 ≤ p.2.1 ∧ p.2.1 ≤ 100000) ∧ linesB p.2.2 = true := by
  unfold paperB at h
  simp only [Bool.and_eq_true, inB_iff] at h
  exact ⟨h.1.1, h.1.2, h.2⟩
theorem lines_ok {xs : List (ByteArray × Int)} (h1 : xs.length ≤ 1000000) (h2 : ∀ l ∈ xs, lineOk l = true) : Lm OkLine xs := ⟨h1, fun l hl => by
  have h3 := lineOk_iff.1 (h2 l hl)
  have := wordB_size h3.1
  exact ⟨by unfold Sm; omega, wf64.2 (by omega)⟩⟩
theorem MissingLines_core (a b : ByteArray × Int × List (ByteArray × Int)) (ha : OkPaper a) (hb : OkPaper b) : ∃ w, spec_MissingLines.f a b = some w ∧ impl_MissingLines.f a b = some w ∧ Lm OkLine w.1 := by
  unfold spec_MissingLines.f spec_MissingLines.fn spec_MissingLines.top impl_MissingLines.f impl_MissingLines.fn impl_MissingLines.top
  rw [spec_IsPaper_f a ha, spec_IsPaper_f b hb, impl_IsPaper_f a ha, impl_IsPaper_f b hb]
  cases h1 : paperB a
  · exact ⟨([], 1), rfl, rfl, by simp, by simp⟩
  cases h2 : paperB b
  · exact ⟨([], 1), rfl, rfl, by simp, by simp⟩
  have p1 := linesB_ok (paperB_iff h1).2.2
  have p2 := linesB_ok (paperB_iff h2).2.2
  obtain ⟨w, e, ax⟩ := a
  obtain ⟨v, d, bs⟩ := b
  have q1 := impl_Missing_l v d ax bs p1.2 p2.2 p1.1 p2.1
  have q2 := spec_Missing_l v w d e ax bs p1.2 p2.2 p1.1 p2.1
  have p11 : ax.length ≤ 12 := p1.1
  exact ⟨(missL ax bs, 0), q2, q1.2, lines_ok (by simp only; omega) q1.1.2⟩
end Go.Pl

namespace Go.Pl
open Go.Ev
set_option linter.unusedVariables false
set_option linter.unusedSimpArgs false
/-- words in order -/
def ltW (a b : ByteArray) : Bool := Op.bytesLess a.toList b.toList
theorem lessL_trans : ∀ (x y z : List UInt8), Op.bytesLess x y = true → Op.bytesLess y z = true → Op.bytesLess x z = true := by
  intro x
  induction x with
  | nil =>
    intro y z h1 h2
    cases z with
    | nil => cases y <;> simp [Op.bytesLess] at h2
    | cons c z => rfl
  | cons a x ih =>
    intro y z h1 h2
    cases y with
    | nil => simp [Op.bytesLess] at h1
    | cons b y =>
      cases z with
      | nil => simp [Op.bytesLess] at h2
      | cons c z =>
        simp only [Op.bytesLess, Bool.or_eq_true, Bool.and_eq_true, decide_eq_true_eq, beq_iff_eq, UInt8.lt_iff_toNat_lt] at h1 h2 ⊢
        rcases h1 with h1 | ⟨rfl, h1⟩
        · rcases h2 with h2 | ⟨rfl, h2⟩
          · left; omega
          · left; exact h1
        · rcases h2 with h2 | ⟨rfl, h2⟩
          · left; exact h2
          · right; exact ⟨rfl, ih y z h1 h2⟩
theorem lessL_irr : ∀ (x : List UInt8), Op.bytesLess x x = false := by
  intro x
  induction x with
  | nil => rfl
  | cons a x ih => simp [Op.bytesLess, ih]
theorem lessL_tot : ∀ (x y : List UInt8), Op.bytesLess x y = true ∨ x = y ∨ Op.bytesLess y x = true := by
  intro x
  induction x with
  | nil => intro y; cases y; exact .inr (.inl rfl); exact .inl rfl
  | cons a x ih =>
    intro y
    cases y with
    | nil => exact .inr (.inr rfl)
    | cons b y =>
      simp only [Op.bytesLess, Bool.or_eq_true, Bool.and_eq_true, decide_eq_true_eq, beq_iff_eq, UInt8.lt_iff_toNat_lt, List.cons.injEq]
      by_cases h : a = b
      · subst h
        rcases ih y with h | h | h
        · exact .inl (.inr ⟨rfl, h⟩)
        · exact .inr (.inl ⟨rfl, h⟩)
        · exact .inr (.inr (.inr ⟨rfl, h⟩))
      · have h' : a.toNat ≠ b.toNat := fun e => h (UInt8.toNat_inj.1 e)
        rcases Nat.lt_or_gt_of_ne h' with h | h
        · exact .inl (.inl h)
        · exact .inr (.inr (.inl h))
theorem ltW_trans {a b c : ByteArray} (h1 : ltW a b = true) (h2 : ltW b c = true) : ltW a c = true := lessL_trans _ _ _ h1 h2
theorem ltW_irr (a : ByteArray) : ltW a a = false := lessL_irr _
theorem ltW_ne {a b : ByteArray} (h : ltW a b = true) : a ≠ b := fun e => by subst e; rw [ltW_irr] at h; cases h
theorem ltW_asym {a b : ByteArray} (h : ltW a b = true) : ltW b a = false := by
  cases h2 : ltW b a
  · rfl
  · exact absurd (ltW_trans h h2) (by rw [ltW_irr]; simp)
theorem ltW_tot (a b : ByteArray) : ltW a b = true ∨ a = b ∨ ltW b a = true := by
  rcases lessL_tot a.toList b.toList with h | h | h
  · exact .inl h
  · exact .inr (.inl (ba_toList.1 h))
  · exact .inr (.inr h)
theorem ltW_not {a b : ByteArray} (h1 : ltW a b = false) (h2 : a ≠ b) : ltW b a = true := by
  rcases ltW_tot a b with h | h | h
  · rw [h1] at h; cases h
  · exact absurd h h2
  · exact h
end Go.Pl

namespace Go.Pl
open Go.Ev
set_option linter.unusedVariables false
set_option linter.unusedSimpArgs false
abbrev Ln := ByteArray × Int
theorem ltS_W (a b : ByteArray) : ltS a b = ltW a b := rfl
/-- strictly rising by the article -/
def Srt (xs : List Ln) : Prop := xs.Pairwise fun a b => ltW a.1 b.1 = true
theorem linesF_pair : ∀ (r : List Ln) (x : Ln), linesF x r = true → Srt (x :: r) := by
  intro r
  induction r with
  | nil => intro x _; exact List.pairwise_singleton _ _
  | cons a r ih =>
    intro x h
    simp only [linesF, Bool.and_eq_true] at h
    have i := ih a h.2
    refine List.pairwise_cons.2 ⟨fun b hb => ?_, i⟩
    rcases List.mem_cons.1 hb with rfl | hb
    · exact h.1.2
    · exact ltW_trans h.1.2 ((List.pairwise_cons.1 i).1 b hb)
theorem linesB_srt {xs : List Ln} (h : linesB xs = true) : Srt xs := by
  unfold linesB at h
  simp only [Bool.and_eq_true] at h
  cases xs with
  | nil => exact List.Pairwise.nil
  | cons a r =>
    simp only [linesL, Bool.and_eq_true] at h
    exact linesF_pair r a h.2.2
theorem srt_linesF : ∀ (r : List Ln) (x : Ln), Srt (x :: r) → (∀ l ∈ r, lineOk l = true) → linesF x r = true := by
  intro r
  induction r with
  | nil => intro x _ _; rfl
  | cons a r ih =>
    intro x h ho
    obtain ⟨h1, h2⟩ := List.pairwise_cons.1 h
    simp only [linesF, Bool.and_eq_true]
    exact ⟨⟨ho a (by simp), h1 a (by simp)⟩, ih a h2 (fun l hl => ho l (by simp [hl]))⟩
theorem linesB_of {xs : List Ln} (h : Srt xs) (ho : ∀ l ∈ xs, lineOk l = true) (hl : xs.length ≤ 12) : linesB xs = true := by
  unfold linesB
  simp only [Bool.and_eq_true, decide_eq_true_eq]
  refine ⟨hl, ?_⟩
  cases xs with
  | nil => rfl
  | cons a r =>
    simp only [linesL, Bool.and_eq_true]
    exact ⟨ho a (by simp), srt_linesF r a h (fun l hl => ho l (by simp [hl]))⟩
/-- no line of an article -/
def remL (a : ByteArray) (xs : List Ln) : List Ln := xs.filter fun l => !decide (l.1 = a)
/-- a line put in at its place -/
def insL (a : ByteArray) (c : Int) : List Ln → List Ln
  | [] => [(a, c)]
  | l :: r => if (ltW a l.1 || decide (a = l.1)) = true then (a, c) :: remL a (l :: r) else l :: insL a c r
def putL (a : ByteArray) (c : Int) (xs : List Ln) : List Ln := if c = 0 then remL a xs else insL a c xs
def stepL (a : ByteArray) (c : Int) (st : List Ln × Bool) (l : Ln) : List Ln × Bool :=
  if (!st.2 && (ltW a l.1 || decide (a = l.1))) = true then ((if l.1 = a then st.1 ++ [(a, c)] else st.1 ++ [(a, c)] ++ [l]), true)
  else ((if l.1 = a then st.1 else st.1 ++ [l]), st.2)
def endL (a : ByteArray) (c : Int) (st : List Ln × Bool) : List Ln := if st.2 = true then st.1 else st.1 ++ [(a, c)]
theorem fold_rem (a : ByteArray) (c : Int) : ∀ (xs out : List Ln), xs.foldl (stepL a c) (out, true) = (out ++ remL a xs, true) := by
  intro xs
  induction xs with
  | nil => intro out; simp [remL]
  | cons l r ih =>
    intro out
    rw [List.foldl_cons]
    by_cases h : l.1 = a
    · simp only [stepL, Bool.not_true, Bool.false_and, Bool.false_eq_true, if_false, h, if_true, ih]
      simp [remL, h]
    · simp only [stepL, Bool.not_true, Bool.false_and, Bool.false_eq_true, if_false, h, ih]
      simp [remL, h]
theorem fold_ins (a : ByteArray) (c : Int) : ∀ (xs out : List Ln), endL a c (xs.foldl (stepL a c) (out, false)) = out ++ insL a c xs := by
  intro xs
  induction xs with
  | nil => intro out; simp [endL, insL]
  | cons l r ih =>
    intro out
    rw [List.foldl_cons]
    by_cases hp : (ltW a l.1 || decide (a = l.1)) = true
    · simp only [stepL, Bool.not_false, Bool.true_and, hp, if_true, insL, fold_rem, endL]
      by_cases h : l.1 = a <;> simp [remL, h]
    · have h : l.1 ≠ a := fun e => hp (by simp [e])
      simp only [stepL, Bool.not_false, Bool.true_and, hp, Bool.false_eq_true, if_false, h, insL, ih, List.append_assoc, List.singleton_append]
theorem fold_put (a : ByteArray) (c : Int) (xs : List Ln) : endL a c (xs.foldl (stepL a c) ([], decide (c = 0))) = putL a c xs := by
  unfold putL
  by_cases h : c = 0
  · simp only [h, decide_true, if_true, fold_rem, endL, List.nil_append]
  · simp only [h, decide_false, if_false, fold_ins, List.nil_append]
theorem stepL_len (a : ByteArray) (c : Int) (st : List Ln × Bool) (l : Ln) : (stepL a c st l).1.length ≤ st.1.length + 2 := by
  unfold stepL
  split <;> split <;> simp <;> omega
theorem impl_putLine_f (xs : List Ln) (a : ByteArray) (c : Int) (h : xs.length ≤ 1000) : impl_putLine.f xs a c = some (putL a c xs) := by
  have := (fold_fix (E := fun _ => True) (fun p (st : List Ln × Bool) => st.1.length ≤ 2 * p.length) (fun _ => stepL a c) (fun st => some (endL a c st)) (fun k i st => impl_putLine.l4 NN k a c st.2 xs xs.length i st.1) xs ?_ ?_ ([], decide (c = 0)) (fun _ _ => trivial) (by simp) (by omega) NN (NN_lt (by omega))).2
  · rw [foldi_foldl, fold_put] at this
    unfold impl_putLine.f impl_putLine.fn impl_putLine.top
    rw [← this]
    rfl
  · intro k st hI
    simp only [impl_putLine.l4, impl_putLine.g4, Int.lt_irrefl, and_self, and_true, true_and, decide_true, decide_false, if_true, if_false, mid_get, mid_set, mid_getn, mid_setn, bt_mid, Option.bind_some, Bool.not_true, Bool.not_false, Bool.false_eq_true, Bool.true_eq_false, beq_self_eq_true, bne_self_eq_false, Int.toNat_natCast]
    rw [if_pos (room24' st.1 _ (by have := hI; omega))]
    unfold endL
    cases st.2 <;> simp
  · intro k p l r st hx hl hI c0 c1 c2 cw g
    have hp : p.length ≤ 1000 := by rw [hx] at h; simp at h; omega
    refine ⟨by have := stepL_len a c st l; rw [List.length_append, List.length_singleton]; omega, ?_⟩
    simp only [impl_putLine.l4, impl_putLine.g4, c0, c1, cw, and_self, and_true, true_and, decide_true, decide_false, if_true, if_false, mid_get, mid_set, mid_getn, mid_setn, bt_mid, Option.bind_some, Bool.not_true, Bool.not_false, Bool.false_eq_true, Bool.true_eq_false, beq_self_eq_true, bne_self_eq_false, Int.toNat_natCast, g]
    have q1 := room24' st.1 (a, c) (by omega)
    have q2 := room24' st.1 l (by omega)
    have q3 := room24' (st.1 ++ [(a, c)]) l (by simp; omega)
    simp only [q1, q2, q3, if_true, ba_beq, stepL]
    rw [show Op.bytesLess a.toList l.1.toList = ltW a l.1 from rfl]
    obtain ⟨out, b⟩ := st
    by_cases h1 : a = l.1
    · cases b <;> cases ltW a l.1 <;> simp [h1]
    · have h2 : ¬ l.1 = a := fun e => h1 e.symm
      cases b <;> cases ltW a l.1 <;> simp [h1, h2]
/-- a line put in, with more of an article -/
def addA (a : ByteArray) (c : Int) : List Ln → List Ln
  | [] => [(a, c)]
  | l :: r => if ltW l.1 a = true then l :: addA a c r else if l.1 = a then (a, c + l.2) :: r else (a, c) :: l :: r
def addC (a : ByteArray) (c : Int) (xs : List Ln) (i : Nat) (l : Ln) : List Ln := if l.1 = a then xs.take i ++ (a, c + l.2) :: xs.drop (i + 1) else xs.take i ++ (a, c) :: xs.drop i
theorem addA_first (a : ByteArray) (c : Int) : ∀ (r p : List Ln), p ++ addA a c r = (firstOf (fun l : Ln => !ltW l.1 a) p.length r).elim (p ++ r ++ [(a, c)]) (fun x => addC a c (p ++ r) x.1 x.2) := by
  intro r
  induction r with
  | nil => intro p; simp [addA, firstOf]
  | cons l r ih =>
    intro p
    have := ih (p ++ [l])
    simp only [addA, firstOf]
    by_cases h : ltW l.1 a = true
    · simp only [h, if_true, Bool.not_true, Bool.false_eq_true, if_false]
      simp only [List.length_append, List.length_singleton, List.append_assoc, List.singleton_append] at this ⊢
      exact this
    · simp only [Bool.not_eq_true] at h
      simp only [h, Bool.false_eq_true, if_false, Bool.not_false, if_true, Option.elim, addC]
      by_cases h2 : l.1 = a <;> simp [h2]
theorem spec_l29Put_f (xs : List Ln) (a : ByteArray) (c : Int) (h : xs.length ≤ 1000) (hc : 0 ≤ c ∧ c ≤ 1000000) (hx : ∀ l ∈ xs, 0 ≤ l.2 ∧ l.2 ≤ 1000000) : spec_l29Put.f xs a c = some (addA a c xs) := by
  have hr : ∀ n : Nat, n ≤ 2000 → n < room 24 := fun n hn => by rw [room24]; omega
  have := find_loop (E := fun l : Ln => 0 ≤ l.2 ∧ l.2 ≤ 1000000) (fun l : Ln => !ltW l.1 a) (fun i l => some (addC a c xs i l)) (fun p => some (p ++ [(a, c)])) (fun k p i => if p = xs then spec_l29Put.l2 NN k p a c i else (firstOf (fun l : Ln => !ltW l.1 a) i.toNat (p.drop i.toNat)).elim (some (p ++ [(a, c)])) (fun x => some (addC a c xs x.1 x.2))) ?_ ?_ xs hx (by omega) NN (NN_lt (by omega))
  · rw [if_pos rfl] at this
    unfold spec_l29Put.f spec_l29Put.fn spec_l29Put.top
    rw [this]
    have h2 := addA_first a c xs []
    simp only [List.nil_append, List.length_nil] at h2
    rw [h2]
    cases firstOf (fun l : Ln => !ltW l.1 a) 0 xs <;> rfl
  · intro k p
    by_cases hp : p = xs
    · subst hp
      rw [if_pos rfl]
      simp only [spec_l29Put.l2, spec_l29Put.g2, Int.lt_irrefl, and_self, and_true, true_and, decide_true, decide_false, if_true, if_false, mid_get, mid_set, mid_getn, mid_setn, bt_mid, Option.bind_some, Bool.not_true, Bool.not_false, Bool.false_eq_true, Bool.true_eq_false, beq_self_eq_true, bne_self_eq_false, Int.toNat_natCast, Int.le_refl]
      have q0 : (0 : Int) ≤ (p.length : Int) := by omega
      simp only [q0, and_self, and_true, true_and, decide_true, decide_false, if_true, if_false, mid_get, mid_set, mid_getn, mid_setn, bt_mid, Option.bind_some, Bool.not_true, Bool.not_false, Bool.false_eq_true, Bool.true_eq_false, beq_self_eq_true, bne_self_eq_false, Int.toNat_natCast, List.take_length, List.drop_length, List.nil_append, List.append_nil]
      rw [if_pos (hr _ (by simp; omega)), if_pos (hr _ (by simp; omega)), if_pos (hr _ (by simp; omega))]
    · rw [if_neg hp]; simp [firstOf]
  · intro k p l r he c0 c1 c2 cw
    by_cases hp : p ++ l :: r = xs
    · rw [if_pos hp, if_pos hp, hp]
      have c1' : (p.length : Int) < (xs.length : Int) := by rw [← hp]; exact c1
      have g : ∀ z, xs.getD p.length z = l := fun z => by rw [← hp, mid_getn]
      have hpl : p.length + 1 ≤ 1000 := by omega
      have c3 : (p.length : Int) ≤ (xs.length : Int) := by omega
      have c4 : (0 : Int) ≤ (p.length : Int) + 1 := by omega
      have c5 : (p.length : Int) + 1 ≤ (xs.length : Int) := by omega
      have e1 := w64 (n := c + l.2) (by omega) (by omega)
      have t1 : ((p.length : Int) + 1).toNat = p.length + 1 := by omega
      simp only [spec_l29Put.l2, spec_l29Put.g2, c0, c1', c3, c4, c5, cw, and_self, and_true, true_and, decide_true, decide_false, if_true, if_false, mid_get, mid_set, mid_getn, mid_setn, bt_mid, Option.bind_some, Bool.not_true, Bool.not_false, Bool.false_eq_true, Bool.true_eq_false, beq_self_eq_true, bne_self_eq_false, Int.toNat_natCast, g, e1, t1]
      rw [show Op.bytesLess l.1.toList a.toList = ltW l.1 a from rfl, ba_beq]
      cases h1 : ltW l.1 a
      · simp only [Bool.false_eq_true, if_false, Bool.not_false, if_true, addC, decide_eq_true_eq]
        by_cases h2 : l.1 = a
        · simp only [h2, if_true, List.nil_append]
          rw [if_pos (hr _ (by simp; omega)), if_pos (hr _ (by simp; omega)), if_pos (hr _ (by simp; omega))]
          simp
        · simp only [h2, if_false, List.nil_append]
          rw [if_pos (hr _ (by simp; omega)), if_pos (hr _ (by simp; omega)), if_pos (hr _ (by simp; omega))]
          simp
      · simp
    · rw [if_neg hp, if_neg hp]
      have t1 : ((p.length : Int) + 1).toNat = p.length + 1 := by omega
      rw [t1, Int.toNat_natCast, List.drop_left, show p ++ l :: r = (p ++ [l]) ++ r by simp, show p.length + 1 = (p ++ [l]).length by simp, List.drop_left]
      simp only [firstOf]
      by_cases h1 : ltW l.1 a = true
      · simp only [h1, Bool.not_true, Bool.false_eq_true, if_false, List.length_append, List.length_singleton]
      · simp only [Bool.not_eq_true] at h1
        simp only [h1, Bool.not_false, if_true, Option.elim]
/-- a list that holds an article -/
theorem first_split {a : ByteArray} : ∀ (xs : List Ln) (i : Nat), (∃ p y r, xs = p ++ y :: r ∧ y.1 = a ∧ (∀ l ∈ p, l.1 ≠ a) ∧ firstOf (fun l : Ln => decide (l.1 = a)) i xs = some (i + p.length, y)) ∨ ((∀ l ∈ xs, l.1 ≠ a) ∧ firstOf (fun l : Ln => decide (l.1 = a)) i xs = none) := by
  intro xs
  induction xs with
  | nil => intro i; exact .inr ⟨by simp, rfl⟩
  | cons l r ih =>
    intro i
    by_cases h : l.1 = a
    · exact .inl ⟨[], l, r, rfl, h, by simp, by simp [firstOf, h]⟩
    · rcases ih (i + 1) with ⟨p, y, q, rfl, h1, h2, h3⟩ | ⟨h1, h2⟩
      · refine .inl ⟨l :: p, y, q, rfl, h1, fun x hx => ?_, ?_⟩
        · rcases List.mem_cons.1 hx with rfl | hx
          · exact h
          · exact h2 x hx
        · simp only [firstOf, h, decide_false, Bool.false_eq_true, if_false, h3, List.length_cons]
          congr 2; omega
      · refine .inr ⟨fun x hx => ?_, by simp only [firstOf, h, decide_false, Bool.false_eq_true, if_false, h2]⟩
        rcases List.mem_cons.1 hx with rfl | hx
        · exact h
        · exact h1 x hx
theorem rem_none {a : ByteArray} {xs : List Ln} (h : ∀ l ∈ xs, l.1 ≠ a) : remL a xs = xs := by
  unfold remL
  rw [List.filter_eq_self]
  intro l hl
  simp [h l hl]
theorem rem_mid {a : ByteArray} {p r : List Ln} {y : Ln} (hy : y.1 = a) (hp : ∀ l ∈ p, l.1 ≠ a) (hr : ∀ l ∈ r, l.1 ≠ a) : remL a (p ++ y :: r) = p ++ r := by
  have h1 := rem_none hp
  have h2 := rem_none hr
  unfold remL at *
  rw [List.filter_append, h1, List.filter_cons, h2]
  simp [hy]
theorem srt_mid {p r : List Ln} {y : Ln} (h : Srt (p ++ y :: r)) : (∀ l ∈ p, ltW l.1 y.1 = true) ∧ (∀ l ∈ r, ltW y.1 l.1 = true) := by
  obtain ⟨h1, h2, h3⟩ := List.pairwise_append.1 h
  exact ⟨fun l hl => h3 l hl y (by simp), fun l hl => (List.pairwise_cons.1 h2).1 l hl⟩
theorem ins_mid {a : ByteArray} (c : Int) {r : List Ln} {y : Ln} (hy : y.1 = a) (hr : ∀ l ∈ r, l.1 ≠ a) : ∀ (p : List Ln), (∀ l ∈ p, ltW l.1 a = true) → insL a c (p ++ y :: r) = p ++ (a, c) :: r := by
  intro p
  induction p with
  | nil =>
    intro _
    simp only [List.nil_append, insL, hy, decide_true, Bool.or_true, if_true]
    congr 1
    exact rem_mid (p := []) hy (by simp) hr
  | cons l p ih =>
    intro hp
    have h1 := hp l (by simp)
    have h2 := ltW_asym h1
    have h3 : ¬ a = l.1 := fun e => ltW_ne h1 e.symm
    simp only [List.cons_append, insL, h2, h3, decide_false, Bool.or_false, Bool.false_eq_true, if_false, ih (fun x hx => hp x (by simp [hx]))]
/-- where an article is not there yet -/
theorem ins_add {a : ByteArray} (c : Int) : ∀ (xs : List Ln), Srt xs → (∀ l ∈ xs, l.1 ≠ a) → insL a c xs = addA a c xs := by
  intro xs
  induction xs with
  | nil => intro _ _; rfl
  | cons l r ih =>
    intro hs h
    obtain ⟨h1, h2⟩ := List.pairwise_cons.1 hs
    have h3 := h l (by simp)
    have h4 : ¬ a = l.1 := fun e => h3 e.symm
    rcases ltW_tot l.1 a with q | q | q
    · simp only [insL, addA, q, ltW_asym q, h4, decide_false, Bool.or_false, Bool.false_eq_true, if_false, if_true, ih h2 (fun x hx => h x (by simp [hx]))]
    · exact absurd q h3
    · simp only [insL, addA, q, ltW_asym q, h3, Bool.true_or, if_true, Bool.false_eq_true, if_false]
      rw [rem_none h]
theorem add_mid {a : ByteArray} (c : Int) {r : List Ln} {y : Ln} (hy : y.1 = a) : ∀ (p : List Ln), (∀ l ∈ p, ltW l.1 a = true) → addA a c (p ++ y :: r) = p ++ (a, c + y.2) :: r := by
  intro p
  induction p with
  | nil => intro _; simp [addA, hy, ltW_irr]
  | cons l p ih => intro hp; simp only [List.cons_append, addA, hp l (by simp), if_true, ih (fun x hx => hp x (by simp [hx]))]
theorem mem_add {a : ByteArray} {c : Int} {x : Ln} : ∀ (xs : List Ln), x ∈ addA a c xs → x = (a, c) ∨ (∃ l ∈ xs, l.1 = a ∧ x = (a, c + l.2)) ∨ x ∈ xs := by
  intro xs
  induction xs with
  | nil => intro h; simp only [addA, List.mem_singleton] at h; exact .inl h
  | cons l r ih =>
    intro h
    simp only [addA] at h
    split at h
    · rcases List.mem_cons.1 h with rfl | h
      · exact .inr (.inr (by simp))
      · rcases ih h with h | ⟨y, h1, h2⟩ | h
        · exact .inl h
        · exact .inr (.inl ⟨y, by simp [h1], h2⟩)
        · exact .inr (.inr (by simp [h]))
    · split at h
      · rename_i he
        rcases List.mem_cons.1 h with rfl | h
        · exact .inr (.inl ⟨l, by simp, he, rfl⟩)
        · exact .inr (.inr (by simp [h]))
      · rcases List.mem_cons.1 h with rfl | h
        · exact .inl rfl
        · exact .inr (.inr h)
theorem add_srt {a : ByteArray} {c : Int} : ∀ (xs : List Ln), Srt xs → Srt (addA a c xs) := by
  intro xs
  induction xs with
  | nil => intro _; exact List.pairwise_singleton _ _
  | cons l r ih =>
    intro hs
    obtain ⟨h1, h2⟩ := List.pairwise_cons.1 hs
    simp only [addA]
    split
    · rename_i h
      refine List.pairwise_cons.2 ⟨fun x hx => ?_, ih h2⟩
      rcases mem_add r hx with rfl | ⟨y, _, h3, rfl⟩ | h3
      · exact h
      · exact h
      · exact h1 x h3
    · rename_i h
      split
      · rename_i he
        exact List.pairwise_cons.2 ⟨fun x hx => by rw [← he]; exact h1 x hx, h2⟩
      · rename_i he
        have hlt : ltW a l.1 = true := ltW_not (by simpa using h) he
        refine List.pairwise_cons.2 ⟨fun x hx => ?_, hs⟩
        rcases List.mem_cons.1 hx with rfl | hx
        · exact hlt
        · exact ltW_trans hlt (h1 x hx)
theorem add_len {a : ByteArray} {c : Int} : ∀ (xs : List Ln), (addA a c xs).length ≤ xs.length + 1 := by
  intro xs
  induction xs with
  | nil => simp [addA]
  | cons l r ih =>
    simp only [addA]
    split
    · simp only [List.length_cons]; omega
    · split <;> simp
end Go.Pl

namespace Go.Pl
open Go.Ev
set_option linter.unusedVariables false
set_option linter.unusedSimpArgs false
abbrev Pap := ByteArray × Int × List Ln
theorem impl_withLines_f (p : Pap) (ls : List Ln) : impl_withLines.f p ls = some (p.1, p.2.1, ls) := rfl
theorem room24n {n : Nat} (h : n ≤ 2000) : n < room 24 := by rw [room24]; omega
theorem find_idx (p : Pap) (a : ByteArray) (h : p.2.2.length ≤ 1000000) :
    (∃ q y r, p.2.2 = q ++ y :: r ∧ y.1 = a ∧ (∀ l ∈ q, l.1 ≠ a) ∧ spec_l29Find.f p a = some (q.length : Int)) ∨ ((∀ l ∈ p.2.2, l.1 ≠ a) ∧ spec_l29Find.f p a = some (-1)) := by
  rcases first_split (a := a) p.2.2 0 with ⟨q, y, r, h1, h2, h3, h4⟩ | ⟨h1, h2⟩
  · exact .inl ⟨q, y, r, h1, h2, h3, by rw [spec_l29Find_f p a h, h4]; simp⟩
  · exact .inr ⟨h1, by rw [spec_l29Find_f p a h, h2]; rfl⟩
theorem ok_line {a : ByteArray} {c : Int} (h : wordB a = true) (hc : -1000000 ≤ c ∧ c ≤ 1000000) : OkLine (a, c) := by
  have := wordB_size h
  exact ⟨by unfold Sm; simp only; omega, wf64.2 (by simp only; omega)⟩
theorem ok_zero : OkPaper (ByteArray.empty, ((0 : Int), ([] : List Ln))) := ⟨by unfold Sm; decide, wf64.2 (by simp), by simp, by simp⟩
theorem ok_paper {p : Pap} (hp : OkPaper p) {ls : List Ln} (h1 : ls.length ≤ 1000) (h2 : ∀ l ∈ ls, OkLine l) : OkPaper (p.1, p.2.1, ls) := ⟨hp.1, hp.2.1, by simp only; omega, h2⟩
theorem put_found {ls q r : List Ln} {y : Ln} {a : ByteArray} {c : Int} (hc : c ≠ 0) (hs : Srt ls) (h1 : ls = q ++ y :: r) (h2 : y.1 = a) : putL a c ls = q ++ (a, c) :: r ∧ ls.set q.length (y.1, c) = q ++ (a, c) :: r := by
  subst h1
  obtain ⟨k1, k2⟩ := srt_mid hs
  refine ⟨?_, by simp [h2]⟩
  unfold putL
  rw [if_neg hc]
  exact ins_mid c h2 (fun l hl e => by have := k2 l hl; rw [h2, e, ltW_irr] at this; cases this) q (fun l hl => by rw [← h2]; exact k1 l hl)
theorem put_new {ls : List Ln} {a : ByteArray} {c : Int} (hc : c ≠ 0) (hs : Srt ls) (h : ∀ l ∈ ls, l.1 ≠ a) : putL a c ls = addA a c ls := by
  unfold putL
  rw [if_neg hc]
  exact ins_add c ls hs h
theorem line_ok_lm {l : Ln} (h : lineOk l = true) : OkLine l := by
  have h3 := lineOk_iff.1 h
  have := wordB_size h3.1
  exact ⟨by unfold Sm; omega, wf64.2 (by omega)⟩
theorem add_ok {a : ByteArray} {c : Int} {xs : List Ln} (ha : wordB a = true) (hc : 1 ≤ c ∧ c ≤ 1000) (h : ∀ l ∈ xs, l.1 ≠ a) (hx : ∀ l ∈ xs, lineOk l = true) : ∀ l ∈ addA a c xs, lineOk l = true := by
  intro l hl
  rcases mem_add xs hl with rfl | ⟨y, h1, h2, _⟩ | h1
  · exact lineOk_iff.2 ⟨ha, hc⟩
  · exact absurd h2 (h y h1)
  · exact hx l h1
theorem PutLine_core (p : Pap) (a : ByteArray) (c : Int) (hp : OkPaper p) (ha : Sm a) (hcc : Rg .i64 c) : ∃ w, spec_PutLine.f p a c = some w ∧ impl_PutLine.f p a c = some w ∧ OkPaper w.1 := by
  unfold spec_PutLine.f spec_PutLine.fn spec_PutLine.top impl_PutLine.f impl_PutLine.fn impl_PutLine.top
  have ha' : a.size ≤ 140737488355328 := Nat.le_trans ha (by omega)
  rw [spec_IsPaper_f p hp, impl_IsPaper_f p hp, spec_IsWord_f a ha', impl_IsWord_f a ha', spec_l01In_f, impl_within_f]
  cases h1 : paperB p
  · exact ⟨_, rfl, rfl, ok_zero⟩
  cases h2 : wordB a
  · exact ⟨_, rfl, rfl, ok_zero⟩
  cases h3 : inB c 1 1000
  · exact ⟨_, rfl, rfl, ok_zero⟩
  have hc := inB_iff.1 h3
  have hc0 : c ≠ 0 := by omega
  have hl := (paperB_iff h1).2.2
  obtain ⟨q1, q2⟩ := linesB_ok hl
  have hs := linesB_srt hl
  have r1 := room24n (n := p.2.2.length) (by omega)
  simp only [Option.bind_some, Bool.not_true, Bool.false_eq_true, if_false, if_true, List.nil_append, List.length_nil, Nat.zero_add, r1]
  rw [impl_putLine_f _ _ _ (by omega)]
  rcases find_idx p a (by omega) with ⟨q, y, r, e1, e2, e3, e4⟩ | ⟨e1, e2⟩
  · obtain ⟨f1, f2⟩ := put_found (c := c) hc0 hs e1 e2
    have hql : q.length + r.length + 1 = p.2.2.length := by rw [e1]; simp; omega
    have n1 : (0 : Int) ≤ (q.length : Int) := by omega
    have n2 : (q.length : Int) < (p.2.2.length : Int) := by omega
    have n3 : ¬ (12 : Int) < ((putL a c p.2.2).length : Int) := by rw [f1]; simp; omega
    have g : ∀ z, p.2.2.getD q.length z = y := fun z => by rw [e1, mid_getn]
    rw [e4]
    simp only [Option.bind_some, n1, n2, n3, and_self, decide_true, decide_false, Bool.false_eq_true, if_true, if_false, impl_withLines_f, Int.toNat_natCast, g, f2]
    refine ⟨_, rfl, by rw [f1], ok_paper hp (by simp; omega) fun l hl => ?_⟩
    rcases List.mem_append.1 hl with h | h
    · exact line_ok_lm (q2 l (by rw [e1]; simp [h]))
    · rcases List.mem_cons.1 h with rfl | h
      · exact ok_line h2 (by omega)
      · exact line_ok_lm (q2 l (by rw [e1]; simp [h]))
  · have f1 := put_new (c := c) hc0 hs e1
    have hlen := add_len (a := a) (c := c) p.2.2
    have hok := add_ok h2 hc e1 q2
    have n1 : ¬ (0 : Int) ≤ -1 := by omega
    have hpo : OkPaper (p.1, p.2.1, addA a c p.2.2) := ok_paper hp (by omega) fun l hl => line_ok_lm (hok l hl)
    rw [e2]
    simp only [Option.bind_some, n1, decide_false, Bool.false_eq_true, if_false, f1]
    rw [spec_l29Put_f _ _ _ (by omega) (by omega) (fun l hl => by have := (lineOk_iff.1 (q2 l hl)).2; omega)]
    simp only [Option.bind_some, impl_withLines_f]
    rw [spec_IsPaper_f _ hpo]
    have hpb : paperB (p.1, p.2.1, addA a c p.2.2) = decide ((addA a c p.2.2).length ≤ 12) := by
      obtain ⟨k1, k2, _⟩ := paperB_iff h1
      unfold paperB
      simp only [k1, inB_iff.2 k2, Bool.true_and]
      by_cases h : (addA a c p.2.2).length ≤ 12
      · rw [linesB_of (add_srt _ hs) hok h]; simp [h]
      · unfold linesB; simp [h]
    rw [hpb]
    by_cases h : (addA a c p.2.2).length ≤ 12
    · have h' : ¬ (12 : Int) < ((addA a c p.2.2).length : Int) := by omega
      refine ⟨((p.1, p.2.1, addA a c p.2.2), 0), by simp [h], by simp [h'], hpo⟩
    · have h' : (12 : Int) < ((addA a c p.2.2).length : Int) := by omega
      refine ⟨((ByteArray.empty, 0, []), 3), by simp [h], by simp [h'], ok_zero⟩
theorem cnt_none {a : ByteArray} : ∀ {xs : List Ln}, (∀ l ∈ xs, l.1 ≠ a) → cntL a xs = 0 := by
  intro xs
  induction xs with
  | nil => intro _; rfl
  | cons l r ih => intro h; simp only [cntL, h l (by simp), if_false]; exact ih fun x hx => h x (by simp [hx])
theorem cnt_mid {a : ByteArray} {r : List Ln} {y : Ln} (hy : y.1 = a) : ∀ {q : List Ln}, (∀ l ∈ q, l.1 ≠ a) → cntL a (q ++ y :: r) = y.2 := by
  intro q
  induction q with
  | nil => intro _; simp [cntL, hy]
  | cons l q ih => intro h; simp only [List.cons_append, cntL, h l (by simp), if_false]; exact ih fun x hx => h x (by simp [hx])
theorem CutLine_core (p : Pap) (a : ByteArray) (hp : OkPaper p) (ha : Sm a) : ∃ w, spec_CutLine.f p a = some w ∧ impl_CutLine.f p a = some w ∧ OkPaper w.1 := by
  unfold spec_CutLine.f spec_CutLine.fn spec_CutLine.top impl_CutLine.f impl_CutLine.fn impl_CutLine.top
  have ha' : a.size ≤ 140737488355328 := Nat.le_trans ha (by omega)
  rw [spec_IsPaper_f p hp, impl_IsPaper_f p hp, spec_IsWord_f a ha', impl_IsWord_f a ha']
  cases h1 : paperB p
  · exact ⟨_, rfl, rfl, ok_zero⟩
  cases h2 : wordB a
  · exact ⟨_, rfl, rfl, ok_zero⟩
  have hl := (paperB_iff h1).2.2
  obtain ⟨q1, q2⟩ := linesB_ok hl
  have hs := linesB_srt hl
  simp only [Option.bind_some, Bool.not_true, Bool.false_eq_true, if_false, if_true]
  rw [impl_putLine_f _ _ _ (by omega), impl_countIn_f _ _ (by omega)]
  rcases find_idx p a (by omega) with ⟨q, y, r, e1, e2, e3, e4⟩ | ⟨e1, e2⟩
  · have hql : q.length + r.length + 1 = p.2.2.length := by rw [e1]; simp; omega
    have n1 : (0 : Int) ≤ (q.length : Int) := by omega
    have n2 : (q.length : Int) ≤ (p.2.2.length : Int) := by omega
    have n3 : ¬ (q.length : Int) < 0 := by omega
    have n4 : (0 : Int) ≤ (q.length : Int) + 1 := by omega
    have n5 : (q.length : Int) + 1 ≤ (p.2.2.length : Int) := by omega
    have t1 : ((q.length : Int) + 1).toNat = q.length + 1 := by omega
    have w1 := w64 (n := (q.length : Int) + 1) (by omega) (by omega)
    have hy := lineOk_iff.1 (q2 y (by rw [e1]; simp))
    have hcnt : cntL a p.2.2 = y.2 := by rw [e1]; exact cnt_mid e2 e3
    have hn : ¬ y.2 = 0 := by omega
    rw [e1] at hs
    obtain ⟨k1, k2⟩ := srt_mid hs
    have hrem : putL a 0 p.2.2 = q ++ r := by
      unfold putL
      rw [if_pos rfl, e1]
      exact rem_mid e2 e3 (fun l hl e => by have := k2 l hl; rw [e2, e, ltW_irr] at this; cases this)
    have htk : p.2.2.take q.length = q := by rw [e1]; simp
    have hdr : p.2.2.drop (q.length + 1) = r := by rw [e1]; simp
    have r1 := room24n (n := 0 + q.length) (by omega)
    have r2 := room24n (n := q.length + r.length) (by omega)
    rw [e4]
    simp only [Option.bind_some, n1, n2, n3, n4, n5, w1, t1, Int.toNat_natCast, and_self, decide_false, Bool.false_eq_true, if_false, if_true, htk, hdr, List.nil_append, List.length_nil, r1, r2, agree_self, hcnt, hrem, impl_withLines_f]
    refine ⟨_, rfl, by simp [hn], ok_paper hp (by simp; omega) fun l hl => ?_⟩
    rcases List.mem_append.1 hl with h | h
    · exact line_ok_lm (q2 l (by rw [e1]; simp [h]))
    · exact line_ok_lm (q2 l (by rw [e1]; simp [h]))
  · have n1 : (-1 : Int) < 0 := by omega
    rw [e2, cnt_none e1]
    exact ⟨_, rfl, rfl, ok_zero⟩
end Go.Pl

namespace Go.Pl
open Go.Ev
set_option linter.unusedVariables false
set_option linter.unusedSimpArgs false
abbrev Zp : Pap := (ByteArray.empty, (0, []))
def putR (p : Pap) (a : ByteArray) (c : Int) : Pap × Int := if paperB p = true then (if wordB a = true then (if inB c 1 1000 = true then (if (putL a c p.2.2).length ≤ 12 then ((p.1, p.2.1, putL a c p.2.2), 0) else (Zp, 3)) else (Zp, 2)) else (Zp, 1)) else (Zp, 1)
theorem PutLine_both (p : Pap) (a : ByteArray) (c : Int) (hp : OkPaper p) (ha : Sm a) : spec_PutLine.f p a c = some (putR p a c) ∧ impl_PutLine.f p a c = some (putR p a c) := by
  unfold spec_PutLine.f spec_PutLine.fn spec_PutLine.top impl_PutLine.f impl_PutLine.fn impl_PutLine.top putR
  have ha' : a.size ≤ 140737488355328 := Nat.le_trans ha (by omega)
  rw [spec_IsPaper_f p hp, impl_IsPaper_f p hp, spec_IsWord_f a ha', impl_IsWord_f a ha', spec_l01In_f, impl_within_f]
  cases h1 : paperB p
  · exact ⟨rfl, rfl⟩
  cases h2 : wordB a
  · exact ⟨rfl, rfl⟩
  cases h3 : inB c 1 1000
  · exact ⟨rfl, rfl⟩
  have hc := inB_iff.1 h3
  have hc0 : c ≠ 0 := by omega
  have hl := (paperB_iff h1).2.2
  obtain ⟨q1, q2⟩ := linesB_ok hl
  have hs := linesB_srt hl
  have r1 := room24n (n := p.2.2.length) (by omega)
  simp only [Option.bind_some, Bool.not_true, Bool.false_eq_true, if_false, if_true, List.nil_append, List.length_nil, Nat.zero_add, r1]
  rw [impl_putLine_f _ _ _ (by omega)]
  rcases find_idx p a (by omega) with ⟨q, y, r, e1, e2, e3, e4⟩ | ⟨e1, e2⟩
  · obtain ⟨f1, f2⟩ := put_found (c := c) hc0 hs e1 e2
    have hql : q.length + r.length + 1 = p.2.2.length := by rw [e1]; simp; omega
    have n1 : (0 : Int) ≤ (q.length : Int) := by omega
    have n2 : (q.length : Int) < (p.2.2.length : Int) := by omega
    have n3 : ¬ (12 : Int) < ((putL a c p.2.2).length : Int) := by rw [f1]; simp; omega
    have n4 : (putL a c p.2.2).length ≤ 12 := by rw [f1]; simp; omega
    have g : ∀ z, p.2.2.getD q.length z = y := fun z => by rw [e1, mid_getn]
    rw [e4]
    simp only [Option.bind_some, n1, n2, n3, n4, and_self, decide_true, decide_false, Bool.false_eq_true, if_true, if_false, impl_withLines_f, Int.toNat_natCast, g, f2]
    exact ⟨by rw [f1], trivial⟩
  · have f1 := put_new (c := c) hc0 hs e1
    have hlen := add_len (a := a) (c := c) p.2.2
    have hok := add_ok h2 hc e1 q2
    have n1 : ¬ (0 : Int) ≤ -1 := by omega
    have hpo : OkPaper (p.1, p.2.1, addA a c p.2.2) := ok_paper hp (by omega) fun l hl => line_ok_lm (hok l hl)
    rw [e2]
    simp only [Option.bind_some, n1, decide_false, Bool.false_eq_true, if_false, f1]
    rw [spec_l29Put_f _ _ _ (by omega) (by omega) (fun l hl => by have := (lineOk_iff.1 (q2 l hl)).2; omega)]
    simp only [Option.bind_some, impl_withLines_f]
    rw [spec_IsPaper_f _ hpo]
    have hpb : paperB (p.1, p.2.1, addA a c p.2.2) = decide ((addA a c p.2.2).length ≤ 12) := by
      obtain ⟨k1, k2, _⟩ := paperB_iff h1
      unfold paperB
      simp only [k1, inB_iff.2 k2, Bool.true_and]
      by_cases h : (addA a c p.2.2).length ≤ 12
      · rw [linesB_of (add_srt _ hs) hok h]; simp [h]
      · unfold linesB; simp [h]
    rw [hpb]
    by_cases h : (addA a c p.2.2).length ≤ 12
    · have h' : ¬ (12 : Int) < ((addA a c p.2.2).length : Int) := by omega
      exact ⟨by simp [h], by simp [h, h']⟩
    · have h' : (12 : Int) < ((addA a c p.2.2).length : Int) := by omega
      exact ⟨by simp [h], by simp [h, h']⟩
def cutR (p : Pap) (a : ByteArray) : Pap × Int := if paperB p = true then (if wordB a = true then (if cntL a p.2.2 = 0 then (Zp, 4) else ((p.1, p.2.1, remL a p.2.2), 0)) else (Zp, 1)) else (Zp, 1)
theorem CutLine_both (p : Pap) (a : ByteArray) (hp : OkPaper p) (ha : Sm a) : spec_CutLine.f p a = some (cutR p a) ∧ impl_CutLine.f p a = some (cutR p a) := by
  unfold spec_CutLine.f spec_CutLine.fn spec_CutLine.top impl_CutLine.f impl_CutLine.fn impl_CutLine.top cutR
  have ha' : a.size ≤ 140737488355328 := Nat.le_trans ha (by omega)
  rw [spec_IsPaper_f p hp, impl_IsPaper_f p hp, spec_IsWord_f a ha', impl_IsWord_f a ha']
  cases h1 : paperB p
  · exact ⟨rfl, rfl⟩
  cases h2 : wordB a
  · exact ⟨rfl, rfl⟩
  have hl := (paperB_iff h1).2.2
  obtain ⟨q1, q2⟩ := linesB_ok hl
  have hs := linesB_srt hl
  simp only [Option.bind_some, Bool.not_true, Bool.false_eq_true, if_false, if_true]
  rw [impl_putLine_f _ _ _ (by omega), impl_countIn_f _ _ (by omega)]
  rcases find_idx p a (by omega) with ⟨q, y, r, e1, e2, e3, e4⟩ | ⟨e1, e2⟩
  · have hql : q.length + r.length + 1 = p.2.2.length := by rw [e1]; simp; omega
    have n1 : (0 : Int) ≤ (q.length : Int) := by omega
    have n2 : (q.length : Int) ≤ (p.2.2.length : Int) := by omega
    have n3 : ¬ (q.length : Int) < 0 := by omega
    have n4 : (0 : Int) ≤ (q.length : Int) + 1 := by omega
    have n5 : (q.length : Int) + 1 ≤ (p.2.2.length : Int) := by omega
    have t1 : ((q.length : Int) + 1).toNat = q.length + 1 := by omega
    have w1 := w64 (n := (q.length : Int) + 1) (by omega) (by omega)
    have hy := lineOk_iff.1 (q2 y (by rw [e1]; simp))
    have hcnt : cntL a p.2.2 = y.2 := by rw [e1]; exact cnt_mid e2 e3
    have hn : ¬ y.2 = 0 := by omega
    have hs' := hs
    rw [e1] at hs'
    obtain ⟨k1, k2⟩ := srt_mid hs'
    have hrm : remL a p.2.2 = q ++ r := by
      rw [e1]
      exact rem_mid e2 e3 (fun l hl e => by have := k2 l hl; rw [e2, e, ltW_irr] at this; cases this)
    have hrem : putL a 0 p.2.2 = q ++ r := by unfold putL; rw [if_pos rfl, hrm]
    have htk : p.2.2.take q.length = q := by rw [e1]; simp
    have hdr : p.2.2.drop (q.length + 1) = r := by rw [e1]; simp
    have r1 := room24n (n := 0 + q.length) (by omega)
    have r2 := room24n (n := q.length + r.length) (by omega)
    rw [e4]
    simp only [Option.bind_some, n1, n2, n3, n4, n5, w1, t1, Int.toNat_natCast, and_self, decide_false, Bool.false_eq_true, if_false, if_true, htk, hdr, List.nil_append, List.length_nil, r1, r2, agree_self, hcnt, hrem, hrm, hn, impl_withLines_f]
    first | (refine ⟨trivial, ?_⟩; simp [hn]) | (refine ⟨rfl, ?_⟩; simp [hn]) | simp [hn]
  · have n1 : (-1 : Int) < 0 := by omega
    rw [e2, cnt_none e1]
    exact ⟨rfl, rfl⟩
theorem srt_name {q r : List Ln} {y : Ln} {a : ByteArray} {c : Int} (h : Srt (q ++ y :: r)) (e : y.1 = a) : Srt (q ++ (a, c) :: r) := by
  unfold Srt at h ⊢
  have e1 : ∀ xs : List Ln, (xs.Pairwise fun a b => ltW a.1 b.1 = true) ↔ (xs.map (·.1)).Pairwise fun a b => ltW a b = true := fun xs => by rw [List.pairwise_map]
  rw [e1] at h ⊢
  simp only [List.map_append, List.map_cons] at h ⊢
  rw [← e]; exact h
theorem put_shape {ls : List Ln} {a : ByteArray} {c : Int} (hs : Srt ls) (ho : ∀ l ∈ ls, lineOk l = true) (ha : wordB a = true) (hc : 1 ≤ c ∧ c ≤ 1000) :
    (∃ Q R, putL a c ls = Q ++ (a, c) :: R ∧ ∀ l ∈ Q, l.1 ≠ a) ∧ Srt (putL a c ls) ∧ (∀ l ∈ putL a c ls, lineOk l = true) ∧ putL a c (putL a c ls) = putL a c ls := by
  have hc0 : c ≠ 0 := by omega
  have key : (∃ Q R, putL a c ls = Q ++ (a, c) :: R ∧ ∀ l ∈ Q, l.1 ≠ a) ∧ Srt (putL a c ls) ∧ (∀ l ∈ putL a c ls, lineOk l = true) := by
    rcases first_split (a := a) ls 0 with ⟨q, y, r, h1, h2, h3, h4⟩ | ⟨h1, h2⟩
    · obtain ⟨f1, _⟩ := put_found (c := c) hc0 hs h1 h2
      rw [f1]
      refine ⟨⟨q, r, rfl, h3⟩, srt_name (h1 ▸ hs) h2, fun l hl => ?_⟩
      rcases List.mem_append.1 hl with h | h
      · exact ho l (by rw [h1]; simp [h])
      · rcases List.mem_cons.1 h with rfl | h
        · exact lineOk_iff.2 ⟨ha, hc⟩
        · exact ho l (by rw [h1]; simp [h])
    · have f1 := put_new (c := c) hc0 hs h1
      rw [f1]
      refine ⟨?_, add_srt _ hs, add_ok ha hc h1 ho⟩
      have hA := addA_first a c ls []
      simp only [List.nil_append, List.length_nil] at hA
      rw [hA]
      cases hf : firstOf (fun l : Ln => !ltW l.1 a) 0 ls with
      | none => exact ⟨ls, [], rfl, h1⟩
      | some x =>
        obtain ⟨i, l⟩ := x
        obtain ⟨_, _, k3, _⟩ := firstOf_spec _ ls 0 i l hf
        have hlm : l ∈ ls := List.mem_of_getElem? k3
        refine ⟨ls.take i, ls.drop i, ?_, fun z hz => h1 z (List.mem_of_mem_take hz)⟩
        simp only [Option.elim_some, addC, h1 l hlm, if_false]
  refine ⟨key.1, key.2.1, key.2.2, ?_⟩
  obtain ⟨⟨Q, R, e, _⟩, s2, _⟩ := key
  rw [e] at s2 ⊢
  exact (put_found (c := c) hc0 s2 rfl rfl).1
theorem putR_zero {p : Pap} {a : ByteArray} {c : Int} (hp : OkPaper p) (h : (putR p a c).2 = 0) : OkPaper (putR p a c).1 ∧ paperB (putR p a c).1 = true ∧ putR (putR p a c).1 a c = ((putR p a c).1, 0) ∧ ∃ Q R, (putR p a c).1.2.2 = Q ++ (a, c) :: R ∧ ∀ l ∈ Q, l.1 ≠ a := by
  unfold putR at h
  split at h
  rotate_left
  · exact absurd h (by decide)
  rename_i h1
  split at h
  rotate_left
  · exact absurd h (by decide)
  rename_i h2
  split at h
  rotate_left
  · exact absurd h (by decide)
  rename_i h3
  split at h
  rotate_left
  · exact absurd h (by decide)
  rename_i h4
  have hc := inB_iff.1 h3
  obtain ⟨k1, k2, k3⟩ := paperB_iff h1
  obtain ⟨q1, q2⟩ := linesB_ok k3
  obtain ⟨s1, s2, s3, s4⟩ := put_shape (c := c) (linesB_srt k3) q2 h2 hc
  have e : putR p a c = ((p.1, p.2.1, putL a c p.2.2), 0) := by unfold putR; rw [if_pos h1, if_pos h2, if_pos h3, if_pos h4]
  have hpb : paperB (p.1, p.2.1, putL a c p.2.2) = true := by
    unfold paperB
    simp only [k1, inB_iff.2 k2, Bool.true_and]
    exact linesB_of s2 s3 h4
  rw [e]
  refine ⟨ok_paper hp (by omega) fun l hl => line_ok_lm (s3 l hl), hpb, ?_, s1⟩
  unfold putR
  rw [if_pos hpb, if_pos h2, if_pos h3]
  simp only [s4]
  rw [if_pos h4]
theorem cutR_zero {p : Pap} {a : ByteArray} (hp : OkPaper p) (h : (cutR p a).2 = 0) : OkPaper (cutR p a).1 ∧ paperB (cutR p a).1 = true ∧ (cutR (cutR p a).1 a).2 = 4 ∧ ((cutR p a).1.2.2.length : Int) = p.2.2.length - 1 := by
  unfold cutR at h
  split at h
  rotate_left
  · exact absurd h (by decide)
  rename_i h1
  split at h
  rotate_left
  · exact absurd h (by decide)
  rename_i h2
  split at h
  · exact absurd h (by decide)
  rename_i h3
  obtain ⟨k1, k2, k3⟩ := paperB_iff h1
  obtain ⟨q1, q2⟩ := linesB_ok k3
  have hs := linesB_srt k3
  have e : cutR p a = ((p.1, p.2.1, remL a p.2.2), 0) := by unfold cutR; rw [if_pos h1, if_pos h2, if_neg h3]
  rw [e]
  have hno : ∀ l ∈ remL a p.2.2, l.1 ≠ a := fun l hl => by
    unfold remL at hl
    have := (List.mem_filter.1 hl).2
    simpa using this
  have hsub : ∀ l ∈ remL a p.2.2, l ∈ p.2.2 := fun l hl => (List.mem_filter.1 hl).1
  have hsl : Srt (remL a p.2.2) := List.Pairwise.filter _ hs
  have hlen : ((remL a p.2.2).length : Int) = p.2.2.length - 1 := by
    rcases first_split (a := a) p.2.2 0 with ⟨q, y, r, e1, e2, e3, _⟩ | ⟨e1, _⟩
    · have hs' := hs
      rw [e1] at hs'
      obtain ⟨_, c2⟩ := srt_mid hs'
      rw [e1, rem_mid e2 e3 (fun l hl e => by have := c2 l hl; rw [e2, e, ltW_irr] at this; cases this)]
      simp; omega
    · exact absurd (cnt_none e1) h3
  have hpb : paperB (p.1, p.2.1, remL a p.2.2) = true := by
    unfold paperB
    simp only [k1, inB_iff.2 k2, Bool.true_and]
    exact linesB_of hsl (fun l hl => q2 l (hsub l hl)) (by omega)
  refine ⟨ok_paper hp (by omega) fun l hl => line_ok_lm (q2 l (hsub l hl)), hpb, ?_, hlen⟩
  unfold cutR
  rw [if_pos hpb, if_pos h2, if_pos (cnt_none hno)]
end Go.Pl

namespace Go.Pl
open Go.Ev
set_option linter.unusedVariables false
set_option linter.unusedSimpArgs false
abbrev Art : Type := ByteArray × Int × Int × Int × Int × Int × Int × Int × Int
def artB (a : Art) : Bool := wordB a.1 && inB a.2.1 0 3 && inB a.2.2.1 20 300 && inB a.2.2.2.1 0 10000 && inB a.2.2.2.2.1 0 a.2.2.2.1 && inB a.2.2.2.2.2.1 1 50 && inB a.2.2.2.2.2.2.1 0 10000 && inB a.2.2.2.2.2.2.2.1 1 100000 && inB a.2.2.2.2.2.2.2.2 0 3
theorem impl_IsArticle_f (a : Art) (h : Sz a.1) : impl_IsArticle.f a = some (artB a) := by
  unfold impl_IsArticle.f impl_IsArticle.fn impl_IsArticle.top artB
  simp only [impl_IsWord_f _ h, impl_within_f, Option.bind_some]
  cases wordB a.1
  · rfl
  cases inB a.2.1 0 3
  · rfl
  cases inB a.2.2.1 20 300
  · rfl
  cases inB a.2.2.2.1 0 10000
  · rfl
  cases inB a.2.2.2.2.1 0 a.2.2.2.1
  · rfl
  cases inB a.2.2.2.2.2.1 1 50
  · rfl
  cases inB a.2.2.2.2.2.2.1 0 10000
  · rfl
  cases inB a.2.2.2.2.2.2.2.1 1 100000
  · rfl
  · rfl
theorem spec_IsArticle_f (a : Art) (h : Sz a.1) : spec_IsArticle.f a = some (artB a) := by
  unfold spec_IsArticle.f spec_IsArticle.fn spec_IsArticle.top artB
  simp only [spec_IsWord_f _ h, spec_l01In_f, Option.bind_some]
  cases wordB a.1
  · rfl
  cases inB a.2.1 0 3
  · rfl
  cases inB a.2.2.1 20 300
  · rfl
  cases inB a.2.2.2.1 0 10000
  · rfl
  cases inB a.2.2.2.2.1 0 a.2.2.2.1
  · rfl
  cases inB a.2.2.2.2.2.1 1 50
  · rfl
  cases inB a.2.2.2.2.2.2.1 0 10000
  · rfl
  cases inB a.2.2.2.2.2.2.2.1 1 100000
  · rfl
  · rfl
/-- articles, looked at from the second on -/
def artsF : Art → List Art → Bool
  | _, [] => true
  | x, a :: r => artB a && ltS x.1 a.1 && artsF a r
def artsL : List Art → Bool
  | [] => true
  | a :: r => artB a && artsF a r
def artsB (xs : List Art) : Bool := decide (xs.length ≤ 12) && artsL xs
noncomputable def impl_arts_call (k : Nat) (xs : List Art) (i : Int) := impl_AreArticles.l4 NN k xs xs xs.length i
noncomputable def spec_arts_call (k : Nat) (xs : List Art) (i : Int) := spec_AreArticles.l2 NN k xs i
theorem impl_arts_loop : ∀ (r p : List Art) (x : Art) (k : Nat), p.length + r.length + 1 ≤ 140737488355328 → r.length < k → (∀ a ∈ r, Sz a.1) →
    impl_arts_call k (p ++ [x] ++ r) ((p.length : Int) + 1) = if artsF x r = true then some ((fun _ => true) (p ++ [x] ++ r)) else some false := by
  intro r
  induction r with
  | nil =>
    intro p x k _ hk _
    obtain ⟨k, rfl⟩ : ∃ j, k = j + 1 := ⟨k - 1, by omega⟩
    have n1 : ¬ (p.length : Int) + 1 < ((p ++ [x] ++ []).length : Int) := by simp
    simp only [impl_arts_call, impl_AreArticles.l4, impl_AreArticles.g4, n1, decide_false, Bool.false_eq_true, if_false, artsF, if_true]
  | cons a r ih =>
    intro p x k hb hk hz
    simp only [List.length_cons] at hb hk
    obtain ⟨k, rfl⟩ : ∃ j, k = j + 1 := ⟨k - 1, by omega⟩
    have hl : ((p ++ [x] ++ a :: r).length : Int) = p.length + r.length + 2 := by simp; omega
    have w1 := w64 (n := (p.length : Int) + 1 - 1) (by omega) (by omega)
    have w2 := w64 (n := (p.length : Int) + 1 + 1) (by omega) (by omega)
    have c1 : (p.length : Int) + 1 < ((p ++ [x] ++ a :: r).length : Int) := by omega
    have c2 : (0 : Int) ≤ (p.length : Int) + 1 - 1 := by omega
    have c3 : (p.length : Int) + 1 - 1 < ((p ++ [x] ++ a :: r).length : Int) := by omega
    have c4 : (0 : Int) ≤ (p.length : Int) + 1 := by omega
    have c5 : (0 : Int) < (p.length : Int) + 1 := by omega
    have g1 : ∀ z, (p ++ [x] ++ a :: r).getD ((p.length : Int) + 1).toNat z = a := fun z => by
      rw [show ((p.length : Int) + 1).toNat = (p ++ [x]).length by simp, mid_getn]
    have g2 : ∀ z, (p ++ [x] ++ a :: r).getD ((p.length : Int) + 1 - 1).toNat z = x := fun z => by
      rw [show ((p.length : Int) + 1 - 1).toNat = p.length by omega, snoc_getl']
    have i1 := ih (p ++ [x]) a k (by simp; omega) (by omega) (fun b hb => hz b (by simp [hb]))
    have e1 : (((p ++ [x]).length : Nat) : Int) + 1 = (p.length : Int) + 1 + 1 := by simp
    have e2 : p ++ [x] ++ [a] ++ r = p ++ [x] ++ a :: r := by simp
    rw [e1, e2] at i1
    simp only [impl_arts_call] at i1
    simp only [impl_arts_call, impl_AreArticles.l4, impl_AreArticles.g4, w1, w2, c1, c2, c3, c4, c5, g1, g2, and_self, decide_true, if_true, Option.bind_some, impl_IsArticle_f a (hz a (by simp)), artsF]
    rcases Bool.eq_false_or_eq_true (artB a) with h1 | h1
    · rcases Bool.eq_false_or_eq_true (ltS x.1 a.1) with h2 | h2
      · have h2' : Op.bytesLess x.1.toList a.1.toList = true := h2
        simp only [h1, h2, h2', Bool.not_true, Bool.false_eq_true, if_false, if_true, Bool.true_and, Bool.and_true]
        exact i1
      · have h2' : Op.bytesLess x.1.toList a.1.toList = false := h2
        simp [h1, h2, h2']
    · simp [h1]
theorem impl_arts_all (xs : List Art) (hb : xs.length ≤ 140737488355328) (hz : ∀ a ∈ xs, Sz a.1) : impl_arts_call NN xs 0 = if artsL xs = true then some ((fun _ => true) xs) else some false := by
  obtain ⟨k, hk⟩ : ∃ j, NN = j + 1 := ⟨NN - 1, by have := NNb; omega⟩
  have hkb : 1000000000000000 < k := by rw [NN_eq] at hk; omega
  unfold impl_arts_call
  rw [show impl_AreArticles.l4 NN NN = impl_AreArticles.l4 NN (k + 1) by rw [← hk]]
  cases xs with
  | nil =>
    have n1 : ¬ (0 : Int) < (([] : List Art).length : Int) := by simp
    simp only [impl_AreArticles.l4, impl_AreArticles.g4, n1, decide_false, Bool.false_eq_true, if_false, artsL, if_true]
  | cons a r =>
    simp only [List.length_cons] at hb
    have i1 := impl_arts_loop r [] a k (by simp; omega) (by omega) (fun b hb => hz b (by simp [hb]))
    simp only [impl_arts_call, List.nil_append, List.length_nil] at i1
    have n1 : (0 : Int) < ((a :: r).length : Int) := by simp only [List.length_cons]; omega
    have w2 := w64 (n := (0 : Int) + 1) (by omega) (by omega)
    have g1 : ∀ z, (a :: r).getD (0 : Int).toNat z = a := fun z => rfl
    simp only [impl_AreArticles.l4, impl_AreArticles.g4, n1, w2, g1, Int.le_refl, Int.lt_irrefl, and_self, decide_true, decide_false, if_true, Option.bind_some, impl_IsArticle_f a (hz a (by simp)), artsL]
    rcases Bool.eq_false_or_eq_true (artB a) with h1 | h1
    · simp only [h1, Bool.not_true, Bool.false_eq_true, if_false, if_true, Bool.true_and]
      exact i1
    · simp [h1]
theorem spec_arts_loop : ∀ (r p : List Art) (x : Art) (k : Nat), p.length + r.length + 1 ≤ 140737488355328 → r.length < k → (∀ a ∈ r, Sz a.1) →
    spec_arts_call k (p ++ [x] ++ r) ((p.length : Int) + 1) = if artsF x r = true then some ((fun xs : List Art => decide (((xs.length : Int) : Int) ≤ 12)) (p ++ [x] ++ r)) else some false := by
  intro r
  induction r with
  | nil =>
    intro p x k _ hk _
    obtain ⟨k, rfl⟩ : ∃ j, k = j + 1 := ⟨k - 1, by omega⟩
    have n1 : ¬ (p.length : Int) + 1 < ((p ++ [x] ++ []).length : Int) := by simp
    simp only [spec_arts_call, spec_AreArticles.l2, spec_AreArticles.g2, n1, decide_false, Bool.false_eq_true, if_false, artsF, if_true]
  | cons a r ih =>
    intro p x k hb hk hz
    simp only [List.length_cons] at hb hk
    obtain ⟨k, rfl⟩ : ∃ j, k = j + 1 := ⟨k - 1, by omega⟩
    have hl : ((p ++ [x] ++ a :: r).length : Int) = p.length + r.length + 2 := by simp; omega
    have w1 := w64 (n := (p.length : Int) + 1 - 1) (by omega) (by omega)
    have w2 := w64 (n := (p.length : Int) + 1 + 1) (by omega) (by omega)
    have c1 : (p.length : Int) + 1 < ((p ++ [x] ++ a :: r).length : Int) := by omega
    have c2 : (0 : Int) ≤ (p.length : Int) + 1 - 1 := by omega
    have c3 : (p.length : Int) + 1 - 1 < ((p ++ [x] ++ a :: r).length : Int) := by omega
    have c4 : (0 : Int) ≤ (p.length : Int) + 1 := by omega
    have c5 : (0 : Int) < (p.length : Int) + 1 := by omega
    have g1 : ∀ z, (p ++ [x] ++ a :: r).getD ((p.length : Int) + 1).toNat z = a := fun z => by
      rw [show ((p.length : Int) + 1).toNat = (p ++ [x]).length by simp, mid_getn]
    have g2 : ∀ z, (p ++ [x] ++ a :: r).getD ((p.length : Int) + 1 - 1).toNat z = x := fun z => by
      rw [show ((p.length : Int) + 1 - 1).toNat = p.length by omega, snoc_getl']
    have i1 := ih (p ++ [x]) a k (by simp; omega) (by omega) (fun b hb => hz b (by simp [hb]))
    have e1 : (((p ++ [x]).length : Nat) : Int) + 1 = (p.length : Int) + 1 + 1 := by simp
    have e2 : p ++ [x] ++ [a] ++ r = p ++ [x] ++ a :: r := by simp
    rw [e1, e2] at i1
    simp only [spec_arts_call] at i1
    simp only [spec_arts_call, spec_AreArticles.l2, spec_AreArticles.g2, w1, w2, c1, c2, c3, c4, c5, g1, g2, and_self, decide_true, if_true, Option.bind_some, spec_IsArticle_f a (hz a (by simp)), artsF]
    rcases Bool.eq_false_or_eq_true (artB a) with h1 | h1
    · rcases Bool.eq_false_or_eq_true (ltS x.1 a.1) with h2 | h2
      · have h2' : Op.bytesLess x.1.toList a.1.toList = true := h2
        simp only [h1, h2, h2', Bool.not_true, Bool.false_eq_true, if_false, if_true, Bool.true_and, Bool.and_true]
        exact i1
      · have h2' : Op.bytesLess x.1.toList a.1.toList = false := h2
        simp [h1, h2, h2']
    · simp [h1]
theorem spec_arts_all (xs : List Art) (hb : xs.length ≤ 140737488355328) (hz : ∀ a ∈ xs, Sz a.1) : spec_arts_call NN xs 0 = if artsL xs = true then some ((fun xs : List Art => decide (((xs.length : Int) : Int) ≤ 12)) xs) else some false := by
  obtain ⟨k, hk⟩ : ∃ j, NN = j + 1 := ⟨NN - 1, by have := NNb; omega⟩
  have hkb : 1000000000000000 < k := by rw [NN_eq] at hk; omega
  unfold spec_arts_call
  rw [show spec_AreArticles.l2 NN NN = spec_AreArticles.l2 NN (k + 1) by rw [← hk]]
  cases xs with
  | nil =>
    have n1 : ¬ (0 : Int) < (([] : List Art).length : Int) := by simp
    simp only [spec_AreArticles.l2, spec_AreArticles.g2, n1, decide_false, Bool.false_eq_true, if_false, artsL, if_true]
  | cons a r =>
    simp only [List.length_cons] at hb
    have i1 := spec_arts_loop r [] a k (by simp; omega) (by omega) (fun b hb => hz b (by simp [hb]))
    simp only [spec_arts_call, List.nil_append, List.length_nil] at i1
    have n1 : (0 : Int) < ((a :: r).length : Int) := by simp only [List.length_cons]; omega
    have w2 := w64 (n := (0 : Int) + 1) (by omega) (by omega)
    have g1 : ∀ z, (a :: r).getD (0 : Int).toNat z = a := fun z => rfl
    simp only [spec_AreArticles.l2, spec_AreArticles.g2, n1, w2, g1, Int.le_refl, Int.lt_irrefl, and_self, decide_true, decide_false, if_true, Option.bind_some, spec_IsArticle_f a (hz a (by simp)), artsL]
    rcases Bool.eq_false_or_eq_true (artB a) with h1 | h1
    · simp only [h1, Bool.not_true, Bool.false_eq_true, if_false, if_true, Bool.true_and]
      exact i1
    · simp [h1]
theorem impl_AreArticles_f (xs : List Art) (hb : xs.length ≤ 140737488355328) (hz : ∀ a ∈ xs, Sz a.1) : impl_AreArticles.f xs = some (artsB xs) := by
  unfold impl_AreArticles.f impl_AreArticles.fn impl_AreArticles.top artsB
  have := impl_arts_all xs hb hz
  unfold impl_arts_call at this
  by_cases h : (12 : Int) < (xs.length : Int)
  · have h2 : ¬ xs.length ≤ 12 := by omega
    simp only [h, h2, decide_true, decide_false, if_true, Bool.false_and]
  · have h2 : xs.length ≤ 12 := by omega
    simp only [h, h2, decide_true, decide_false, Bool.false_eq_true, if_false, Bool.true_and]
    rw [this]
    cases artsL xs <;> rfl
theorem spec_AreArticles_f (xs : List Art) (hb : xs.length ≤ 140737488355328) (hz : ∀ a ∈ xs, Sz a.1) : spec_AreArticles.f xs = some (artsB xs) := by
  unfold spec_AreArticles.f spec_AreArticles.fn spec_AreArticles.top artsB
  have := spec_arts_all xs hb hz
  unfold spec_arts_call at this
  rw [this]
  have e : decide (((xs.length : Int) : Int) ≤ 12) = decide (xs.length ≤ 12) := by
    by_cases h : xs.length ≤ 12
    · have : (xs.length : Int) ≤ 12 := by omega
      simp [h, this]
    · have : ¬ (xs.length : Int) ≤ 12 := by omega
      simp [h, this]
  simp only [e]
  cases artsL xs <;> simp
theorem artsF_ok : ∀ (r : List Art) (x : Art), artsF x r = true → ∀ a ∈ r, artB a = true := by
  intro r
  induction r with
  | nil => intro x _ a ha; cases ha
  | cons b r ih =>
    intro x h a ha
    simp only [artsF, Bool.and_eq_true] at h
    rcases List.mem_cons.1 ha with rfl | ha
    · exact h.1.1
    · exact ih b h.2 a ha
theorem artsB_ok {xs : List Art} (h : artsB xs = true) : xs.length ≤ 12 ∧ ∀ a ∈ xs, artB a = true := by
  unfold artsB at h
  simp only [Bool.and_eq_true, decide_eq_true_eq] at h
  refine ⟨h.1, ?_⟩
  cases xs with
  | nil => intro a ha; cases ha
  | cons b r =>
    intro a ha
    have h2 := h.2
    simp only [artsL, Bool.and_eq_true] at h2
    rcases List.mem_cons.1 ha with rfl | ha
    · exact h2.1
    · exact artsF_ok r b h2.2 a ha
theorem artB_iff {a : Art} (h : artB a = true) : wordB a.1 = true ∧ (0 ≤ a.2.1 ∧ a.2.1 ≤ 3) ∧ (20 ≤ a.2.2.1 ∧ a.2.2.1 ≤ 300) ∧ (1 ≤ a.2.2.2.2.2.2.2.1 ∧ a.2.2.2.2.2.2.2.1 ≤ 100000) ∧ (0 ≤ a.2.2.2.2.2.2.2.2 ∧ a.2.2.2.2.2.2.2.2 ≤ 3) := by
  unfold artB at h
  simp only [Bool.and_eq_true, inB_iff] at h
  exact ⟨h.1.1.1.1.1.1.1.1, h.1.1.1.1.1.1.1.2, h.1.1.1.1.1.1.2, h.1.2, h.2⟩
/-- the number of an article, or -1 -/
def artI (xs : List Art) (c : ByteArray) : Int := (firstOf (fun l : Art => decide (l.1 = c)) 0 xs).elim (-1) (fun x => (x.1 : Int))
theorem impl_articleOf_f (xs : List Art) (c : ByteArray) (h : xs.length ≤ 140737488355328) : impl_articleOf.f xs c = some (artI xs c) := by
  have := find_loop (E := fun _ => True) (fun l : Art => decide (l.1 = c)) (fun i _ => some (i : Int)) (fun _ => some (-1)) (fun k xs i => impl_articleOf.l2 NN k c xs xs.length i) ?_ ?_ xs (fun _ _ => trivial) (by omega) NN (NN_lt (by omega))
  · refine this.trans ?_
    unfold artI
    cases firstOf (fun l : Art => decide (l.1 = c)) 0 xs <;> rfl
  · intro k p
    simp [impl_articleOf.l2, impl_articleOf.g2]
  · intro k p l r _ c0 c1 c2 cw
    simp only [impl_articleOf.l2, impl_articleOf.g2, c0, c1, cw, and_self, and_true, true_and, decide_true, decide_false, if_true, if_false, mid_get, mid_set, mid_getn, mid_setn, bt_mid, Option.bind_some, Bool.not_true, Bool.not_false, Bool.false_eq_true, Bool.true_eq_false, beq_self_eq_true, bne_self_eq_false, Int.toNat_natCast, ba_beq]
theorem spec_l03Find_f (xs : List Art) (c : ByteArray) (h : xs.length ≤ 140737488355328) : spec_l03Find.f xs c = some (artI xs c) := by
  have := find_loop (E := fun _ => True) (fun l : Art => decide (l.1 = c)) (fun i _ => some (i : Int)) (fun _ => some (-1)) (fun k xs i => spec_l03Find.l2 NN k xs c i) ?_ ?_ xs (fun _ _ => trivial) (by omega) NN (NN_lt (by omega))
  · refine this.trans ?_
    unfold artI
    cases firstOf (fun l : Art => decide (l.1 = c)) 0 xs <;> rfl
  · intro k p
    simp [spec_l03Find.l2, spec_l03Find.g2]
  · intro k p l r _ c0 c1 c2 cw
    simp only [spec_l03Find.l2, spec_l03Find.g2, c0, c1, cw, and_self, and_true, true_and, decide_true, decide_false, if_true, if_false, mid_get, mid_set, mid_getn, mid_setn, bt_mid, Option.bind_some, Bool.not_true, Bool.not_false, Bool.false_eq_true, Bool.true_eq_false, beq_self_eq_true, bne_self_eq_false, Int.toNat_natCast, ba_beq]
theorem artI_bd (xs : List Art) (c : ByteArray) : artI xs c < (xs.length : Int) := by
  unfold artI
  cases h : firstOf (fun l : Art => decide (l.1 = c)) 0 xs with
  | none => simp only [Option.elim_none]; omega
  | some x =>
    have := firstOf_spec _ xs 0 x.1 x.2 h
    simp only [Option.elim_some]; omega
theorem firstOf_none {α : Type} (P : α → Bool) : ∀ (xs : List α) (i : Nat), firstOf P i xs = none → ∀ x ∈ xs, P x = false := by
  intro xs
  induction xs with
  | nil => intro i _ x hx; cases hx
  | cons a r ih =>
    intro i h x hx
    simp only [firstOf] at h
    split at h
    · cases h
    · rename_i hp
      rcases List.mem_cons.1 hx with rfl | hx
      · simpa using hp
      · exact ih _ h x hx
end Go.Pl

namespace Go.Pl
open Go.Ev
set_option linter.unusedVariables false
set_option linter.unusedSimpArgs false
theorem arts_sz {xs : List Art} (h : Lm OkArticle xs) : ∀ a ∈ xs, Sz a.1 := fun a ha => Nat.le_trans (h.2 a ha).1 (by omega)
def askL (xs : List Art) (ls : List (ByteArray × Int)) : Int := (firstOf (fun l : ByteArray × Int => decide (artI xs l.1 < 0)) 0 ls).elim 0 (fun _ => 4)
def askR (xs : List Art) (p : ByteArray × Int × List (ByteArray × Int)) : Int := if artsB xs = true then (if paperB p = true then askL xs p.2.2 else 1) else 1
theorem impl_paperAsked_f (xs : List Art) (p : ByteArray × Int × List (ByteArray × Int)) (h : Lm OkArticle xs) (hp : OkPaper p) : impl_paperAsked.f xs p = some (askR xs p) := by
  unfold impl_paperAsked.f impl_paperAsked.fn impl_paperAsked.top askR
  rw [impl_AreArticles_f xs (Nat.le_trans h.1 (by omega)) (arts_sz h), impl_IsPaper_f p hp]
  cases artsB xs
  · rfl
  cases hb : paperB p
  · rfl
  have hl := (linesB_ok (paperB_iff hb).2.2).1
  have hx : xs.length ≤ 140737488355328 := Nat.le_trans h.1 (by omega)
  simp only [Option.bind_some, Bool.not_true, Bool.false_eq_true, if_true, if_false]
  have := find_loop (E := fun _ => True) (fun l : ByteArray × Int => decide (artI xs l.1 < 0)) (fun _ _ => some (4 : Int)) (fun _ => some 0) (fun k ls i => impl_paperAsked.l4 NN k xs ls ls.length i) ?_ ?_ p.2.2 (fun _ _ => trivial) (by omega) NN (NN_lt (by omega))
  · refine this.trans ?_
    unfold askL
    cases firstOf (fun l : ByteArray × Int => decide (artI xs l.1 < 0)) 0 p.2.2 <;> rfl
  · intro k p
    simp [impl_paperAsked.l4, impl_paperAsked.g4]
  · intro k p l r _ c0 c1 c2 cw
    simp only [impl_paperAsked.l4, impl_paperAsked.g4, c0, c1, cw, and_self, and_true, true_and, decide_true, decide_false, if_true, if_false, mid_get, mid_set, mid_getn, mid_setn, bt_mid, Option.bind_some, Bool.not_true, Bool.not_false, Bool.false_eq_true, Bool.true_eq_false, beq_self_eq_true, bne_self_eq_false, Int.toNat_natCast, impl_articleOf_f xs _ hx]
theorem spec_l29True_f (xs : List Art) (p : ByteArray × Int × List (ByteArray × Int)) (h : Lm OkArticle xs) (hp : OkPaper p) : spec_l29True.f xs p = some (askR xs p) := by
  unfold spec_l29True.f spec_l29True.fn spec_l29True.top askR
  rw [spec_AreArticles_f xs (Nat.le_trans h.1 (by omega)) (arts_sz h), spec_IsPaper_f p hp]
  cases artsB xs
  · rfl
  cases hb : paperB p
  · rfl
  have hl := (linesB_ok (paperB_iff hb).2.2).1
  have hx : xs.length ≤ 140737488355328 := Nat.le_trans h.1 (by omega)
  obtain ⟨v, d, ls⟩ := p
  simp only [Option.bind_some, Bool.not_true, Bool.false_eq_true, if_true, if_false]
  have := find_loop (E := fun _ => True) (fun l : ByteArray × Int => decide (artI xs l.1 < 0)) (fun _ _ => some (4 : Int)) (fun _ => some 0) (fun k ls i => spec_l29True.l4 NN k xs i (v, d, ls)) ?_ ?_ ls (fun _ _ => trivial) (by simp only at hl; omega) NN (NN_lt (by simp only at hl; omega))
  · refine this.trans ?_
    unfold askL
    cases firstOf (fun l : ByteArray × Int => decide (artI xs l.1 < 0)) 0 ls <;> rfl
  · intro k p
    simp [spec_l29True.l4, spec_l29True.g4]
  · intro k p l r _ c0 c1 c2 cw
    simp only [spec_l29True.l4, spec_l29True.g4, c0, c1, cw, and_self, and_true, true_and, decide_true, decide_false, if_true, if_false, mid_get, mid_set, mid_getn, mid_setn, bt_mid, Option.bind_some, Bool.not_true, Bool.not_false, Bool.false_eq_true, Bool.true_eq_false, beq_self_eq_true, bne_self_eq_false, Int.toNat_natCast, spec_l03Find_f xs _ hx]
def netA (xs : List Art) (c : ByteArray) : Int := (xs.getD (artI xs c).toNat (ByteArray.empty, (0, (0, (0, (0, (0, (0, (0, 0))))))))).2.2.2.2.2.2.2.1
def netF (xs : List Art) (st : Int) (l : ByteArray × Int) : Int := st + netA xs l.1 * l.2
def netL (xs : List Art) (ls : List (ByteArray × Int)) : Int := ls.foldl (netF xs) 0
def NetE (xs : List Art) (l : ByteArray × Int) : Prop := 0 ≤ artI xs l.1 ∧ 1 ≤ l.2 ∧ l.2 ≤ 1000
theorem askR_zero {xs : List Art} {p : ByteArray × Int × List (ByteArray × Int)} (h : askR xs p = 0) : artsB xs = true ∧ paperB p = true ∧ ∀ l ∈ p.2.2, NetE xs l := by
  unfold askR at h
  by_cases h1 : artsB xs = true
  · rw [if_pos h1] at h
    by_cases h2 : paperB p = true
    · rw [if_pos h2] at h
      refine ⟨h1, h2, fun l hl => ?_⟩
      have hlo := lineOk_iff.1 ((linesB_ok (paperB_iff h2).2.2).2 l hl)
      unfold askL at h
      cases hf : firstOf (fun l : ByteArray × Int => decide (artI xs l.1 < 0)) 0 p.2.2 with
      | none =>
        have := firstOf_none _ _ _ hf l hl
        simp only [decide_eq_false_iff_not] at this
        exact ⟨by omega, hlo.2.1, hlo.2.2⟩
      | some x => rw [hf] at h; simp at h
    · rw [if_neg h2] at h; simp at h
  · rw [if_neg h1] at h; simp at h
theorem netA_bd {xs : List Art} (h : artsB xs = true) {c : ByteArray} (h0 : 0 ≤ artI xs c) : 1 ≤ netA xs c ∧ netA xs c ≤ 100000 := by
  have hb := artI_bd xs c
  have hm : xs.getD (artI xs c).toNat (ByteArray.empty, (0, (0, (0, (0, (0, (0, (0, 0)))))))) ∈ xs := by
    rw [List.getD_eq_getElem?_getD, List.getElem?_eq_getElem (by omega)]; exact List.getElem_mem _
  have := artB_iff ((artsB_ok h).2 _ hm)
  exact this.2.2.2.1
theorem netF_bd {xs : List Art} (h : artsB xs = true) {l : ByteArray × Int} (hl : NetE xs l) : 0 ≤ netA xs l.1 * l.2 ∧ netA xs l.1 * l.2 ≤ 100000000 := by
  have ha := netA_bd h hl.1
  have hl1 := hl.2.1
  have hl2 := hl.2.2
  refine ⟨Int.mul_nonneg (by omega) (by omega), ?_⟩
  have := Int.mul_le_mul ha.2 hl2 (by omega) (by omega)
  omega
noncomputable def impl_net_call (k : Nat) (xs : List Art) (p : ByteArray × Int × List (ByteArray × Int)) (i st : Int) := impl_NetOfPaper.l6 NN k xs st p.2.2 p.2.2.length i
noncomputable def spec_net_call (k : Nat) (xs : List Art) (p : ByteArray × Int × List (ByteArray × Int)) (i st : Int) := spec_NetOfPaper.l6 NN k xs st i p
theorem impl_net_l (xs : List Art) (v : ByteArray) (d : Int) (ls : List (ByteArray × Int)) (hx : xs.length ≤ 140737488355328) (h : artsB xs = true) (hl : ls.length ≤ 12) (he : ∀ l ∈ ls, NetE xs l) : impl_net_call NN xs (v, d, ls) 0 0 = some (netL xs ls, 0) := by
  have := (fold_fix (E := NetE xs) (fun p st => 0 ≤ st ∧ st ≤ 100000000 * (p.length : Int)) (fun _ => netF xs) (fun st => some (st, (0 : Int))) (fun k i st => impl_net_call k xs (v, d, ls) i st) ls ?_ ?_ 0 he ⟨by omega, by simp⟩ (by omega) NN (NN_lt (by omega))).2
  · rw [foldi_foldl] at this
    exact this
  · intro k st _
    simp [impl_net_call, impl_NetOfPaper.l6, impl_NetOfPaper.g6]
  · intro k p l r st hls hle hI c0 c1 c2 cw g
    have hb := netF_bd h hle
    have hp : p.length ≤ 12 := by omega
    have w1 := w64 (n := netA xs l.1 * l.2) (by omega) (by omega)
    have w2 := w64 (n := st + netA xs l.1 * l.2) (by omega) (by omega)
    refine ⟨⟨by unfold netF; omega, by unfold netF; simp only [List.length_append, List.length_singleton]; omega⟩, ?_⟩
    have hbd := artI_bd xs l.1
    have h0 := hle.1
    have e : (xs.getD (artI xs l.1).toNat (ByteArray.empty, (0, (0, (0, (0, (0, (0, (0, 0))))))))).2.2.2.2.2.2.2.1 = netA xs l.1 := rfl
    simp only [impl_net_call, impl_NetOfPaper.l6, impl_NetOfPaper.g6, c0, c1, cw, g, and_self, and_true, true_and, decide_true, decide_false, if_true, if_false, mid_get, mid_set, mid_getn, mid_setn, bt_mid, Option.bind_some, Bool.not_true, Bool.not_false, Bool.false_eq_true, Bool.true_eq_false, beq_self_eq_true, bne_self_eq_false, Int.toNat_natCast, impl_articleOf_f xs _ hx, h0, hbd, e, w1, w2]
    rfl
theorem spec_net_l (xs : List Art) (v : ByteArray) (d : Int) (ls : List (ByteArray × Int)) (hx : xs.length ≤ 140737488355328) (h : artsB xs = true) (hl : ls.length ≤ 12) (he : ∀ l ∈ ls, NetE xs l) : spec_net_call NN xs (v, d, ls) 0 0 = some (netL xs ls, 0) := by
  have := (fold_fix (E := NetE xs) (fun p st => 0 ≤ st ∧ st ≤ 100000000 * (p.length : Int)) (fun _ => netF xs) (fun st => some (st, (0 : Int))) (fun k i st => spec_net_call k xs (v, d, ls) i st) ls ?_ ?_ 0 he ⟨by omega, by simp⟩ (by omega) NN (NN_lt (by omega))).2
  · rw [foldi_foldl] at this
    exact this
  · intro k st _
    simp [spec_net_call, spec_NetOfPaper.l6, spec_NetOfPaper.g6]
  · intro k p l r st hls hle hI c0 c1 c2 cw g
    have hb := netF_bd h hle
    have hp : p.length ≤ 12 := by omega
    have w1 := w64 (n := netA xs l.1 * l.2) (by omega) (by omega)
    have w2 := w64 (n := st + netA xs l.1 * l.2) (by omega) (by omega)
    refine ⟨⟨by unfold netF; omega, by unfold netF; simp only [List.length_append, List.length_singleton]; omega⟩, ?_⟩
    have hbd := artI_bd xs l.1
    have h0 := hle.1
    have e : (xs.getD (artI xs l.1).toNat (ByteArray.empty, (0, (0, (0, (0, (0, (0, (0, 0))))))))).2.2.2.2.2.2.2.1 = netA xs l.1 := rfl
    simp only [spec_net_call, spec_NetOfPaper.l6, spec_NetOfPaper.g6, c0, c1, cw, g, and_self, and_true, true_and, decide_true, decide_false, if_true, if_false, mid_get, mid_set, mid_getn, mid_setn, bt_mid, Option.bind_some, Bool.not_true, Bool.not_false, Bool.false_eq_true, Bool.true_eq_false, beq_self_eq_true, bne_self_eq_false, Int.toNat_natCast, spec_l03Find_f xs _ hx, h0, hbd, e, w1, w2]
    rfl
theorem NetOfPaper_core (xs : List Art) (p : ByteArray × Int × List (ByteArray × Int)) (h : Lm OkArticle xs) (hp : OkPaper p) : ∃ w, spec_NetOfPaper.f xs p = some w ∧ impl_NetOfPaper.f xs p = some w ∧ True := by
  refine ⟨if askR xs p = 0 then (netL xs p.2.2, 0) else (0, askR xs p), ?_, ?_, trivial⟩
  · unfold spec_NetOfPaper.f spec_NetOfPaper.fn spec_NetOfPaper.top
    rw [spec_l29True_f xs p h hp]
    simp only [Option.bind_some]
    by_cases h0 : askR xs p = 0
    · obtain ⟨h1, h2, h3⟩ := askR_zero h0
      rw [if_neg (by rw [h0]; simp), if_pos h0]
      exact spec_net_l xs p.1 p.2.1 p.2.2 (Nat.le_trans h.1 (by omega)) h1 (linesB_ok (paperB_iff h2).2.2).1 h3
    · rw [if_pos (by simpa using h0), if_neg h0]
  · unfold impl_NetOfPaper.f impl_NetOfPaper.fn impl_NetOfPaper.top
    rw [impl_paperAsked_f xs p h hp]
    simp only [Option.bind_some]
    by_cases h0 : askR xs p = 0
    · obtain ⟨h1, h2, h3⟩ := askR_zero h0
      rw [if_neg (by rw [h0]; simp), if_pos h0]
      exact impl_net_l xs p.1 p.2.1 p.2.2 (Nat.le_trans h.1 (by omega)) h1 (linesB_ok (paperB_iff h2).2.2).1 h3
    · rw [if_pos (by simpa using h0), if_neg h0]
end Go.Pl

namespace Go.Pl
open Go.Ev
set_option linter.unusedVariables false
set_option linter.unusedSimpArgs false
def boxB (b : Int × Int) : Bool := inB b.1 1 1000000 && inB b.2 0 3
def boxesB (xs : List (Int × Int)) : Bool := decide (xs.length ≤ 7) && xs.all boxB
theorem impl_AreBoxes_f (xs : List (Int × Int)) (h : xs.length ≤ 1000000) : impl_AreBoxes.f xs = some (boxesB xs) := by
  unfold impl_AreBoxes.f impl_AreBoxes.fn impl_AreBoxes.top boxesB
  by_cases h8 : (7 : Int) < (xs.length : Int)
  · have : ¬ xs.length ≤ 7 := by omega
    simp [h8, this]
  have e8 : xs.length ≤ 7 := by omega
  simp only [h8, e8, and_self, and_true, true_and, decide_true, decide_false, if_true, if_false, mid_get, mid_set, mid_getn, mid_setn, bt_mid, Option.bind_some, Bool.not_true, Bool.not_false, Bool.false_eq_true, Bool.true_eq_false, beq_self_eq_true, bne_self_eq_false, Int.toNat_natCast]
  have := all_loop (E := fun _ => True) boxB (fun _ => some true) (fun k xs i => impl_AreBoxes.l4 NN k xs xs.length i) ?_ ?_ xs (fun _ _ => trivial) (by omega) NN (NN_lt (by omega))
  · refine this.trans ?_
    cases xs.all boxB <;> simp
  · intro k p
    simp [impl_AreBoxes.l4, impl_AreBoxes.g4]
  · intro k p a r _ c0 c1 cw
    simp only [impl_AreBoxes.l4, impl_AreBoxes.g4, c0, c1, cw, and_self, and_true, true_and, decide_true, decide_false, if_true, if_false, mid_get, mid_set, mid_getn, mid_setn, bt_mid, Option.bind_some, Bool.not_true, Bool.not_false, Bool.false_eq_true, Bool.true_eq_false, beq_self_eq_true, bne_self_eq_false, Int.toNat_natCast, impl_within_f, boxB]
    rcases Bool.eq_false_or_eq_true (inB a.1 1 1000000) with q1 | q1 <;> rcases Bool.eq_false_or_eq_true (inB a.2 0 3) with q2 | q2 <;> simp [q1, q2]
theorem spec_AreBoxes_f (xs : List (Int × Int)) (h : xs.length ≤ 1000000) : spec_AreBoxes.f xs = some (boxesB xs) := by
  unfold spec_AreBoxes.f spec_AreBoxes.fn spec_AreBoxes.top boxesB
  have := all_loop (E := fun _ => True) boxB (fun p => some (decide (((p.length : Int) : Int) ≤ 7))) (fun k xs i => spec_AreBoxes.l2 NN k xs i) ?_ ?_ xs (fun _ _ => trivial) (by omega) NN (NN_lt (by omega))
  · refine this.trans ?_
    have e : decide ((xs.length : Int) ≤ 7) = decide (xs.length ≤ 7) := by congr 1; exact propext (by omega)
    cases xs.all boxB <;> simp [e]
  · intro k p
    simp [spec_AreBoxes.l2, spec_AreBoxes.g2]
  · intro k p a r _ c0 c1 cw
    simp only [spec_AreBoxes.l2, spec_AreBoxes.g2, c0, c1, cw, and_self, and_true, true_and, decide_true, decide_false, if_true, if_false, mid_get, mid_set, mid_getn, mid_setn, bt_mid, Option.bind_some, Bool.not_true, Bool.not_false, Bool.false_eq_true, Bool.true_eq_false, beq_self_eq_true, bne_self_eq_false, Int.toNat_natCast, spec_l01In_f, boxB]
    rcases Bool.eq_false_or_eq_true (inB a.1 1 1000000) with q1 | q1 <;> rcases Bool.eq_false_or_eq_true (inB a.2 0 3) with q2 | q2 <;> simp [q1, q2]
def grpA (xs : List Art) (c : ByteArray) : Int := (xs.getD (artI xs c).toNat (ByteArray.empty, (0, (0, (0, (0, (0, (0, (0, 0))))))))).2.2.2.2.2.2.2.2
theorem grpA_bd {xs : List Art} (h : artsB xs = true) {c : ByteArray} (h0 : 0 ≤ artI xs c) : 0 ≤ grpA xs c ∧ grpA xs c ≤ 3 := by
  have hb := artI_bd xs c
  have hm : xs.getD (artI xs c).toNat (ByteArray.empty, (0, (0, (0, (0, (0, (0, (0, 0)))))))) ∈ xs := by
    rw [List.getD_eq_getElem?_getD, List.getElem?_eq_getElem (by omega)]; exact List.getElem_mem _
  exact (artB_iff ((artsB_ok h).2 _ hm)).2.2.2.2
def boxF (xs : List Art) (out : List (Int × Int)) (l : ByteArray × Int) : List (Int × Int) := out ++ [(netA xs l.1 * l.2, grpA xs l.1)]
def boxL (xs : List Art) (ls : List (ByteArray × Int)) : List (Int × Int) := ls.foldl (boxF xs) []
def boxE (out : List (Int × Int)) : List (Int × Int) × Int := if boxesB out = true then (out, 0) else ([], 3)
def BxI (p : List (ByteArray × Int)) (out : List (Int × Int)) : Prop := out.length = p.length ∧ ∀ b ∈ out, OkBox b
theorem room16b {n : Nat} (h : n ≤ 2000000) : n < room 16 := by rw [room16]; omega
noncomputable def impl_box_call (k : Nat) (xs : List Art) (p : ByteArray × Int × List (ByteArray × Int)) (i : Int) (out : List (Int × Int)) := impl_BoxesOf.l6 NN k xs p.2.2 p.2.2.length i out
noncomputable def spec_box_call (k : Nat) (xs : List Art) (p : ByteArray × Int × List (ByteArray × Int)) (i : Int) (out : List (Int × Int)) := spec_BoxesOf.l6 NN k xs i p out
theorem impl_box_l (xs : List Art) (v : ByteArray) (d : Int) (ls : List (ByteArray × Int)) (hx : xs.length ≤ 140737488355328) (h : artsB xs = true) (hl : ls.length ≤ 12) (he : ∀ l ∈ ls, NetE xs l) : BxI ls (boxL xs ls) ∧ impl_box_call NN xs (v, d, ls) 0 [] = some (boxE (boxL xs ls)) := by
  have := fold_fix (E := NetE xs) (fun p out => BxI p out) (fun _ => boxF xs) (fun out => some (boxE out)) (fun k i out => impl_box_call k xs (v, d, ls) i out) ls ?_ ?_ [] he ⟨rfl, by simp⟩ (by omega) NN (NN_lt (by omega))
  · rw [foldi_foldl] at this
    exact this
  · intro k out hI
    have := hI.1
    simp only [impl_box_call, impl_BoxesOf.l6, impl_BoxesOf.g6, Int.lt_irrefl, and_self, and_true, true_and, decide_true, decide_false, if_true, if_false, mid_get, mid_set, mid_getn, mid_setn, bt_mid, Option.bind_some, Bool.not_true, Bool.not_false, Bool.false_eq_true, Bool.true_eq_false, beq_self_eq_true, bne_self_eq_false, Int.toNat_natCast, impl_AreBoxes_f out (by omega)]
    unfold boxE
    cases boxesB out <;> rfl
  · intro k p l r out hls hle hI c0 c1 c2 cw g
    have hb := netF_bd h hle
    have hg := grpA_bd h hle.1
    have hp : p.length ≤ 12 := by omega
    have hol := hI.1
    have w1 := w64 (n := netA xs l.1 * l.2) (by omega) (by omega)
    refine ⟨⟨by unfold boxF; simp; omega, fun b hb' => ?_⟩, ?_⟩
    · unfold boxF at hb'
      rcases List.mem_append.1 hb' with h1 | h1
      · exact hI.2 b h1
      · rw [List.mem_singleton.1 h1]; exact ⟨wf64.2 (by simp only; omega), wf64.2 (by simp only; omega)⟩
    have hbd := artI_bd xs l.1
    have h0 := hle.1
    have e : (xs.getD (artI xs l.1).toNat (ByteArray.empty, (0, (0, (0, (0, (0, (0, (0, 0))))))))).2.2.2.2.2.2.2.1 = netA xs l.1 := rfl
    have e2 : (xs.getD (artI xs l.1).toNat (ByteArray.empty, (0, (0, (0, (0, (0, (0, (0, 0))))))))).2.2.2.2.2.2.2.2 = grpA xs l.1 := rfl
    have hr := room16b (n := out.length + [(netA xs l.1 * l.2, grpA xs l.1)].length) (by simp; omega)
    simp only [impl_box_call, impl_BoxesOf.l6, impl_BoxesOf.g6, c0, c1, cw, g, and_self, and_true, true_and, decide_true, decide_false, if_true, if_false, mid_get, mid_set, mid_getn, mid_setn, bt_mid, Option.bind_some, Bool.not_true, Bool.not_false, Bool.false_eq_true, Bool.true_eq_false, beq_self_eq_true, bne_self_eq_false, Int.toNat_natCast, impl_articleOf_f xs _ hx, h0, hbd, e, e2, w1, hr]
    rfl
theorem spec_box_l (xs : List Art) (v : ByteArray) (d : Int) (ls : List (ByteArray × Int)) (hx : xs.length ≤ 140737488355328) (h : artsB xs = true) (hl : ls.length ≤ 12) (he : ∀ l ∈ ls, NetE xs l) : BxI ls (boxL xs ls) ∧ spec_box_call NN xs (v, d, ls) 0 [] = some (boxE (boxL xs ls)) := by
  have := fold_fix (E := NetE xs) (fun p out => BxI p out) (fun _ => boxF xs) (fun out => some (boxE out)) (fun k i out => spec_box_call k xs (v, d, ls) i out) ls ?_ ?_ [] he ⟨rfl, by simp⟩ (by omega) NN (NN_lt (by omega))
  · rw [foldi_foldl] at this
    exact this
  · intro k out hI
    have := hI.1
    simp only [spec_box_call, spec_BoxesOf.l6, spec_BoxesOf.g6, Int.lt_irrefl, and_self, and_true, true_and, decide_true, decide_false, if_true, if_false, mid_get, mid_set, mid_getn, mid_setn, bt_mid, Option.bind_some, Bool.not_true, Bool.not_false, Bool.false_eq_true, Bool.true_eq_false, beq_self_eq_true, bne_self_eq_false, Int.toNat_natCast, spec_AreBoxes_f out (by omega)]
    unfold boxE
    cases boxesB out <;> rfl
  · intro k p l r out hls hle hI c0 c1 c2 cw g
    have hb := netF_bd h hle
    have hg := grpA_bd h hle.1
    have hp : p.length ≤ 12 := by omega
    have hol := hI.1
    have w1 := w64 (n := netA xs l.1 * l.2) (by omega) (by omega)
    refine ⟨⟨by unfold boxF; simp; omega, fun b hb' => ?_⟩, ?_⟩
    · unfold boxF at hb'
      rcases List.mem_append.1 hb' with h1 | h1
      · exact hI.2 b h1
      · rw [List.mem_singleton.1 h1]; exact ⟨wf64.2 (by simp only; omega), wf64.2 (by simp only; omega)⟩
    have hbd := artI_bd xs l.1
    have h0 := hle.1
    have e : (xs.getD (artI xs l.1).toNat (ByteArray.empty, (0, (0, (0, (0, (0, (0, (0, 0))))))))).2.2.2.2.2.2.2.1 = netA xs l.1 := rfl
    have e2 : (xs.getD (artI xs l.1).toNat (ByteArray.empty, (0, (0, (0, (0, (0, (0, (0, 0))))))))).2.2.2.2.2.2.2.2 = grpA xs l.1 := rfl
    have hr := room16b (n := out.length + [(netA xs l.1 * l.2, grpA xs l.1)].length) (by simp; omega)
    simp only [spec_box_call, spec_BoxesOf.l6, spec_BoxesOf.g6, c0, c1, cw, g, and_self, and_true, true_and, decide_true, decide_false, if_true, if_false, mid_get, mid_set, mid_getn, mid_setn, bt_mid, Option.bind_some, Bool.not_true, Bool.not_false, Bool.false_eq_true, Bool.true_eq_false, beq_self_eq_true, bne_self_eq_false, Int.toNat_natCast, spec_l03Find_f xs _ hx, h0, hbd, e, e2, w1, hr]
    rfl
def bxR (xs : List Art) (p : ByteArray × Int × List (ByteArray × Int)) : List (Int × Int) × Int := if askR xs p = 0 then boxE (boxL xs p.2.2) else ([], askR xs p)
theorem BoxesOf_both (xs : List Art) (p : ByteArray × Int × List (ByteArray × Int)) (h : Lm OkArticle xs) (hp : OkPaper p) : spec_BoxesOf.f xs p = some (bxR xs p) ∧ impl_BoxesOf.f xs p = some (bxR xs p) ∧ Lm OkBox (bxR xs p).1 := by
  have hz : Lm OkBox ([] : List (Int × Int)) := ⟨by simp, by simp⟩
  unfold spec_BoxesOf.f spec_BoxesOf.fn spec_BoxesOf.top impl_BoxesOf.f impl_BoxesOf.fn impl_BoxesOf.top bxR
  rw [spec_l29True_f xs p h hp, impl_paperAsked_f xs p h hp]
  simp only [Option.bind_some]
  by_cases h0 : askR xs p = 0
  · obtain ⟨h1, h2, h3⟩ := askR_zero h0
    have hl := (linesB_ok (paperB_iff h2).2.2).1
    have e1 := spec_box_l xs p.1 p.2.1 p.2.2 (Nat.le_trans h.1 (by omega)) h1 hl h3
    have e2 := impl_box_l xs p.1 p.2.1 p.2.2 (Nat.le_trans h.1 (by omega)) h1 hl h3
    have hb : (askR xs p != 0) = false := by rw [h0]; rfl
    rw [hb]
    simp only [Bool.false_eq_true, if_false, h0, if_true]
    refine ⟨e1.2, e2.2, ?_⟩
    unfold boxE
    split
    · exact ⟨by have := e1.1.1; simp only; omega, e1.1.2⟩
    · exact hz
  · have hb : (askR xs p != 0) = true := by simpa using h0
    rw [hb]
    simp only [h0, if_true, if_false]
    exact ⟨trivial, trivial, hz⟩
theorem BoxesOf_core (xs : List Art) (p : ByteArray × Int × List (ByteArray × Int)) (h : Lm OkArticle xs) (hp : OkPaper p) : ∃ w, spec_BoxesOf.f xs p = some w ∧ impl_BoxesOf.f xs p = some w ∧ Lm OkBox w.1 :=
  ⟨_, (BoxesOf_both xs p h hp).1, (BoxesOf_both xs p h hp).2.1, (BoxesOf_both xs p h hp).2.2⟩
end Go.Pl

namespace Go.Pl
open Go.Ev
set_option linter.unusedVariables false
noncomputable section
def impl_joinWith.g3 (L3 : ByteArray → ByteArray → List ByteArray → Int → Int → Option ByteArray) (between1 : ByteArray) (out5 : ByteArray) (v8 : List ByteArray) (v9 : Int) (v10 : Int) : Option ByteArray :=
  if (decide ((v10 : Int) < v9)) = true then
    if (0 : Int) ≤ v10 ∧ (v10 : Int) < v8.length then
      if (decide ((0 : Int) < v10)) = true then
        if out5.size + between1.size ≤ 9223372036854775807 then
          if (out5 ++ between1).size + (v8.getD (v10 : Int).toNat ByteArray.empty).size ≤ 9223372036854775807 then
            L3 between1 ((out5 ++ between1) ++ (v8.getD (v10 : Int).toNat ByteArray.empty)) v8 v9 (IntKind.i64.wrap (v10 + 1))
          else
            none
        else
          none
      else if out5.size + (v8.getD (v10 : Int).toNat ByteArray.empty).size ≤ 9223372036854775807 then
        L3 between1 (out5 ++ (v8.getD (v10 : Int).toNat ByteArray.empty)) v8 v9 (IntKind.i64.wrap (v10 + 1))
      else
        none
    else
      none
  else
    some out5
def impl_joinWith.l3 (n : Nat) : Nat → ByteArray → ByteArray → List ByteArray → Int → Int → Option ByteArray
  | 0 => fun _ _ _ _ _ => none
  | k + 1 => impl_joinWith.g3 (impl_joinWith.l3 n k)
def impl_joinWith.top (I3 : ByteArray → ByteArray → List ByteArray → Int → Int → Option ByteArray) (list0 : List ByteArray) (between1 : ByteArray) : Option ByteArray :=
  I3 between1 (⟨#[]⟩ : ByteArray) list0 (list0.length : Int) 0
def impl_joinWith.fn (n : Nat) (list0 : List ByteArray) (between1 : ByteArray) : Option ByteArray := impl_joinWith.top (impl_joinWith.l3 n n) list0 between1
def impl_joinWith.f (list0 : List ByteArray) (between1 : ByteArray) : Option ByteArray := impl_joinWith.fn NN list0 between1
end
end Go.Pl

namespace Go.Pl
open Go.Ev
set_option linter.unusedVariables false
noncomputable section
def spec_l01Words.g3 (L3 : List ByteArray → ByteArray → ByteArray → Int → Option ByteArray) (words0 : List ByteArray) (by1 : ByteArray) (out5 : ByteArray) (i6 : Int) : Option ByteArray :=
  if (decide ((i6 : Int) < (words0.length : Int))) = true then
    if (decide ((0 : Int) < i6)) = true then
      if out5.size + by1.size ≤ 9223372036854775807 then
        if (0 : Int) ≤ i6 ∧ (i6 : Int) < words0.length then
          if (out5 ++ by1).size + (words0.getD (i6 : Int).toNat ByteArray.empty).size ≤ 9223372036854775807 then
            L3 words0 by1 ((out5 ++ by1) ++ (words0.getD (i6 : Int).toNat ByteArray.empty)) (IntKind.i64.wrap (i6 + 1))
          else
            none
        else
          none
      else
        none
    else if (0 : Int) ≤ i6 ∧ (i6 : Int) < words0.length then
      if out5.size + (words0.getD (i6 : Int).toNat ByteArray.empty).size ≤ 9223372036854775807 then
        L3 words0 by1 (out5 ++ (words0.getD (i6 : Int).toNat ByteArray.empty)) (IntKind.i64.wrap (i6 + 1))
      else
        none
    else
      none
  else
    some out5
def spec_l01Words.l3 (n : Nat) : Nat → List ByteArray → ByteArray → ByteArray → Int → Option ByteArray
  | 0 => fun _ _ _ _ => none
  | k + 1 => spec_l01Words.g3 (spec_l01Words.l3 n k)
def spec_l01Words.top (I3 : List ByteArray → ByteArray → ByteArray → Int → Option ByteArray) (words0 : List ByteArray) (by1 : ByteArray) : Option ByteArray :=
  I3 words0 by1 (⟨#[]⟩ : ByteArray) 0
def spec_l01Words.fn (n : Nat) (words0 : List ByteArray) (by1 : ByteArray) : Option ByteArray := spec_l01Words.top (spec_l01Words.l3 n n) words0 by1
def spec_l01Words.f (words0 : List ByteArray) (by1 : ByteArray) : Option ByteArray := spec_l01Words.fn NN words0 by1
end
end Go.Pl

namespace Go.Pl
open Go.Ev
set_option linter.unusedVariables false
set_option linter.unusedSimpArgs false
def joinF (sep : ByteArray) (i : Nat) (out s : ByteArray) : ByteArray := if 0 < i then (out ++ sep) ++ s else out ++ s
def joinB (sep : ByteArray) (xs : List ByteArray) : ByteArray := foldi (joinF sep) 0 ⟨#[]⟩ xs
theorem impl_joinWith_f (xs : List ByteArray) (sep : ByteArray) (hx : ∀ s ∈ xs, s.size ≤ 1000000) (hl : xs.length ≤ 1000000) (hs : sep.size ≤ 1000000) : impl_joinWith.f xs sep = some (joinB sep xs) ∧ (joinB sep xs).size ≤ 2000000 * xs.length := by
  have := fold_fix (E := fun s : ByteArray => s.size ≤ 1000000) (fun p st => st.size ≤ 2000000 * p.length) (joinF sep) some (fun k i st => impl_joinWith.l3 NN k sep st xs xs.length i) xs ?_ ?_ (⟨#[]⟩ : ByteArray) hx (by simp; rfl) (by omega) NN (NN_lt (by omega))
  · exact ⟨this.2, this.1⟩
  · intro k st _
    simp [impl_joinWith.l3, impl_joinWith.g3]
  · intro k p b r st hxs hb hI c0 c1 c2 cw g
    have z1 : (st ++ sep).size = st.size + sep.size := ByteArray.size_append
    have z2 : (st ++ sep ++ b).size = st.size + sep.size + b.size := by rw [ByteArray.size_append, z1]
    have z3 : (st ++ b).size = st.size + b.size := ByteArray.size_append
    have hp : p.length ≤ 1000000 := by omega
    refine ⟨?_, ?_⟩
    · unfold joinF; rw [List.length_append, List.length_singleton]; split <;> omega
    · have d1 : st.size + sep.size ≤ 9223372036854775807 := by omega
      have d2 : (st ++ sep).size + b.size ≤ 9223372036854775807 := by omega
      have d3 : st.size + b.size ≤ 9223372036854775807 := by omega
      simp only [impl_joinWith.l3, impl_joinWith.g3, c0, c1, cw, and_self, and_true, true_and, decide_true, decide_false, if_true, if_false, mid_get, mid_set, mid_getn, mid_setn, bt_mid, Option.bind_some, Bool.not_true, Bool.not_false, Bool.false_eq_true, Bool.true_eq_false, beq_self_eq_true, bne_self_eq_false, Int.toNat_natCast, g, d1, d2, d3, decide_eq_true_eq]
      unfold joinF
      by_cases h : 0 < p.length
      · have : (0 : Int) < (p.length : Int) := by omega
        simp [h, this]
      · have : ¬ (0 : Int) < (p.length : Int) := by omega
        simp [h, this]
theorem spec_l01Words_f (xs : List ByteArray) (sep : ByteArray) (hx : ∀ s ∈ xs, s.size ≤ 1000000) (hl : xs.length ≤ 1000000) (hs : sep.size ≤ 1000000) : spec_l01Words.f xs sep = some (joinB sep xs) ∧ (joinB sep xs).size ≤ 2000000 * xs.length := by
  have := fold_fix (E := fun s : ByteArray => s.size ≤ 1000000) (fun p st => st.size ≤ 2000000 * p.length) (joinF sep) some (fun k i st => spec_l01Words.l3 NN k xs sep st i) xs ?_ ?_ (⟨#[]⟩ : ByteArray) hx (by simp; rfl) (by omega) NN (NN_lt (by omega))
  · exact ⟨this.2, this.1⟩
  · intro k st _
    simp [spec_l01Words.l3, spec_l01Words.g3]
  · intro k p b r st hxs hb hI c0 c1 c2 cw g
    have z1 : (st ++ sep).size = st.size + sep.size := ByteArray.size_append
    have z2 : (st ++ sep ++ b).size = st.size + sep.size + b.size := by rw [ByteArray.size_append, z1]
    have z3 : (st ++ b).size = st.size + b.size := ByteArray.size_append
    have hp : p.length ≤ 1000000 := by omega
    refine ⟨?_, ?_⟩
    · unfold joinF; rw [List.length_append, List.length_singleton]; split <;> omega
    · have d1 : st.size + sep.size ≤ 9223372036854775807 := by omega
      have d2 : (st ++ sep).size + b.size ≤ 9223372036854775807 := by omega
      have d3 : st.size + b.size ≤ 9223372036854775807 := by omega
      simp only [spec_l01Words.l3, spec_l01Words.g3, c0, c1, cw, and_self, and_true, true_and, decide_true, decide_false, if_true, if_false, mid_get, mid_set, mid_getn, mid_setn, bt_mid, Option.bind_some, Bool.not_true, Bool.not_false, Bool.false_eq_true, Bool.true_eq_false, beq_self_eq_true, bne_self_eq_false, Int.toNat_natCast, g, d1, d2, d3, decide_eq_true_eq]
      unfold joinF
      by_cases h : 0 < p.length
      · have : (0 : Int) < (p.length : Int) := by omega
        simp [h, this]
      · have : ¬ (0 : Int) < (p.length : Int) := by omega
        simp [h, this]
end Go.Pl

namespace Go.Pl
open Go.Ev
set_option linter.unusedVariables false
noncomputable section
def impl_splitAt.g4 (L4 : ByteArray → Int → Int → Int → List ByteArray → Option (List ByteArray)) (s0 : ByteArray) (b1 : Int) (from6 : Int) (i7 : Int) (out5 : List ByteArray) : Option (List ByteArray) :=
  if (decide ((i7 : Int) < (s0.size : Int))) = true then
    if (0 : Int) ≤ i7 ∧ (i7 : Int) < s0.size then
      if (((bt s0 i7) : Int) == b1) = true then
        if (0 : Int) ≤ from6 ∧ (from6 : Int) ≤ i7 ∧ (i7 : Int) ≤ s0.size then
          if out5.length + ([s0.extract (from6 : Int).toNat (i7 : Int).toNat]).length < room 16 then
            L4 s0 b1 (IntKind.i64.wrap (i7 + 1)) (IntKind.i64.wrap (i7 + 1)) (out5 ++ ([s0.extract (from6 : Int).toNat (i7 : Int).toNat]))
          else
            none
        else
          none
      else
        L4 s0 b1 from6 (IntKind.i64.wrap (i7 + 1)) out5
    else
      none
  else if (0 : Int) ≤ from6 ∧ (from6 : Int) ≤ s0.size then
    if out5.length + ([s0.extract (from6 : Int).toNat s0.size]).length < room 16 then
      some (out5 ++ ([s0.extract (from6 : Int).toNat s0.size]))
    else
      none
  else
    none
def impl_splitAt.l4 (n : Nat) : Nat → ByteArray → Int → Int → Int → List ByteArray → Option (List ByteArray)
  | 0 => fun _ _ _ _ _ => none
  | k + 1 => impl_splitAt.g4 (impl_splitAt.l4 n k)
def impl_splitAt.top (I4 : ByteArray → Int → Int → Int → List ByteArray → Option (List ByteArray)) (s0 : ByteArray) (b1 : Int) : Option (List ByteArray) :=
  I4 s0 b1 0 0 []
def impl_splitAt.fn (n : Nat) (s0 : ByteArray) (b1 : Int) : Option (List ByteArray) := impl_splitAt.top (impl_splitAt.l4 n n) s0 b1
def impl_splitAt.f (s0 : ByteArray) (b1 : Int) : Option (List ByteArray) := impl_splitAt.fn NN s0 b1
end
end Go.Pl

namespace Go.Pl
open Go.Ev
set_option linter.unusedVariables false
noncomputable section
def spec_l01Split.g4 (L4 : ByteArray → Int → Int → Int → List ByteArray → Option (List ByteArray)) (s0 : ByteArray) (by1 : Int) (from6 : Int) (i7 : Int) (out5 : List ByteArray) : Option (List ByteArray) :=
  if (decide ((i7 : Int) ≤ (s0.size : Int))) = true then
    if ((i7 : Int) == (s0.size : Int)) = false then
      if (0 : Int) ≤ i7 ∧ (i7 : Int) < s0.size then
        if (((bt s0 i7) : Int) == by1) = true then
          if (0 : Int) ≤ from6 ∧ (from6 : Int) ≤ i7 ∧ (i7 : Int) ≤ s0.size then
            if out5.length + ([s0.extract (from6 : Int).toNat (i7 : Int).toNat]).length < room 16 then
              L4 s0 by1 (IntKind.i64.wrap (i7 + 1)) (IntKind.i64.wrap (i7 + 1)) (out5 ++ ([s0.extract (from6 : Int).toNat (i7 : Int).toNat]))
            else
              none
          else
            none
        else
          L4 s0 by1 from6 (IntKind.i64.wrap (i7 + 1)) out5
      else
        none
    else if (0 : Int) ≤ from6 ∧ (from6 : Int) ≤ i7 ∧ (i7 : Int) ≤ s0.size then
      if out5.length + ([s0.extract (from6 : Int).toNat (i7 : Int).toNat]).length < room 16 then
        L4 s0 by1 (IntKind.i64.wrap (i7 + 1)) (IntKind.i64.wrap (i7 + 1)) (out5 ++ ([s0.extract (from6 : Int).toNat (i7 : Int).toNat]))
      else
        none
    else
      none
  else
    some out5
def spec_l01Split.l4 (n : Nat) : Nat → ByteArray → Int → Int → Int → List ByteArray → Option (List ByteArray)
  | 0 => fun _ _ _ _ _ => none
  | k + 1 => spec_l01Split.g4 (spec_l01Split.l4 n k)
def spec_l01Split.top (I4 : ByteArray → Int → Int → Int → List ByteArray → Option (List ByteArray)) (s0 : ByteArray) (by1 : Int) : Option (List ByteArray) :=
  I4 s0 by1 0 0 []
def spec_l01Split.fn (n : Nat) (s0 : ByteArray) (by1 : Int) : Option (List ByteArray) := spec_l01Split.top (spec_l01Split.l4 n n) s0 by1
def spec_l01Split.f (s0 : ByteArray) (by1 : Int) : Option (List ByteArray) := spec_l01Split.fn NN s0 by1
end
end Go.Pl

namespace Go.Pl
open Go.Ev
set_option linter.unusedVariables false
set_option linter.unusedSimpArgs false
def glue (p : List UInt8) : List (List UInt8) → List (List UInt8)
  | [] => [p]
  | x :: xs => (p ++ x) :: xs
def splitL (b : UInt8) : List UInt8 → List (List UInt8)
  | [] => [[]]
  | c :: r => if c = b then [] :: splitL b r else glue [c] (splitL b r)
def joinL (sep : List UInt8) : List (List UInt8) → List UInt8
  | [] => []
  | [x] => x
  | x :: y :: r => x ++ sep ++ joinL sep (y :: r)
theorem splitL_ne (b : UInt8) (l : List UInt8) : splitL b l ≠ [] := by
  cases l with
  | nil => simp [splitL]
  | cons c r => simp only [splitL]; split
                · simp
                · cases splitL b r <;> simp [glue]
theorem glue_nil {x : List (List UInt8)} (h : x ≠ []) : glue [] x = x := by
  cases x with
  | nil => exact absurd rfl h
  | cons => rfl
theorem glue_glue (p q : List UInt8) (x : List (List UInt8)) : glue p (glue q x) = glue (p ++ q) x := by
  cases x <;> simp [glue]
theorem joinL_glue (sep p : List UInt8) (x : List (List UInt8)) : joinL sep (glue p x) = p ++ joinL sep x := by
  cases x with
  | nil => simp [glue, joinL]
  | cons y ys => cases ys <;> simp [glue, joinL]
theorem joinL_cons (sep : List UInt8) (x : List UInt8) {r : List (List UInt8)} (h : r ≠ []) : joinL sep (x :: r) = x ++ sep ++ joinL sep r := by
  cases r with
  | nil => exact absurd rfl h
  | cons => rfl
theorem joinL_splitL (b : UInt8) (l : List UInt8) : joinL [b] (splitL b l) = l := by
  induction l with
  | nil => rfl
  | cons c r ih =>
    simp only [splitL]
    split
    · rename_i h; rw [joinL_cons _ _ (splitL_ne b r), ih, h]; rfl
    · rw [joinL_glue, ih]; rfl
theorem splitL_mem (b : UInt8) (l : List UInt8) : ∀ x ∈ splitL b l, b ∉ x := by
  induction l with
  | nil => simp [splitL]
  | cons c r ih =>
    simp only [splitL]
    split
    · intro x hx
      rcases List.mem_cons.mp hx with rfl | hx
      · simp
      · exact ih x hx
    · rename_i h
      intro x hx
      cases e : splitL b r with
      | nil => exact absurd e (splitL_ne b r)
      | cons y ys =>
        rw [e] at hx ih
        rcases List.mem_cons.mp hx with rfl | hx
        · have := ih y (by simp)
          simp only [List.cons_append, List.nil_append, List.mem_cons, not_or]
          exact ⟨fun e => h e.symm, this⟩
        · exact ih x (by simp [hx])
theorem splitL_app (b : UInt8) (p r : List UInt8) (h : b ∉ p) : splitL b (p ++ r) = glue p (splitL b r) := by
  induction p with
  | nil => rw [List.nil_append, glue_nil (splitL_ne b r)]
  | cons c p ih =>
    simp only [List.mem_cons, not_or] at h
    simp only [List.cons_append, splitL]
    rw [if_neg (fun e => h.1 e.symm), ih h.2, glue_glue]; rfl
theorem splitL_joinL (b : UInt8) (rows : List (List UInt8)) (h0 : rows ≠ []) (h : ∀ x ∈ rows, b ∉ x) : splitL b (joinL [b] rows) = rows := by
  induction rows with
  | nil => exact absurd rfl h0
  | cons x r ih =>
    cases r with
    | nil =>
      have := splitL_app b x [] (h x (by simp))
      simp only [List.append_nil] at this
      simp [joinL, this, splitL, glue]
    | cons y ys =>
      rw [joinL_cons _ _ (by simp), List.append_assoc, splitL_app b x _ (h x (by simp))]
      simp only [List.cons_append, List.nil_append, splitL, if_true]
      rw [ih (by simp) (fun z hz => h z (by simp [hz]))]
      simp [glue]
theorem splitL_length (b : UInt8) (l : List UInt8) : (splitL b l).length ≤ l.length + 1 := by
  induction l with
  | nil => simp [splitL]
  | cons c r ih =>
    simp only [splitL]
    split
    · simp; omega
    · cases e : splitL b r with
      | nil => simp [glue]
      | cons y ys => rw [e] at ih; simp [glue] at ih ⊢; omega
theorem ext_ob (s : ByteArray) (f i : Nat) : s.extract f i = ob (((bl s).take i).drop f) := by
  apply bl_inj; rw [bl_extract, bl_ob]
theorem room_small {α : Type} (out : List α) (x : α) (h : out.length ≤ 2000000) : out.length + [x].length < room 16 := by rw [room16]; simp; omega
theorem ext_mid (q t r : List UInt8) : (ob (q ++ t ++ r)).extract q.length (q ++ t).length = ob t := by
  rw [ob_extract, List.take_left' rfl, List.drop_left' rfl]
theorem impl_splitAt_l (b : UInt8) : ∀ (r q t : List UInt8) (out : List ByteArray) (k : Nat), (q ++ t).length + r.length ≤ 1000000 → r.length < k → out.length ≤ (q ++ t).length →
    impl_splitAt.l4 NN k (ob (q ++ t ++ r)) (b.toNat : Int) (q.length : Int) ((q ++ t).length : Int) out = some (out ++ (glue t (splitL b r)).map ob) := by
  intro r
  induction r with
  | nil =>
    intro q t out k hb hk ho
    obtain ⟨k, rfl⟩ : ∃ j, k = j + 1 := ⟨k - 1, by omega⟩
    have hb' : q.length + t.length ≤ 1000000 := by simpa using hb
    rw [List.append_nil]
    have c1 : ¬ ((q ++ t).length : Int) < ((ob (q ++ t)).size : Int) := by rw [ob_size]; omega
    have c2 : (0 : Int) ≤ (q.length : Int) := by omega
    have c3 : (q.length : Int) ≤ ((ob (q ++ t)).size : Int) := by rw [ob_size, List.length_append]; omega
    have e : (ob (q ++ t)).extract q.length (ob (q ++ t)).size = ob t := by
      have := ext_mid q t []
      rw [List.append_nil] at this
      rw [ob_size]; exact this
    simp only [impl_splitAt.l4, impl_splitAt.g4, c1, c2, c3, and_self, and_true, true_and, decide_true, decide_false, if_true, if_false, mid_get, mid_set, mid_getn, mid_setn, bt_mid, Option.bind_some, Bool.not_true, Bool.not_false, Bool.false_eq_true, Bool.true_eq_false, beq_self_eq_true, bne_self_eq_false, Int.toNat_natCast, e]
    rw [if_pos (room_small _ _ (by simp at ho; omega))]
    simp [splitL, glue]
  | cons c r ih =>
    intro q t out k hb hk ho
    simp only [List.length_cons] at hb hk
    obtain ⟨k, rfl⟩ : ∃ j, k = j + 1 := ⟨k - 1, by omega⟩
    have hm := mid_len (q ++ t) r c
    have c0 : (0 : Int) ≤ ((q ++ t).length : Int) := by omega
    have c1 : ((q ++ t).length : Int) < ((ob (q ++ t ++ c :: r)).size : Int) := by rw [ob_size]; omega
    have c2 : (0 : Int) ≤ (q.length : Int) := by omega
    have c3 : (q.length : Int) ≤ ((q ++ t).length : Int) := by rw [List.length_append]; omega
    have c4 : ((q ++ t).length : Int) ≤ ((ob (q ++ t ++ c :: r)).size : Int) := by rw [ob_size]; omega
    have cw := w64 (n := ((q ++ t).length : Int) + 1) (by omega) (by omega)
    simp only [impl_splitAt.l4, impl_splitAt.g4, c0, c1, c2, c3, c4, cw, and_self, and_true, true_and, decide_true, decide_false, if_true, if_false, mid_get, mid_set, mid_getn, mid_setn, bt_mid, Option.bind_some, Bool.not_true, Bool.not_false, Bool.false_eq_true, Bool.true_eq_false, beq_self_eq_true, bne_self_eq_false, Int.toNat_natCast]
    by_cases hc : c = b
    · subst hc
      simp only [and_self, and_true, true_and, decide_true, decide_false, if_true, if_false, mid_get, mid_set, mid_getn, mid_setn, bt_mid, Option.bind_some, Bool.not_true, Bool.not_false, Bool.false_eq_true, Bool.true_eq_false, beq_self_eq_true, bne_self_eq_false, Int.toNat_natCast]
      rw [if_pos (room_small _ _ (by rw [List.length_append] at ho hb; omega)), ext_mid]
      have := ih (q ++ t ++ [c]) [] (out ++ [ob t]) k (by simp at hb ⊢; omega) (by omega) (by simp at ho ⊢; omega)
      rw [List.append_nil, show (q ++ t ++ [c]) ++ r = q ++ t ++ c :: r by simp, snoc_len] at this
      rw [this, glue_nil (splitL_ne c r)]
      simp [splitL, glue]
    · have hne : (((c.toNat : Int)) == (b.toNat : Int)) = false := by
        rw [beq_eq_false_iff_ne]; intro e; exact hc (UInt8.toNat_inj.mp (by omega))
      simp only [hne, and_self, and_true, true_and, decide_true, decide_false, if_true, if_false, mid_get, mid_set, mid_getn, mid_setn, bt_mid, Option.bind_some, Bool.not_true, Bool.not_false, Bool.false_eq_true, Bool.true_eq_false, beq_self_eq_true, bne_self_eq_false, Int.toNat_natCast]
      have := ih q (t ++ [c]) out k (by simp at hb ⊢; omega) (by omega) (by simp at ho ⊢; omega)
      rw [show q ++ (t ++ [c]) ++ r = q ++ t ++ c :: r by simp, show ((q ++ (t ++ [c])).length : Int) = ((q ++ t).length : Int) + 1 by simp; omega] at this
      rw [this]
      simp only [splitL, if_neg hc, glue_glue]
theorem impl_splitAt_f (s : ByteArray) (b : UInt8) (hs : s.size ≤ 1000000) : impl_splitAt.f s (b.toNat : Int) = some ((splitL b (bl s)).map ob) := by
  have := impl_splitAt_l b (bl s) [] [] [] NN (by simp [bl_length]; exact hs) (by rw [bl_length]; exact NN_lt (by omega)) (by simp)
  unfold impl_splitAt.f impl_splitAt.fn impl_splitAt.top
  simp only [List.nil_append, ob_bl, List.length_nil] at this
  rw [glue_nil (splitL_ne _ _)] at this
  exact this
theorem spec_l01Split_l (b : UInt8) : ∀ (r q t : List UInt8) (out : List ByteArray) (k : Nat), (q ++ t).length + r.length ≤ 1000000 → r.length + 1 < k → out.length ≤ (q ++ t).length →
    spec_l01Split.l4 NN k (ob (q ++ t ++ r)) (b.toNat : Int) (q.length : Int) ((q ++ t).length : Int) out = some (out ++ (glue t (splitL b r)).map ob) := by
  intro r
  induction r with
  | nil =>
    intro q t out k hb hk ho
    obtain ⟨k, rfl⟩ : ∃ j, k = j + 1 + 1 := ⟨k - 2, by simp at hk; omega⟩
    have hb' : q.length + t.length ≤ 1000000 := by simpa using hb
    have c1 : ((q ++ t).length : Int) ≤ ((ob (q ++ t ++ [])).size : Int) := by rw [ob_size, List.append_nil]; omega
    have c1e : (((q ++ t).length : Int) == ((ob (q ++ t ++ [])).size : Int)) = true := by rw [ob_size, List.append_nil]; simp
    have c2 : (0 : Int) ≤ (q.length : Int) := by omega
    have c3 : (q.length : Int) ≤ ((q ++ t).length : Int) := by rw [List.length_append]; omega
    have cw := w64 (n := ((q ++ t).length : Int) + 1) (by omega) (by omega)
    have c4 : ¬ ((q ++ t).length : Int) + 1 ≤ ((ob (q ++ t ++ [])).size : Int) := by rw [ob_size, List.append_nil]; omega
    simp only [spec_l01Split.l4, spec_l01Split.g4, c1, c1e, c2, c3, c4, cw, and_self, and_true, true_and, decide_true, decide_false, if_true, if_false, mid_get, mid_set, mid_getn, mid_setn, bt_mid, Option.bind_some, Bool.not_true, Bool.not_false, Bool.false_eq_true, Bool.true_eq_false, beq_self_eq_true, bne_self_eq_false, Int.toNat_natCast, ext_mid]
    rw [if_pos (room_small _ _ (by simp at ho; omega))]
    simp [splitL, glue]
  | cons c r ih =>
    intro q t out k hb hk ho
    simp only [List.length_cons] at hb hk
    obtain ⟨k, rfl⟩ : ∃ j, k = j + 1 := ⟨k - 1, by omega⟩
    have hm := mid_len (q ++ t) r c
    have c0 : (0 : Int) ≤ ((q ++ t).length : Int) := by omega
    have c1 : ((q ++ t).length : Int) < ((ob (q ++ t ++ c :: r)).size : Int) := by rw [ob_size]; omega
    have c2 : (0 : Int) ≤ (q.length : Int) := by omega
    have c3 : (q.length : Int) ≤ ((q ++ t).length : Int) := by rw [List.length_append]; omega
    have c4 : ((q ++ t).length : Int) ≤ ((ob (q ++ t ++ c :: r)).size : Int) := by rw [ob_size]; omega
    have c5 : (((q ++ t).length : Int) == ((ob (q ++ t ++ c :: r)).size : Int)) = false := by rw [beq_eq_false_iff_ne]; omega
    have cw := w64 (n := ((q ++ t).length : Int) + 1) (by omega) (by omega)
    simp only [spec_l01Split.l4, spec_l01Split.g4, c0, c1, c2, c3, c4, c5, cw, and_self, and_true, true_and, decide_true, decide_false, if_true, if_false, mid_get, mid_set, mid_getn, mid_setn, bt_mid, Option.bind_some, Bool.not_true, Bool.not_false, Bool.false_eq_true, Bool.true_eq_false, beq_self_eq_true, bne_self_eq_false, Int.toNat_natCast]
    by_cases hc : c = b
    · subst hc
      simp only [and_self, and_true, true_and, decide_true, decide_false, if_true, if_false, mid_get, mid_set, mid_getn, mid_setn, bt_mid, Option.bind_some, Bool.not_true, Bool.not_false, Bool.false_eq_true, Bool.true_eq_false, beq_self_eq_true, bne_self_eq_false, Int.toNat_natCast]
      rw [if_pos (room_small _ _ (by rw [List.length_append] at ho hb; omega)), ext_mid]
      have := ih (q ++ t ++ [c]) [] (out ++ [ob t]) k (by simp at hb ⊢; omega) (by omega) (by simp at ho ⊢; omega)
      rw [List.append_nil, show (q ++ t ++ [c]) ++ r = q ++ t ++ c :: r by simp, snoc_len] at this
      rw [this, glue_nil (splitL_ne c r)]
      simp [splitL, glue]
    · have hne : (((c.toNat : Int)) == (b.toNat : Int)) = false := by
        rw [beq_eq_false_iff_ne]; intro e; exact hc (UInt8.toNat_inj.mp (by omega))
      simp only [hne, and_self, and_true, true_and, decide_true, decide_false, if_true, if_false, mid_get, mid_set, mid_getn, mid_setn, bt_mid, Option.bind_some, Bool.not_true, Bool.not_false, Bool.false_eq_true, Bool.true_eq_false, beq_self_eq_true, bne_self_eq_false, Int.toNat_natCast]
      have := ih q (t ++ [c]) out k (by simp at hb ⊢; omega) (by omega) (by simp at ho ⊢; omega)
      rw [show q ++ (t ++ [c]) ++ r = q ++ t ++ c :: r by simp, show ((q ++ (t ++ [c])).length : Int) = ((q ++ t).length : Int) + 1 by simp; omega] at this
      rw [this]
      simp only [splitL, if_neg hc, glue_glue]
theorem spec_l01Split_f (s : ByteArray) (b : UInt8) (hs : s.size ≤ 1000000) : spec_l01Split.f s (b.toNat : Int) = some ((splitL b (bl s)).map ob) := by
  have := spec_l01Split_l b (bl s) [] [] [] NN (by simp [bl_length]; exact hs) (by rw [bl_length]; exact NN_lt (by omega)) (by simp)
  unfold spec_l01Split.f spec_l01Split.fn spec_l01Split.top
  simp only [List.nil_append, ob_bl, List.length_nil] at this
  rw [glue_nil (splitL_ne _ _)] at this
  exact this
theorem splitL_size (b : UInt8) (l : List UInt8) : ∀ x ∈ splitL b l, x.length ≤ l.length := by
  induction l with
  | nil => simp [splitL]
  | cons c r ih =>
    simp only [splitL]
    split
    · intro x hx
      rcases List.mem_cons.1 hx with rfl | hx
      · simp
      · have := ih x hx; simp; omega
    · intro x hx
      cases e : splitL b r with
      | nil => exact absurd e (splitL_ne b r)
      | cons y ys =>
        rw [e] at hx ih
        rcases List.mem_cons.1 hx with rfl | hx
        · have := ih y (by simp); simp; omega
        · have := ih x (by simp [hx]); simp; omega
end Go.Pl

namespace Go.Pl
open Go.Ev
set_option linter.unusedVariables false
noncomputable section
def impl_decimal.g4 (S : Int → Option ByteArray) (L4 : Int → ByteArray → Option ByteArray) (n0 : Int) (text3 : ByteArray) : Option ByteArray :=
  if (bytesOf ([IntKind.u8.wrap (IntKind.i64.wrap (48 + (Int.tmod n0 10)))])).size + text3.size ≤ 9223372036854775807 then
    if (((IntKind.i64.wrap (Int.tdiv n0 10)) : Int) == 0) = true then
      some ((bytesOf ([IntKind.u8.wrap (IntKind.i64.wrap (48 + (Int.tmod n0 10)))])) ++ text3)
    else
      L4 (IntKind.i64.wrap (Int.tdiv n0 10)) ((bytesOf ([IntKind.u8.wrap (IntKind.i64.wrap (48 + (Int.tmod n0 10)))])) ++ text3)
  else
    none
def impl_decimal.l4 (S : Int → Option ByteArray) (n : Nat) : Nat → Int → ByteArray → Option ByteArray
  | 0 => fun _ _ => none
  | k + 1 => (impl_decimal.g4 S) ((impl_decimal.l4 S) n k)
def impl_decimal.top (S : Int → Option ByteArray) (I4 : Int → ByteArray → Option ByteArray) (n0 : Int) : Option ByteArray :=
  if (decide ((n0 : Int) < 0)) = true then
    (S (IntKind.i64.wrap (0 - n0))).bind fun r1 =>
    if (⟨#[45]⟩ : ByteArray).size + r1.size ≤ 9223372036854775807 then
      some ((⟨#[45]⟩ : ByteArray) ++ r1)
    else
      none
  else
    I4 n0 (⟨#[]⟩ : ByteArray)
def impl_decimal.fn (S : Int → Option ByteArray) (n : Nat) (n0 : Int) : Option ByteArray := (impl_decimal.top S) ((impl_decimal.l4 S) n n) n0
def impl_decimal.rc : Nat → Int → Option ByteArray
  | 0 => fun _ => none
  | k + 1 => (impl_decimal.fn (impl_decimal.rc k)) NN
def impl_decimal.f (n0 : Int) : Option ByteArray := impl_decimal.rc NN n0
end
end Go.Pl

namespace Go.Pl
open Go.Ev
set_option linter.unusedVariables false
noncomputable section
def spec_l01Dec.top (S : Int → Option ByteArray) (n0 : Int) : Option ByteArray :=
  if (decide ((n0 : Int) < 10)) = true then
    some (bytesOf ([IntKind.u8.wrap (IntKind.i64.wrap (48 + n0))]))
  else
    (S (IntKind.i64.wrap (Int.tdiv n0 10))).bind fun r1 =>
    if r1.size + (bytesOf ([IntKind.u8.wrap (IntKind.i64.wrap (48 + (Int.tmod n0 10)))])).size ≤ 9223372036854775807 then
      some (r1 ++ (bytesOf ([IntKind.u8.wrap (IntKind.i64.wrap (48 + (Int.tmod n0 10)))])))
    else
      none
def spec_l01Dec.fn (S : Int → Option ByteArray) (n : Nat) (n0 : Int) : Option ByteArray := (spec_l01Dec.top S) n0
def spec_l01Dec.rc : Nat → Int → Option ByteArray
  | 0 => fun _ => none
  | k + 1 => (spec_l01Dec.fn (spec_l01Dec.rc k)) NN
def spec_l01Dec.f (n0 : Int) : Option ByteArray := spec_l01Dec.rc NN n0
end
end Go.Pl

namespace Go.Pl
open Go.Ev
set_option linter.unusedVariables false
set_option linter.unusedSimpArgs false
def digs (n : Nat) : List UInt8 := if h : n < 10 then [UInt8.ofNat (48 + n)] else digs (n / 10) ++ [UInt8.ofNat (48 + n % 10)]
  termination_by n
  decreasing_by omega
theorem digs_small {n : Nat} (h : n < 10) : digs n = [UInt8.ofNat (48 + n)] := by rw [digs, dif_pos h]
theorem digs_big {n : Nat} (h : ¬ n < 10) : digs n = digs (n / 10) ++ [UInt8.ofNat (48 + n % 10)] := by rw [digs, dif_neg h]
theorem digs_len : ∀ (d n : Nat), n < 10 ^ (d + 1) → (digs n).length ≤ d + 1 ∧ 1 ≤ (digs n).length := by
  intro d
  induction d with
  | zero => intro n hn; rw [digs_small (by simpa using hn)]; simp
  | succ d ih =>
    intro n hn
    by_cases h : n < 10
    · rw [digs_small h]; simp
    · rw [digs_big h]
      have := ih (n / 10) (by rw [Nat.pow_succ] at hn; omega)
      simp; omega
def decB (n : Int) : ByteArray := ob (if n < 0 then 45 :: digs (-n).toNat else digs n.toNat)
theorem decB_nat (n : Nat) : decB (n : Int) = ob (digs n) := by unfold decB; rw [if_neg (by omega), Int.toNat_natCast]
theorem bytesOf_dig {x : Nat} (h : x < 10) : bytesOf [IntKind.u8.wrap (IntKind.i64.wrap (48 + (x : Int)))] = ob [UInt8.ofNat (48 + x)] := by
  rw [w64 (n := 48 + (x : Int)) (by omega) (by omega), w8 (by omega) (by omega), bytesOf_ob]
  simp only [List.map_cons, List.map_nil]
  rfl
theorem tmod10 (x : Nat) : Int.tmod (x : Int) 10 = ((x % 10 : Nat) : Int) := (Int.ofNat_tmod x 10).symm
theorem tdiv10 (x : Nat) : Int.tdiv (x : Int) 10 = ((x / 10 : Nat) : Int) := (Int.ofNat_tdiv x 10).symm
theorem p19 : (10 : Nat) ^ (18 + 1) = 10000000000000000000 := by decide
theorem impl_decimal_l (S : Int → Option ByteArray) : ∀ (d n : Nat), n < 10 ^ (d + 1) → n ≤ 1000000000000000000 → ∀ (acc : List UInt8) (k : Nat), acc.length + d ≤ 1000 → d < k → impl_decimal.l4 S NN k (n : Int) (ob acc) = some (ob (digs n ++ acc)) := by
  intro d
  induction d with
  | zero =>
    intro n hn _ acc k ha hk
    obtain ⟨k, rfl⟩ : ∃ j, k = j + 1 := ⟨k - 1, by omega⟩
    have hn' : n < 10 := by simpa using hn
    have e0 : (ob [UInt8.ofNat (48 + n % 10)]).size + (ob acc).size ≤ 9223372036854775807 := by rw [ob_size, ob_size]; simp; omega
    have ew := w64 (n := ((n / 10 : Nat) : Int)) (by omega) (by omega)
    have ez : (((n / 10 : Nat) : Int) == 0) = true := by rw [beq_iff_eq]; omega
    simp only [impl_decimal.l4, impl_decimal.g4, tdiv10, tmod10, bytesOf_dig (show n % 10 < 10 by omega), e0, ew, ez, if_true, ob_append]
    rw [digs_small hn', Nat.mod_eq_of_lt hn']
  | succ d ih =>
    intro n hn hm acc k ha hk
    obtain ⟨k, rfl⟩ : ∃ j, k = j + 1 := ⟨k - 1, by omega⟩
    have e0 : (ob [UInt8.ofNat (48 + n % 10)]).size + (ob acc).size ≤ 9223372036854775807 := by rw [ob_size, ob_size]; simp; omega
    have ew := w64 (n := ((n / 10 : Nat) : Int)) (by omega) (by omega)
    simp only [impl_decimal.l4, impl_decimal.g4, tdiv10, tmod10, bytesOf_dig (show n % 10 < 10 by omega), e0, ew, if_true, ob_append]
    by_cases h : n < 10
    · have ez : (((n / 10 : Nat) : Int) == 0) = true := by rw [beq_iff_eq]; omega
      rw [if_pos ez, digs_small h, Nat.mod_eq_of_lt h]
    · have ez : ¬ (((n / 10 : Nat) : Int) == 0) = true := by rw [beq_iff_eq]; omega
      have hn' : n / 10 < 10 ^ (d + 1) := by rw [Nat.pow_succ] at hn; omega
      rw [if_neg ez, ih (n / 10) hn' (by omega) _ k (by simp; omega) (by omega), digs_big h, List.append_assoc]
theorem impl_decimal_fn (S : Int → Option ByteArray) (m : Nat) (h : m ≤ 1000000000000000000) : impl_decimal.fn S NN m = some (decB m) := by
  unfold impl_decimal.fn impl_decimal.top
  have hl := impl_decimal_l S 18 m (by rw [p19]; omega) h [] NN (by simp) (NN_lt (by omega))
  rw [List.append_nil] at hl
  have hn : ¬ (m : Int) < 0 := by omega
  simp only [hn, decide_false, Bool.false_eq_true, if_false]
  rw [decB_nat]; exact hl
theorem NN_succ2 : ∃ j, NN = j + 1 + 1 := ⟨NN - 2, by have := NNb; omega⟩
theorem impl_decimal_f {n : Int} (h0 : -1000000000000000000 ≤ n) (h : n ≤ 1000000000000000000) : impl_decimal.f n = some (decB n) := by
  unfold impl_decimal.f
  obtain ⟨k, hk⟩ := NN_succ2
  rw [hk]
  show impl_decimal.fn (impl_decimal.rc (k + 1)) NN n = some (decB n)
  by_cases hn : 0 ≤ n
  · obtain ⟨m, rfl⟩ : ∃ m : Nat, n = m := ⟨n.toNat, by omega⟩
    exact impl_decimal_fn _ m (by omega)
  · obtain ⟨m, hm⟩ : ∃ m : Nat, -n = m := ⟨(-n).toNat, by omega⟩
    have hl := digs_len 18 m (by rw [p19]; omega)
    have hw : IntKind.i64.wrap (0 - n) = (m : Int) := by rw [w64 (by omega) (by omega)]; omega
    have hf := impl_decimal_fn (impl_decimal.rc k) m (by omega)
    have hlt : n < 0 := by omega
    show impl_decimal.top (impl_decimal.rc (k + 1)) (impl_decimal.l4 (impl_decimal.rc (k + 1)) NN NN) n = some (decB n)
    unfold impl_decimal.top
    simp only [hlt, decide_true, if_true, hw]
    rw [show impl_decimal.rc (k + 1) (m : Int) = impl_decimal.fn (impl_decimal.rc k) NN (m : Int) from rfl, hf]
    simp only [Option.bind_some]
    rw [decB_nat, if_pos (by rw [ob_size, show (⟨#[45]⟩ : ByteArray).size = 1 from rfl]; omega), show (⟨#[45]⟩ : ByteArray) = ob [45] from rfl, ob_append]
    unfold decB; rw [if_pos hlt, hm]; rfl
theorem spec_l01Dec_nat : ∀ (d n : Nat), d ≤ 20 → n < 10 ^ (d + 1) → n ≤ 1000000000000000000 → ∀ k, d < k → spec_l01Dec.rc k (n : Int) = some (ob (digs n)) := by
  intro d
  induction d with
  | zero =>
    intro n _ hn _ k hk
    obtain ⟨k, rfl⟩ : ∃ j, k = j + 1 := ⟨k - 1, by omega⟩
    have hn' : n < 10 := by simpa using hn
    have h1 : (n : Int) < 10 := by omega
    simp only [spec_l01Dec.rc, spec_l01Dec.fn, spec_l01Dec.top, h1, decide_true, if_true, bytesOf_dig hn', digs_small hn']
  | succ d ih =>
    intro n hd hn hm k hk
    obtain ⟨k, rfl⟩ : ∃ j, k = j + 1 := ⟨k - 1, by omega⟩
    by_cases h : n < 10
    · have h1 : (n : Int) < 10 := by omega
      simp only [spec_l01Dec.rc, spec_l01Dec.fn, spec_l01Dec.top, h1, decide_true, if_true, bytesOf_dig h, digs_small h]
    · have hn' : n / 10 < 10 ^ (d + 1) := by rw [Nat.pow_succ] at hn; omega
      have hl := digs_len d (n / 10) hn'
      have h1 : ¬ (n : Int) < 10 := by omega
      have ew := w64 (n := ((n / 10 : Nat) : Int)) (by omega) (by omega)
      have e0 : (ob (digs (n / 10))).size + (ob [UInt8.ofNat (48 + n % 10)]).size ≤ 9223372036854775807 := by rw [ob_size, ob_size]; simp; omega
      simp only [spec_l01Dec.rc, spec_l01Dec.fn, spec_l01Dec.top, h1, decide_false, Bool.false_eq_true, if_false, tdiv10, tmod10, ew, ih (n / 10) (by omega) hn' (by omega) k (by omega), Option.bind_some, bytesOf_dig (show n % 10 < 10 by omega), e0, if_true, ob_append, digs_big h]
theorem spec_l01Dec_f {n : Int} (h0 : 0 ≤ n) (h : n ≤ 1000000000000000000) : spec_l01Dec.f n = some (decB n) := by
  obtain ⟨m, rfl⟩ : ∃ m : Nat, n = m := ⟨n.toNat, by omega⟩
  rw [decB_nat]
  exact spec_l01Dec_nat 18 m (by omega) (by rw [p19]; omega) (by omega) NN (NN_lt (by omega))
theorem decB_size {n : Int} (h0 : -1000000000000000000 ≤ n) (h : n ≤ 1000000000000000000) : (decB n).size ≤ 20 := by
  have hl := digs_len 18 n.toNat (by rw [p19]; omega)
  have hl2 := digs_len 18 (-n).toNat (by rw [p19]; omega)
  unfold decB; rw [ob_size]; split
  · rw [List.length_cons]; omega
  · omega
end Go.Pl

namespace Go.Pl
open Go.Ev
set_option linter.unusedVariables false
noncomputable section
def impl_readDecimal.g8 (L8 : ByteArray → ByteArray → Int → Int → Option (Int × Bool)) (s0 : ByteArray) (digits4 : ByteArray) (n5 : Int) (i6 : Int) : Option (Int × Bool) :=
  if (decide ((i6 : Int) < (digits4.size : Int))) = true then
    if (0 : Int) ≤ i6 ∧ (i6 : Int) < digits4.size then
      if (decide (((bt digits4 i6) : Int) < 48)) = false then
        if (0 : Int) ≤ i6 ∧ (i6 : Int) < digits4.size then
          if (decide ((57 : Int) < (bt digits4 i6))) = true then
            some (0, false)
          else if (0 : Int) ≤ i6 ∧ (i6 : Int) < digits4.size then
            L8 s0 digits4 (IntKind.i64.wrap ((IntKind.i64.wrap (10 * n5)) + (IntKind.i64.wrap (IntKind.u8.wrap ((bt digits4 i6) - 48))))) (IntKind.i64.wrap (i6 + 1))
          else
            none
        else
          none
      else
        some (0, false)
    else
      none
  else if (decide (((digits4.size : Int) : Int) < (s0.size : Int))) = true then
    some (IntKind.i64.wrap (0 - n5), true)
  else
    some (n5, true)
def impl_readDecimal.l8 (n : Nat) : Nat → ByteArray → ByteArray → Int → Int → Option (Int × Bool)
  | 0 => fun _ _ _ _ => none
  | k + 1 => impl_readDecimal.g8 (impl_readDecimal.l8 n k)
def impl_readDecimal.top (I8 : ByteArray → ByteArray → Int → Int → Option (Int × Bool)) (s0 : ByteArray) : Option (Int × Bool) :=
  if (decide ((0 : Int) < (s0.size : Int))) = true then
    if (0 : Int) ≤ 0 ∧ (0 : Int) < s0.size then
      if (((bt s0 0) : Int) == 45) = true then
        if (0 : Int) ≤ 1 ∧ (1 : Int) ≤ s0.size then
          if ((((s0.extract (1 : Int).toNat s0.size).size : Int) : Int) == 0) = false then
            if (decide ((18 : Int) < ((s0.extract (1 : Int).toNat s0.size).size : Int))) = false then
              if (0 : Int) ≤ 0 ∧ (0 : Int) < (s0.extract (1 : Int).toNat s0.size).size then
                if (((bt (s0.extract (1 : Int).toNat s0.size) 0) : Int) == 48) = true then
                  if (decide ((1 : Int) < ((s0.extract (1 : Int).toNat s0.size).size : Int))) = false then
                    if (decide ((1 : Int) < (s0.size : Int))) = true then
                      some (0, false)
                    else
                      I8 s0 (s0.extract (1 : Int).toNat s0.size) 0 0
                  else
                    some (0, false)
                else
                  I8 s0 (s0.extract (1 : Int).toNat s0.size) 0 0
              else
                none
            else
              some (0, false)
          else
            some (0, false)
        else
          none
      else if (((s0.size : Int) : Int) == 0) = false then
        if (decide ((18 : Int) < (s0.size : Int))) = false then
          if (0 : Int) ≤ 0 ∧ (0 : Int) < s0.size then
            if (((bt s0 0) : Int) == 48) = true then
              if (decide ((1 : Int) < (s0.size : Int))) = false then
                if (decide ((1 : Int) < (s0.size : Int))) = true then
                  some (0, false)
                else
                  I8 s0 s0 0 0
              else
                some (0, false)
            else
              I8 s0 s0 0 0
          else
            none
        else
          some (0, false)
      else
        some (0, false)
    else
      none
  else if (((s0.size : Int) : Int) == 0) = false then
    if (decide ((18 : Int) < (s0.size : Int))) = false then
      if (0 : Int) ≤ 0 ∧ (0 : Int) < s0.size then
        if (((bt s0 0) : Int) == 48) = true then
          if (decide ((1 : Int) < (s0.size : Int))) = false then
            if (decide ((1 : Int) < (s0.size : Int))) = true then
              some (0, false)
            else
              I8 s0 s0 0 0
          else
            some (0, false)
        else
          I8 s0 s0 0 0
      else
        none
    else
      some (0, false)
  else
    some (0, false)
def impl_readDecimal.fn (n : Nat) (s0 : ByteArray) : Option (Int × Bool) := impl_readDecimal.top (impl_readDecimal.l8 n n) s0
def impl_readDecimal.f (s0 : ByteArray) : Option (Int × Bool) := impl_readDecimal.fn NN s0
end
end Go.Pl

namespace Go.Pl
open Go.Ev
set_option linter.unusedVariables false
noncomputable section
def spec_l01Value.g5 (L5 : ByteArray → Int → Int → Option (Int × Bool)) (s0 : ByteArray) (n4 : Int) (i5 : Int) : Option (Int × Bool) :=
  if (decide ((i5 : Int) < (s0.size : Int))) = true then
    if (0 : Int) ≤ i5 ∧ (i5 : Int) < s0.size then
      if (decide (((bt s0 i5) : Int) < 48)) = false then
        if (0 : Int) ≤ i5 ∧ (i5 : Int) < s0.size then
          if (decide ((57 : Int) < (bt s0 i5))) = true then
            some (0, false)
          else if (0 : Int) ≤ i5 ∧ (i5 : Int) < s0.size then
            L5 s0 (IntKind.i64.wrap ((IntKind.i64.wrap (10 * n4)) + (IntKind.i64.wrap (IntKind.u8.wrap ((bt s0 i5) - 48))))) (IntKind.i64.wrap (i5 + 1))
          else
            none
        else
          none
      else
        some (0, false)
    else
      none
  else
    (spec_l01Dec.f n4).bind fun r1 =>
    some (n4, r1.toList == s0.toList)
def spec_l01Value.l5 (n : Nat) : Nat → ByteArray → Int → Int → Option (Int × Bool)
  | 0 => fun _ _ _ => none
  | k + 1 => spec_l01Value.g5 (spec_l01Value.l5 n k)
def spec_l01Value.top (I5 : ByteArray → Int → Int → Option (Int × Bool)) (s0 : ByteArray) : Option (Int × Bool) :=
  if (decide (((s0.size : Int) : Int) < 1)) = false then
    if (decide ((13 : Int) < (s0.size : Int))) = true then
      some (0, false)
    else
      I5 s0 0 0
  else
    some (0, false)
def spec_l01Value.fn (n : Nat) (s0 : ByteArray) : Option (Int × Bool) := spec_l01Value.top (spec_l01Value.l5 n n) s0
def spec_l01Value.f (s0 : ByteArray) : Option (Int × Bool) := spec_l01Value.fn NN s0
end
end Go.Pl

namespace Go.Pl
open Go.Ev
set_option linter.unusedVariables false
set_option linter.unusedSimpArgs false
def isDig (c : UInt8) : Bool := decide (48 ≤ (c.toNat : Int) ∧ (c.toNat : Int) ≤ 57)
def valL : List UInt8 → Nat → Nat
  | [], a => a
  | c :: r, a => valL r (10 * a + (c.toNat - 48))
theorem head_app {α : Type} {p r : List α} (h : p ≠ []) : (p ++ r).head? = p.head? := by
  cases p with
  | nil => exact absurd rfl h
  | cons => rfl
theorem isDig_iff {c : UInt8} : isDig c = true ↔ 48 ≤ c.toNat ∧ c.toNat ≤ 57 := by unfold isDig; rw [decide_eq_true_eq]; omega
theorem valL_append (l r : List UInt8) (a : Nat) : valL (l ++ r) a = valL r (valL l a) := by
  induction l generalizing a with
  | nil => rfl
  | cons c l ih => simp only [List.cons_append, valL]; exact ih _
theorem valL_lt : ∀ (l : List UInt8) (a : Nat), (∀ c ∈ l, isDig c = true) → valL l a < (a + 1) * 10 ^ l.length := by
  intro l
  induction l with
  | nil => intro a _; simp [valL]
  | cons c r ih =>
    intro a h
    have hc := isDig_iff.1 (h c (by simp))
    have := ih (10 * a + (c.toNat - 48)) (fun x hx => h x (by simp [hx]))
    simp only [valL, List.length_cons]
    have h2 : (10 * a + (c.toNat - 48) + 1) * 10 ^ r.length ≤ ((a + 1) * 10) * 10 ^ r.length := Nat.mul_le_mul_right _ (by omega)
    have h3 : ((a + 1) * 10) * 10 ^ r.length = (a + 1) * 10 ^ (r.length + 1) := by rw [Nat.mul_assoc, ← Nat.pow_succ']
    omega
theorem digs_digits (n : Nat) : ∀ c ∈ digs n, isDig c = true := by
  induction n using Nat.strongRecOn with
  | _ n ih =>
    by_cases h : n < 10
    · rw [digs_small h]
      intro c hc
      rw [List.mem_singleton] at hc
      subst hc
      rw [isDig_iff, UInt8.toNat_ofNat']; omega
    · rw [digs_big h]
      intro c hc
      rcases List.mem_append.1 hc with hc | hc
      · exact ih (n / 10) (by omega) c hc
      · rw [List.mem_singleton] at hc
        subst hc
        rw [isDig_iff, UInt8.toNat_ofNat']; omega
theorem digs_val (n : Nat) : valL (digs n) 0 = n := by
  induction n using Nat.strongRecOn with
  | _ n ih =>
    by_cases h : n < 10
    · rw [digs_small h]; simp only [valL]; rw [UInt8.toNat_ofNat']; omega
    · rw [digs_big h, valL_append, ih (n / 10) (by omega)]
      simp only [valL]; rw [UInt8.toNat_ofNat']; omega
theorem digs_ne (n : Nat) : digs n ≠ [] := by
  by_cases h : n < 10
  · rw [digs_small h]; simp
  · rw [digs_big h]; simp
theorem digs_head {n : Nat} (h : n ≠ 0) : ∀ c, (digs n).head? = some c → c ≠ 48 := by
  induction n using Nat.strongRecOn with
  | _ n ih =>
    by_cases hn : n < 10
    · rw [digs_small hn]
      intro c hc
      simp only [List.head?_cons, Option.some.injEq] at hc
      subst hc
      intro e
      have := congrArg UInt8.toNat e
      rw [UInt8.toNat_ofNat'] at this
      have e2 : (48 : UInt8).toNat = 48 := rfl
      omega
    · rw [digs_big hn]
      intro c hc
      have h1 := digs_ne (n / 10)
      rw [head_app h1] at hc
      exact ih (n / 10) (by omega) (by omega) c hc
/-- a number's text is the only one without superfluous zeros -/
theorem digs_valL : ∀ (l : List UInt8), l ≠ [] → (∀ c ∈ l, isDig c = true) → (l.length = 1 ∨ l.head? ≠ some 48) → digs (valL l 0) = l := by
  have key : ∀ (k : Nat) (l : List UInt8), l.length = k → l ≠ [] → (∀ c ∈ l, isDig c = true) → (l.length = 1 ∨ l.head? ≠ some 48) → digs (valL l 0) = l := by
    intro k
    induction k with
    | zero => intro l hl hne; exact absurd (List.length_eq_zero_iff.1 hl) hne
    | succ k ih =>
      intro l hl hne hd hz
      obtain ⟨p, c, rfl⟩ : ∃ p c, l = p ++ [c] := ⟨l.dropLast, l.getLast hne, (List.dropLast_concat_getLast hne).symm⟩
      have hc := isDig_iff.1 (hd c (by simp))
      have ec : UInt8.ofNat (48 + (c.toNat - 48)) = c := by
        apply UInt8.toNat_inj.1; rw [UInt8.toNat_ofNat']; omega
      simp only [List.length_append, List.length_cons, List.length_nil] at hl
      rw [valL_append]
      simp only [valL]
      by_cases hp : p = []
      · subst hp
        simp only [valL, List.nil_append]
        rw [Nat.mul_zero, Nat.zero_add, digs_small (by omega), ec]
      · have hpl : p.length ≠ 0 := fun e => hp (List.length_eq_zero_iff.1 e)
        have hp0 : p.head? ≠ some 48 := by
          rcases hz with hz | hz
          · rw [List.length_append, List.length_cons, List.length_nil] at hz; omega
          · rw [head_app hp] at hz; exact hz
        have ihp := ih p (by omega) hp (fun x hx => hd x (by simp [hx])) (.inr hp0)
        have hv : valL p 0 ≠ 0 := by
          intro e
          rw [e] at ihp
          rw [digs_small (by omega)] at ihp
          rw [← ihp] at hp0
          exact hp0 rfl
        rw [digs_big (by omega), show (10 * valL p 0 + (c.toNat - 48)) / 10 = valL p 0 by omega, ihp, show (10 * valL p 0 + (c.toNat - 48)) % 10 = c.toNat - 48 by omega, ec]
  intro l
  exact key l.length l rfl

theorem u8_sub48 {c : UInt8} (h : isDig c = true) : IntKind.i64.wrap (IntKind.u8.wrap ((c.toNat : Int) - 48)) = ((c.toNat - 48 : Nat) : Int) := by
  have := isDig_iff.1 h
  rw [w8 (by omega) (by omega), w64 (by omega) (by omega)]; omega
theorem p18 : (10 : Nat) ^ 18 = 1000000000000000000 := by decide
theorem pow_le18 {a : Nat} (h : a ≤ 18) : (10 : Nat) ^ a ≤ 1000000000000000000 := by
  have := Nat.pow_le_pow_right (n := 10) (by omega) h
  rw [p18] at this; exact this
theorem impl_readDecimal_l (s : ByteArray) : ∀ (r p : List UInt8) (a k : Nat), p.length + r.length ≤ 18 → r.length < k → a < 10 ^ p.length →
    impl_readDecimal.l8 NN k s (ob (p ++ r)) (a : Int) (p.length : Int) = if r.all isDig = true then (if (((p ++ r).length : Nat) : Int) < (s.size : Int) then some (-((valL r a : Nat) : Int), true) else some (((valL r a : Nat) : Int), true)) else some (0, false) := by
  intro r
  induction r with
  | nil =>
    intro p a k hb hk ha
    obtain ⟨k, rfl⟩ : ∃ j, k = j + 1 := ⟨k - 1, by omega⟩
    have h18 := pow_le18 (a := p.length) (by simpa using hb)
    rw [List.append_nil]
    have c1 : ¬ (p.length : Int) < (p.length : Int) := by omega
    have cw := w64 (n := 0 - (a : Int)) (by omega) (by omega)
    simp only [impl_readDecimal.l8, impl_readDecimal.g8, ob_size, c1, cw, and_self, and_true, true_and, decide_true, decide_false, if_true, if_false, mid_get, mid_set, mid_getn, mid_setn, bt_mid, Option.bind_some, Bool.not_true, Bool.not_false, Bool.false_eq_true, Bool.true_eq_false, beq_self_eq_true, bne_self_eq_false, Int.toNat_natCast, decide_eq_true_eq, List.all_nil, valL]
    rw [show 0 - (a : Int) = -(a : Int) by omega]
  | cons c r ih =>
    intro p a k hb hk ha
    simp only [List.length_cons] at hb hk
    obtain ⟨k, rfl⟩ : ∃ j, k = j + 1 := ⟨k - 1, by omega⟩
    have h17 : (10 : Nat) ^ p.length ≤ 10 ^ 17 := Nat.pow_le_pow_right (by omega) (by omega)
    have e17 : (10 : Nat) ^ 17 = 100000000000000000 := by decide
    have c0 : (0 : Int) ≤ (p.length : Int) := by omega
    have hm := mid_len p r c
    have c1 : (p.length : Int) < ((ob (p ++ c :: r)).size : Int) := by rw [ob_size]; omega
    have cw := w64 (n := (p.length : Int) + 1) (by omega) (by omega)
    simp only [impl_readDecimal.l8, impl_readDecimal.g8, c0, c1, cw, and_self, and_true, true_and, decide_true, decide_false, if_true, if_false, mid_get, mid_set, mid_getn, mid_setn, bt_mid, Option.bind_some, Bool.not_true, Bool.not_false, Bool.false_eq_true, Bool.true_eq_false, beq_self_eq_true, bne_self_eq_false, Int.toNat_natCast, List.all_cons]
    by_cases hd : isDig c = true
    · have h2 := isDig_iff.1 hd
      have n1 : ¬ (c.toNat : Int) < 48 := by omega
      have n2 : ¬ (57 : Int) < (c.toNat : Int) := by omega
      have e1 := w64 (n := 10 * (a : Int)) (by omega) (by omega)
      have e2 := w64 (n := 10 * (a : Int) + ((c.toNat - 48 : Nat) : Int)) (by omega) (by omega)
      have := ih (p ++ [c]) (10 * a + (c.toNat - 48)) k (by simp; omega) (by omega) (by rw [List.length_append, List.length_singleton, Nat.pow_succ]; omega)
      rw [mid_snoc, snoc_len, show ((10 * a + (c.toNat - 48) : Nat) : Int) = 10 * (a : Int) + ((c.toNat - 48 : Nat) : Int) by omega] at this
      simp only [n1, n2, and_self, and_true, true_and, decide_true, decide_false, if_true, if_false, mid_get, mid_set, mid_getn, mid_setn, bt_mid, Option.bind_some, Bool.not_true, Bool.not_false, Bool.false_eq_true, Bool.true_eq_false, beq_self_eq_true, bne_self_eq_false, Int.toNat_natCast, u8_sub48 hd, e1, e2, hd, this, valL]
      rfl
    · have hd' : isDig c = false := by simpa using hd
      by_cases h1 : (c.toNat : Int) < 48
      · simp [h1, hd']
      · have h3 : (57 : Int) < (c.toNat : Int) := by
          have : ¬ (48 ≤ c.toNat ∧ c.toNat ≤ 57) := fun e => hd (isDig_iff.2 e)
          omega
        simp [h1, h3, hd']
/-- A text's number: its digits, and whether a sign stands ahead. -/
def okDigs (l : List UInt8) (m : Nat) (neg : Bool) : Bool := decide (l ≠ [] ∧ l.length ≤ m ∧ (l.head? ≠ some 48 ∨ (l.length = 1 ∧ neg = false))) && l.all isDig
theorem okDigs_long {l : List UInt8} {m : Nat} {neg : Bool} (h : m < l.length) : okDigs l m neg = false := by
  unfold okDigs
  rw [decide_eq_false (fun h' => by have := h'.2.1; omega), Bool.false_and]
theorem okDigs_short {c : UInt8} {r : List UInt8} {m : Nat} {neg : Bool} (h : (c :: r).length ≤ m) : okDigs (c :: r) m neg = ((decide (c ≠ 48) || (decide (r = []) && !neg)) && (c :: r).all isDig) := by
  unfold okDigs
  congr 1
  rw [Bool.eq_iff_iff]
  simp only [decide_eq_true_eq, Bool.or_eq_true, Bool.and_eq_true, Bool.not_eq_true', List.head?_cons, ne_eq, Option.some.injEq, List.length_cons]
  constructor
  · rintro ⟨_, _, h1 | ⟨h1, h2⟩⟩
    · exact .inl h1
    · exact .inr ⟨List.length_eq_zero_iff.1 (by omega), h2⟩
  · rintro (h1 | ⟨h1, h2⟩)
    · exact ⟨by simp, by simpa using h, .inl h1⟩
    · exact ⟨by simp, by simpa using h, .inr ⟨by rw [h1]; rfl, h2⟩⟩
def rdD (s : ByteArray) : Int × Bool :=
  if (bl s).head? = some 45 then (if okDigs (bl s).tail 18 true then (-((valL (bl s).tail 0 : Nat) : Int), true) else (0, false))
  else (if okDigs (bl s) 18 false then (((valL (bl s) 0 : Nat) : Int), true) else (0, false))
theorem bt0_ob (c : UInt8) (r : List UInt8) : bt (ob (c :: r)) 0 = (c.toNat : Int) := rfl
theorem impl_readDecimal_f (s : ByteArray) (hs : s.size ≤ 1000000) : impl_readDecimal.f s = some (rdD s) := by
  revert hs
  refine ob_all (P := fun s => s.size ≤ 1000000 → impl_readDecimal.f s = some (rdD s)) ?_ s
  intro l hs
  rw [ob_size] at hs
  unfold impl_readDecimal.f impl_readDecimal.fn impl_readDecimal.top rdD
  rw [bl_ob, ob_size]
  cases l with
  | nil => simp [okDigs]
  | cons c r =>
    simp only [List.length_cons] at hs
    have c0 : (0 : Int) < ((c :: r).length : Int) := by simp only [List.length_cons]; omega
    have cz : (((c :: r).length : Int) == 0) = false := by rw [beq_eq_false_iff_ne]; omega
    simp only [c0, cz, bt0_ob, and_self, and_true, true_and, decide_true, decide_false, if_true, if_false, mid_get, mid_set, mid_getn, mid_setn, bt_mid, Option.bind_some, Bool.not_true, Bool.not_false, Bool.false_eq_true, Bool.true_eq_false, beq_self_eq_true, bne_self_eq_false, Int.toNat_natCast, Int.le_refl, List.head?_cons, Option.some.injEq, List.tail_cons]
    by_cases hc : c = 45
    · subst hc
      have e45 : (((45 : UInt8).toNat : Int) == 45) = true := rfl
      have c1 : (1 : Int) ≤ ((45 :: r : List UInt8).length : Int) := by simp only [List.length_cons]; omega
      have ex : (ob (45 :: r)).extract (1 : Int).toNat (45 :: r : List UInt8).length = ob r := by
        rw [ob_extract, List.take_of_length_le (by omega)]; rfl
      simp only [e45, c1, ex, ob_size, and_self, and_true, true_and, decide_true, decide_false, if_true, if_false, mid_get, mid_set, mid_getn, mid_setn, bt_mid, Option.bind_some, Bool.not_true, Bool.not_false, Bool.false_eq_true, Bool.true_eq_false, beq_self_eq_true, bne_self_eq_false, Int.toNat_natCast, show (0 : Int) ≤ 1 from by omega]
      cases r with
      | nil => simp [okDigs]
      | cons d r =>
        have d0 : (0 : Int) < ((d :: r).length : Int) := by simp only [List.length_cons]; omega
        have dz : (((d :: r).length : Int) == 0) = false := by rw [beq_eq_false_iff_ne]; omega
        have d1 : (1 : Int) < ((45 :: d :: r : List UInt8).length : Int) := by simp only [List.length_cons]; omega
        simp only [d0, dz, d1, bt0_ob, and_self, and_true, true_and, decide_true, decide_false, if_true, if_false, mid_get, mid_set, mid_getn, mid_setn, bt_mid, Option.bind_some, Bool.not_true, Bool.not_false, Bool.false_eq_true, Bool.true_eq_false, beq_self_eq_true, bne_self_eq_false, Int.toNat_natCast]
        by_cases h18 : (18 : Int) < ((d :: r).length : Int)
        · simp only [okDigs_long (show 18 < (d :: r).length by omega), h18, and_self, and_true, true_and, decide_true, decide_false, if_true, if_false, mid_get, mid_set, mid_getn, mid_setn, bt_mid, Option.bind_some, Bool.not_true, Bool.not_false, Bool.false_eq_true, Bool.true_eq_false, beq_self_eq_true, bne_self_eq_false, Int.toNat_natCast]
        · have h18' : (d :: r).length ≤ 18 := by omega
          have hl := impl_readDecimal_l (ob (45 :: d :: r)) (d :: r) [] 0 NN (by simpa using h18') (NN_lt (by omega)) (by simp)
          simp only [List.nil_append, List.length_nil, ob_size] at hl
          have d2 : ((d :: r).length : Int) < ((45 :: d :: r : List UInt8).length : Int) := by simp only [List.length_cons]; omega
          rw [show ((0 : Nat) : Int) = 0 from rfl] at hl
          simp only [d2, if_true] at hl
          simp only [okDigs_short h18', h18, hl, and_self, and_true, true_and, decide_true, decide_false, if_true, if_false, mid_get, mid_set, mid_getn, mid_setn, bt_mid, Option.bind_some, Bool.not_true, Bool.not_false, Bool.false_eq_true, Bool.true_eq_false, beq_self_eq_true, bne_self_eq_false, Int.toNat_natCast]
          by_cases hd : d = 48
          · subst hd
            simp
          · have : ((d.toNat : Int) == 48) = false := by rw [beq_eq_false_iff_ne]; intro e; exact hd ((u8_eq (n := 48) (by omega)).mp (by omega))
            simp only [this, and_self, and_true, true_and, decide_true, decide_false, if_true, if_false, mid_get, mid_set, mid_getn, mid_setn, bt_mid, Option.bind_some, Bool.not_true, Bool.not_false, Bool.false_eq_true, Bool.true_eq_false, beq_self_eq_true, bne_self_eq_false, Int.toNat_natCast]
            cases ha : (d :: r).all isDig <;> simp [hd]
    · have e45 : ((c.toNat : Int) == 45) = false := by rw [beq_eq_false_iff_ne]; intro e; exact hc ((u8_eq (n := 45) (by omega)).mp (by omega))
      simp only [e45, hc, and_self, and_true, true_and, decide_true, decide_false, if_true, if_false, mid_get, mid_set, mid_getn, mid_setn, bt_mid, Option.bind_some, Bool.not_true, Bool.not_false, Bool.false_eq_true, Bool.true_eq_false, beq_self_eq_true, bne_self_eq_false, Int.toNat_natCast]
      by_cases h18 : (18 : Int) < ((c :: r).length : Int)
      · simp only [okDigs_long (show 18 < (c :: r).length by omega), h18, and_self, and_true, true_and, decide_true, decide_false, if_true, if_false, mid_get, mid_set, mid_getn, mid_setn, bt_mid, Option.bind_some, Bool.not_true, Bool.not_false, Bool.false_eq_true, Bool.true_eq_false, beq_self_eq_true, bne_self_eq_false, Int.toNat_natCast]
      · have h18' : (c :: r).length ≤ 18 := by omega
        have hl := impl_readDecimal_l (ob (c :: r)) (c :: r) [] 0 NN (by simpa using h18') (NN_lt (by omega)) (by simp)
        simp only [List.nil_append, List.length_nil, ob_size, Int.lt_irrefl, if_false] at hl
        rw [show ((0 : Nat) : Int) = 0 from rfl] at hl
        simp only [okDigs_short h18', h18, hl, and_self, and_true, true_and, decide_true, decide_false, if_true, if_false, mid_get, mid_set, mid_getn, mid_setn, bt_mid, Option.bind_some, Bool.not_true, Bool.not_false, Bool.false_eq_true, Bool.true_eq_false, beq_self_eq_true, bne_self_eq_false, Int.toNat_natCast]
        by_cases hd : c = 48
        · subst hd
          have e48 : (((48 : UInt8).toNat : Int) == 48) = true := rfl
          simp only [e48, and_self, and_true, true_and, decide_true, decide_false, if_true, if_false, mid_get, mid_set, mid_getn, mid_setn, bt_mid, Option.bind_some, Bool.not_true, Bool.not_false, Bool.false_eq_true, Bool.true_eq_false, beq_self_eq_true, bne_self_eq_false, Int.toNat_natCast]
          cases r with
          | nil =>
            simp only [List.length_cons, List.length_nil]
            cases ha : ([48] : List UInt8).all isDig <;> simp
          | cons d r =>
            have h1 : (1 : Int) < ((48 :: d :: r : List UInt8).length : Int) := by simp only [List.length_cons]; omega
            simp only [h1, and_self, and_true, true_and, decide_true, decide_false, if_true, if_false, mid_get, mid_set, mid_getn, mid_setn, bt_mid, Option.bind_some, Bool.not_true, Bool.not_false, Bool.false_eq_true, Bool.true_eq_false, beq_self_eq_true, bne_self_eq_false, Int.toNat_natCast]
            simp
        · have : ((c.toNat : Int) == 48) = false := by rw [beq_eq_false_iff_ne]; intro e; exact hd ((u8_eq (n := 48) (by omega)).mp (by omega))
          simp only [this, and_self, and_true, true_and, decide_true, decide_false, if_true, if_false, mid_get, mid_set, mid_getn, mid_setn, bt_mid, Option.bind_some, Bool.not_true, Bool.not_false, Bool.false_eq_true, Bool.true_eq_false, beq_self_eq_true, bne_self_eq_false, Int.toNat_natCast]
          cases ha : (c :: r).all isDig <;> simp [hd]
theorem spec_l01Value_l : ∀ (r p : List UInt8) (a k : Nat), p.length + r.length ≤ 13 → r.length < k → a < 10 ^ p.length →
    spec_l01Value.l5 NN k (ob (p ++ r)) (a : Int) (p.length : Int) = if r.all isDig = true then some (((valL r a : Nat) : Int), decide (ob (digs (valL r a)) = ob (p ++ r))) else some (0, false) := by
  intro r
  induction r with
  | nil =>
    intro p a k hb hk ha
    obtain ⟨k, rfl⟩ : ∃ j, k = j + 1 := ⟨k - 1, by omega⟩
    have h18 := pow_le18 (a := p.length) (by simp at hb; omega)
    rw [List.append_nil]
    have c1 : ¬ (p.length : Int) < (p.length : Int) := by omega
    simp only [spec_l01Value.l5, spec_l01Value.g5, ob_size, c1, and_self, and_true, true_and, decide_true, decide_false, if_true, if_false, mid_get, mid_set, mid_getn, mid_setn, bt_mid, Option.bind_some, Bool.not_true, Bool.not_false, Bool.false_eq_true, Bool.true_eq_false, beq_self_eq_true, bne_self_eq_false, Int.toNat_natCast, spec_l01Dec_f (show (0 : Int) ≤ (a : Int) by omega) (show (a : Int) ≤ 1000000000000000000 by omega), decB_nat, ba_beq, List.all_nil, valL]
    rfl
  | cons c r ih =>
    intro p a k hb hk ha
    simp only [List.length_cons] at hb hk
    obtain ⟨k, rfl⟩ : ∃ j, k = j + 1 := ⟨k - 1, by omega⟩
    have h17 : (10 : Nat) ^ p.length ≤ 10 ^ 17 := Nat.pow_le_pow_right (by omega) (by omega)
    have e17 : (10 : Nat) ^ 17 = 100000000000000000 := by decide
    have c0 : (0 : Int) ≤ (p.length : Int) := by omega
    have hm := mid_len p r c
    have c1 : (p.length : Int) < ((ob (p ++ c :: r)).size : Int) := by rw [ob_size]; omega
    have cw := w64 (n := (p.length : Int) + 1) (by omega) (by omega)
    simp only [spec_l01Value.l5, spec_l01Value.g5, c0, c1, cw, and_self, and_true, true_and, decide_true, decide_false, if_true, if_false, mid_get, mid_set, mid_getn, mid_setn, bt_mid, Option.bind_some, Bool.not_true, Bool.not_false, Bool.false_eq_true, Bool.true_eq_false, beq_self_eq_true, bne_self_eq_false, Int.toNat_natCast, List.all_cons]
    by_cases hd : isDig c = true
    · have h2 := isDig_iff.1 hd
      have n1 : ¬ (c.toNat : Int) < 48 := by omega
      have n2 : ¬ (57 : Int) < (c.toNat : Int) := by omega
      have e1 := w64 (n := 10 * (a : Int)) (by omega) (by omega)
      have e2 := w64 (n := 10 * (a : Int) + ((c.toNat - 48 : Nat) : Int)) (by omega) (by omega)
      have := ih (p ++ [c]) (10 * a + (c.toNat - 48)) k (by simp; omega) (by omega) (by rw [List.length_append, List.length_singleton, Nat.pow_succ]; omega)
      rw [mid_snoc, snoc_len, show ((10 * a + (c.toNat - 48) : Nat) : Int) = 10 * (a : Int) + ((c.toNat - 48 : Nat) : Int) by omega] at this
      simp only [n1, n2, and_self, and_true, true_and, decide_true, decide_false, if_true, if_false, mid_get, mid_set, mid_getn, mid_setn, bt_mid, Option.bind_some, Bool.not_true, Bool.not_false, Bool.false_eq_true, Bool.true_eq_false, beq_self_eq_true, bne_self_eq_false, Int.toNat_natCast, u8_sub48 hd, e1, e2, hd, this, valL]
      rfl
    · have hd' : isDig c = false := by simpa using hd
      by_cases h1 : (c.toNat : Int) < 48
      · simp [h1, hd']
      · have h3 : (57 : Int) < (c.toNat : Int) := by
          have : ¬ (48 ≤ c.toNat ∧ c.toNat ≤ 57) := fun e => hd (isDig_iff.2 e)
          omega
        simp [h1, h3, hd']
def rdV (s : ByteArray) : Int × Bool := if 1 ≤ s.size ∧ s.size ≤ 13 ∧ (bl s).all isDig = true then (((valL (bl s) 0 : Nat) : Int), decide (digs (valL (bl s) 0) = bl s)) else (0, false)
theorem spec_l01Value_f (s : ByteArray) (hs : s.size ≤ 1000000) : spec_l01Value.f s = some (rdV s) := by
  unfold spec_l01Value.f spec_l01Value.fn spec_l01Value.top rdV
  by_cases h1 : (s.size : Int) < 1
  · have : ¬ 1 ≤ s.size := by omega
    simp [h1, this]
  · by_cases h13 : (13 : Int) < (s.size : Int)
    · have : ¬ s.size ≤ 13 := by omega
      simp [h1, h13, this]
    · have e1 : 1 ≤ s.size := by omega
      have e2 : s.size ≤ 13 := by omega
      have := spec_l01Value_l (bl s) [] 0 NN (by simpa [bl_length] using e2) (by rw [bl_length]; exact NN_lt (by omega)) (by simp)
      simp only [List.nil_append, ob_bl, List.length_nil] at this
      rw [show ((0 : Nat) : Int) = 0 from rfl] at this
      simp only [h1, h13, this, e1, e2, and_self, and_true, true_and, decide_true, decide_false, if_true, if_false, mid_get, mid_set, mid_getn, mid_setn, bt_mid, Option.bind_some, Bool.not_true, Bool.not_false, Bool.false_eq_true, Bool.true_eq_false, beq_self_eq_true, bne_self_eq_false, Int.toNat_natCast]
      have e3 : decide (ob (digs (valL (bl s) 0)) = s) = decide (digs (valL (bl s) 0) = bl s) := by
        congr 1
        exact propext ⟨fun h => by have := congrArg bl h; rwa [bl_ob] at this, fun h => by rw [h, ob_bl]⟩
      cases ha : (bl s).all isDig
      · simp
      · simp only [if_true]
        congr 2
/-- both readers, within a range -/
theorem rdV_rdD {s : ByteArray} (h : (rdV s).2 = true) : rdD s = rdV s := by
  unfold rdV at h ⊢
  split at h
  · rename_i hc
    rw [if_pos hc]
    obtain ⟨h1, h2, h3⟩ := hc
    simp only [decide_eq_true_eq] at h
    have hne : bl s ≠ [] := by intro e; have := bl_length s; rw [e] at this; simp at this; omega
    obtain ⟨c, r, e⟩ : ∃ c r, bl s = c :: r := by
      cases hb : bl s with
      | nil => exact absurd hb hne
      | cons c r => exact ⟨c, r, rfl⟩
    have hd : isDig c = true := by rw [e] at h3; simp at h3; exact h3.1
    have hdi := isDig_iff.1 hd
    have h45 : ¬ (bl s).head? = some 45 := by
      rw [e]; simp only [List.head?_cons, Option.some.injEq]
      intro hc; subst hc
      have : (45 : UInt8).toNat = 45 := rfl
      omega
    have hz : (bl s).head? ≠ some 48 ∨ ((bl s).length = 1 ∧ false = false) := by
      by_cases hv : valL (bl s) 0 = 0
      · right
        rw [hv, digs_small (by omega)] at h
        rw [← h]; exact ⟨rfl, rfl⟩
      · left
        intro hh
        rw [← h] at hh
        exact digs_head hv 48 hh rfl
    have hok : okDigs (bl s) 18 false = true := by
      unfold okDigs
      rw [h3, Bool.and_true]
      exact decide_eq_true ⟨hne, by rw [bl_length]; omega, hz⟩
    unfold rdD
    rw [if_neg h45, if_pos hok, decide_eq_true h]
  · cases h
theorem rdD_rdV {s : ByteArray} (h : (rdD s).2 = true) (h0 : 0 ≤ (rdD s).1) (h1 : (rdD s).1 ≤ 1000000000000) (hn : (rdD s).1 = 0 → (bl s).head? ≠ some 45) : rdV s = rdD s := by
  unfold rdD at h h0 h1 hn ⊢
  split at h
  · rename_i h45
    split at h
    · rename_i hok
      rw [if_pos h45, if_pos hok] at h0 hn
      simp only at h0 hn
      exact absurd h45 (hn (by omega))
    · cases h
  · rename_i h45
    split at h
    · rename_i hok
      rw [if_neg h45, if_pos hok] at h0 h1 hn ⊢
      simp only at h0 h1
      unfold okDigs at hok
      simp only [Bool.and_eq_true, decide_eq_true_eq] at hok
      obtain ⟨⟨k1, k2, k3⟩, k4⟩ := hok
      have hd : ∀ c ∈ bl s, isDig c = true := List.all_eq_true.1 k4
      have hdig : digs (valL (bl s) 0) = bl s := digs_valL _ k1 hd (by
        rcases k3 with k | k
        · exact .inr k
        · exact .inl k.1)
      have hlen : (bl s).length ≤ 13 := by
        rw [← hdig]
        exact (digs_len 12 _ (by have : (10 : Nat) ^ (12 + 1) = 10000000000000 := by decide
                                 omega)).1
      have hl0 : (bl s).length ≠ 0 := fun e => k1 (List.length_eq_zero_iff.1 e)
      rw [bl_length] at hlen hl0
      unfold rdV
      rw [if_pos ⟨by omega, hlen, k4⟩, decide_eq_true hdig]
    · cases h
theorem rdD_neg0 {s : ByteArray} (h : (rdD s).2 = true) (h0 : (rdD s).1 = 0) : (bl s).head? ≠ some 45 := by
  intro h45
  unfold rdD at h h0
  rw [if_pos h45] at h h0
  split at h
  · rename_i hok
    rw [if_pos hok] at h0
    simp only at h0
    unfold okDigs at hok
    simp only [Bool.and_eq_true, decide_eq_true_eq] at hok
    obtain ⟨⟨k1, k2, k3⟩, k4⟩ := hok
    have hdig : digs (valL (bl s).tail 0) = (bl s).tail := digs_valL _ k1 (List.all_eq_true.1 k4) (by
      rcases k3 with k | k
      · exact .inr k
      · exact .inl k.1)
    have hv : valL (bl s).tail 0 = 0 := by omega
    rw [hv, digs_small (by omega)] at hdig
    rcases k3 with k | k
    · rw [← hdig] at k; exact k rfl
    · exact absurd k.2 (by simp)
  · cases h
theorem rd_back {s : ByteArray} (h : (rdD s).2 = true) (h0 : 0 ≤ (rdD s).1) (h1 : (rdD s).1 ≤ 1000000000000) : rdV s = rdD s := rdD_rdV h h0 h1 (rdD_neg0 h)
end Go.Pl

namespace Go.Pl
open Go.Ev
set_option linter.unusedVariables false
noncomputable section
def impl_readLine.g2 (L2 : ByteArray → Int → ByteArray → Int → Option ((ByteArray × Int) × Bool)) (s0 : ByteArray) (i4 : Int) (v2a : ByteArray) (v2b : Int) : Option ((ByteArray × Int) × Bool) :=
  if (decide ((i4 : Int) < (s0.size : Int))) = true then
    if (0 : Int) ≤ i4 ∧ (i4 : Int) < s0.size then
      if (((bt s0 i4) : Int) == 120) = true then
        if (0 : Int) ≤ i4 ∧ (i4 : Int) ≤ s0.size then
          (impl_readDecimal.f (s0.extract 0 (i4 : Int).toNat)).bind fun r1 =>
          if (0 : Int) ≤ (IntKind.i64.wrap (i4 + 1)) ∧ ((IntKind.i64.wrap (i4 + 1)) : Int) ≤ s0.size then
            some ((s0.extract ((IntKind.i64.wrap (i4 + 1)) : Int).toNat s0.size, r1.1), r1.2)
          else
            none
        else
          none
      else
        L2 s0 (IntKind.i64.wrap (i4 + 1)) v2a v2b
    else
      none
  else
    some ((ByteArray.empty, 0), false)
def impl_readLine.l2 (n : Nat) : Nat → ByteArray → Int → ByteArray → Int → Option ((ByteArray × Int) × Bool)
  | 0 => fun _ _ _ _ => none
  | k + 1 => impl_readLine.g2 (impl_readLine.l2 n k)
def impl_readLine.top (I2 : ByteArray → Int → ByteArray → Int → Option ((ByteArray × Int) × Bool)) (s0 : ByteArray) : Option ((ByteArray × Int) × Bool) :=
  I2 s0 0 ByteArray.empty 0
def impl_readLine.fn (n : Nat) (s0 : ByteArray) : Option ((ByteArray × Int) × Bool) := impl_readLine.top (impl_readLine.l2 n n) s0
def impl_readLine.f (s0 : ByteArray) : Option ((ByteArray × Int) × Bool) := impl_readLine.fn NN s0
end
end Go.Pl

namespace Go.Pl
open Go.Ev
set_option linter.unusedVariables false
noncomputable section
def spec_l29Line.g2 (L2 : ByteArray → Int → ByteArray → Int → Option ((ByteArray × Int) × Bool)) (s0 : ByteArray) (at4 : Int) (v2a : ByteArray) (v2b : Int) : Option ((ByteArray × Int) × Bool) :=
  if (decide ((at4 : Int) < (s0.size : Int))) = true then
    if (0 : Int) ≤ at4 ∧ (at4 : Int) < s0.size then
      if (((bt s0 at4) : Int) != 120) = true then
        L2 s0 (IntKind.i64.wrap (at4 + 1)) v2a v2b
      else if ((at4 : Int) == (s0.size : Int)) = true then
        some ((ByteArray.empty, 0), false)
      else if (0 : Int) ≤ at4 ∧ (at4 : Int) ≤ s0.size then
        (spec_l01Value.f (s0.extract 0 (at4 : Int).toNat)).bind fun r1 =>
        if (0 : Int) ≤ (IntKind.i64.wrap (at4 + 1)) ∧ ((IntKind.i64.wrap (at4 + 1)) : Int) ≤ s0.size then
          some ((s0.extract ((IntKind.i64.wrap (at4 + 1)) : Int).toNat s0.size, r1.1), r1.2)
        else
          none
      else
        none
    else
      none
  else if ((at4 : Int) == (s0.size : Int)) = true then
    some ((ByteArray.empty, 0), false)
  else if (0 : Int) ≤ at4 ∧ (at4 : Int) ≤ s0.size then
    (spec_l01Value.f (s0.extract 0 (at4 : Int).toNat)).bind fun r2 =>
    if (0 : Int) ≤ (IntKind.i64.wrap (at4 + 1)) ∧ ((IntKind.i64.wrap (at4 + 1)) : Int) ≤ s0.size then
      some ((s0.extract ((IntKind.i64.wrap (at4 + 1)) : Int).toNat s0.size, r2.1), r2.2)
    else
      none
  else
    none
def spec_l29Line.l2 (n : Nat) : Nat → ByteArray → Int → ByteArray → Int → Option ((ByteArray × Int) × Bool)
  | 0 => fun _ _ _ _ => none
  | k + 1 => spec_l29Line.g2 (spec_l29Line.l2 n k)
def spec_l29Line.top (I2 : ByteArray → Int → ByteArray → Int → Option ((ByteArray × Int) × Bool)) (s0 : ByteArray) : Option ((ByteArray × Int) × Bool) :=
  I2 s0 0 ByteArray.empty 0
def spec_l29Line.fn (n : Nat) (s0 : ByteArray) : Option ((ByteArray × Int) × Bool) := spec_l29Line.top (spec_l29Line.l2 n n) s0
def spec_l29Line.f (s0 : ByteArray) : Option ((ByteArray × Int) × Bool) := spec_l29Line.fn NN s0
end
end Go.Pl

namespace Go.Pl
open Go.Ev
set_option linter.unusedVariables false
noncomputable section
def impl_ReadPaper.g10 (L10 : List ByteArray → Int → Int → ByteArray → Int → ByteArray → Int → (List (ByteArray × Int)) → (List (ByteArray × Int)) → Option ((ByteArray × Int × List (ByteArray × Int)) × Int)) (v44 : List ByteArray) (v45 : Int) (v46 : Int) (v2a : ByteArray) (v2ba : Int) (p8a : ByteArray) (p8ba : Int) (w2 : List (ByteArray × Int)) (w3 : List (ByteArray × Int)) : Option ((ByteArray × Int × List (ByteArray × Int)) × Int) :=
  if (decide ((v46 : Int) < v45)) = true then
    if (0 : Int) ≤ v46 ∧ (v46 : Int) < v44.length then
      (impl_readLine.f (v44.getD (v46 : Int).toNat ByteArray.empty)).bind fun r4 =>
      if (!r4.2) = true then
        some ((ByteArray.empty, (0, [])), 6)
      else if w3.length + ([r4.1]).length < room 24 then
        L10 v44 v45 (IntKind.i64.wrap (v46 + 1)) v2a v2ba p8a p8ba w2 (w3 ++ ([r4.1]))
      else
        none
    else
      none
  else
    (impl_IsPaper.f (p8a, (p8ba, w3))).bind fun r5 =>
    if (!r5) = true then
      some ((ByteArray.empty, (0, [])), 6)
    else
      some ((p8a, (p8ba, w3)), 0)
def impl_ReadPaper.l10 (n : Nat) : Nat → List ByteArray → Int → Int → ByteArray → Int → ByteArray → Int → (List (ByteArray × Int)) → (List (ByteArray × Int)) → Option ((ByteArray × Int × List (ByteArray × Int)) × Int)
  | 0 => fun _ _ _ _ _ _ _ _ _ => none
  | k + 1 => impl_ReadPaper.g10 (impl_ReadPaper.l10 n k)
def impl_ReadPaper.top (I10 : List ByteArray → Int → Int → ByteArray → Int → ByteArray → Int → (List (ByteArray × Int)) → (List (ByteArray × Int)) → Option ((ByteArray × Int × List (ByteArray × Int)) × Int)) (s0 : ByteArray) : Option ((ByteArray × Int × List (ByteArray × Int)) × Int) :=
  (impl_splitAt.f s0 59).bind fun r1 =>
  if (0 : Int) ≤ 0 ∧ (0 : Int) < r1.length then
    (impl_splitAt.f (r1.getD (0 : Int).toNat ByteArray.empty) 32).bind fun r2 =>
    if (((r2.length : Int) : Int) != 2) = false then
      if (decide ((13 : Int) < (r1.length : Int))) = true then
        some ((ByteArray.empty, (0, [])), 6)
      else if (0 : Int) ≤ 1 ∧ (1 : Int) < r2.length then
        (impl_readDecimal.f (r2.getD (1 : Int).toNat ByteArray.empty)).bind fun r3 =>
        if (!r3.2) = true then
          some ((ByteArray.empty, (0, [])), 6)
        else if (0 : Int) ≤ 0 ∧ (0 : Int) < r2.length then
          if (0 : Int) ≤ 1 ∧ (1 : Int) ≤ r1.length then
            I10 (r1.drop (1 : Int).toNat) ((r1.drop (1 : Int).toNat).length : Int) 0 ByteArray.empty 0 (r2.getD (0 : Int).toNat ByteArray.empty) r3.1 [] []
          else
            none
        else
          none
      else
        none
    else
      some ((ByteArray.empty, (0, [])), 6)
  else
    none
def impl_ReadPaper.fn (n : Nat) (s0 : ByteArray) : Option ((ByteArray × Int × List (ByteArray × Int)) × Int) := impl_ReadPaper.top (impl_ReadPaper.l10 n n) s0
def impl_ReadPaper.f (s0 : ByteArray) : Option ((ByteArray × Int × List (ByteArray × Int)) × Int) := impl_ReadPaper.fn NN s0
end
end Go.Pl

namespace Go.Pl
open Go.Ev
set_option linter.unusedVariables false
noncomputable section
def spec_ReadPaper.g8 (L8 : Bool → Int → ByteArray → Int → List ByteArray → ByteArray → Int → (List (ByteArray × Int)) → (List (ByteArray × Int)) → Option ((ByteArray × Int × List (ByteArray × Int)) × Int)) (ok7 : Bool) (i9 : Int) (v2a : ByteArray) (v2ba : Int) (parts4 : List ByteArray) (p8a : ByteArray) (p8ba : Int) (w3 : List (ByteArray × Int)) (w4 : List (ByteArray × Int)) : Option ((ByteArray × Int × List (ByteArray × Int)) × Int) :=
  if (decide ((i9 : Int) < (parts4.length : Int))) = true then
    if (0 : Int) ≤ i9 ∧ (i9 : Int) < parts4.length then
      (spec_l29Line.f (parts4.getD (i9 : Int).toNat ByteArray.empty)).bind fun r4 =>
      if ok7 = true then
        if w4.length + ([r4.1]).length < room 24 then
          L8 r4.2 (IntKind.i64.wrap (i9 + 1)) v2a v2ba parts4 p8a p8ba w3 (w4 ++ ([r4.1]))
        else
          none
      else if w4.length + ([r4.1]).length < room 24 then
        L8 false (IntKind.i64.wrap (i9 + 1)) v2a v2ba parts4 p8a p8ba w3 (w4 ++ ([r4.1]))
      else
        none
    else
      none
  else if (!ok7) = false then
    (spec_IsPaper.f (p8a, (p8ba, w4))).bind fun r5 =>
    if (!r5) = true then
      some ((ByteArray.empty, (0, [])), 6)
    else
      some ((p8a, (p8ba, w4)), 0)
  else
    some ((ByteArray.empty, (0, [])), 6)
def spec_ReadPaper.l8 (n : Nat) : Nat → Bool → Int → ByteArray → Int → List ByteArray → ByteArray → Int → (List (ByteArray × Int)) → (List (ByteArray × Int)) → Option ((ByteArray × Int × List (ByteArray × Int)) × Int)
  | 0 => fun _ _ _ _ _ _ _ _ _ => none
  | k + 1 => spec_ReadPaper.g8 (spec_ReadPaper.l8 n k)
def spec_ReadPaper.top (I8 : Bool → Int → ByteArray → Int → List ByteArray → ByteArray → Int → (List (ByteArray × Int)) → (List (ByteArray × Int)) → Option ((ByteArray × Int × List (ByteArray × Int)) × Int)) (s0 : ByteArray) : Option ((ByteArray × Int × List (ByteArray × Int)) × Int) :=
  (spec_l01Split.f s0 59).bind fun r1 =>
  if (0 : Int) ≤ 0 ∧ (0 : Int) < r1.length then
    (spec_l01Split.f (r1.getD (0 : Int).toNat ByteArray.empty) 32).bind fun r2 =>
    if (((r2.length : Int) : Int) != 2) = true then
      some ((ByteArray.empty, (0, [])), 6)
    else if (0 : Int) ≤ 1 ∧ (1 : Int) < r2.length then
      (spec_l01Value.f (r2.getD (1 : Int).toNat ByteArray.empty)).bind fun r3 =>
      if (0 : Int) ≤ 0 ∧ (0 : Int) < r2.length then
        I8 r3.2 1 ByteArray.empty 0 r1 (r2.getD (0 : Int).toNat ByteArray.empty) r3.1 [] []
      else
        none
    else
      none
  else
    none
def spec_ReadPaper.fn (n : Nat) (s0 : ByteArray) : Option ((ByteArray × Int × List (ByteArray × Int)) × Int) := spec_ReadPaper.top (spec_ReadPaper.l8 n n) s0
def spec_ReadPaper.f (s0 : ByteArray) : Option ((ByteArray × Int × List (ByteArray × Int)) × Int) := spec_ReadPaper.fn NN s0
end
end Go.Pl

namespace Go.Pl
open Go.Ev
set_option linter.unusedVariables false
set_option linter.unusedSimpArgs false
/-- a line's text: up to the first x a number, then a word -/
def cutX : List UInt8 → Option (List UInt8 × List UInt8)
  | [] => none
  | c :: r => if c = 120 then some ([], r) else (cutX r).map fun x => (c :: x.1, x.2)
def lineR (rd : ByteArray → Int × Bool) (s : ByteArray) : (ByteArray × Int) × Bool := match cutX (bl s) with
  | none => ((ByteArray.empty, 0), false)
  | some (a, b) => ((ob b, (rd (ob a)).1), (rd (ob a)).2)
theorem cutX_app (p : List UInt8) (h : (120 : UInt8) ∉ p) : ∀ r, cutX (p ++ r) = (cutX r).map fun x => (p ++ x.1, x.2) := by
  induction p with
  | nil => intro r; cases h2 : cutX r <;> simp [h2]
  | cons c p ih =>
    intro r
    simp only [List.mem_cons, not_or] at h
    simp only [List.cons_append, cutX]
    rw [if_neg (fun e => h.1 e.symm), ih h.2]
    cases cutX r <;> rfl
theorem ext_pre (p r : List UInt8) : (ob (p ++ r)).extract 0 p.length = ob p := by rw [ob_extract, List.take_left' rfl]; rfl
theorem ext_suf (p r : List UInt8) (c : UInt8) : (ob (p ++ c :: r)).extract (p.length + 1) (ob (p ++ c :: r)).size = ob r := by
  rw [ob_extract, ob_size, List.take_of_length_le (by omega), show p ++ c :: r = (p ++ [c]) ++ r by simp, show p.length + 1 = (p ++ [c]).length by simp, List.drop_left' rfl]
theorem u8_120 {a : UInt8} (h : a ≠ 120) : ¬ ((a.toNat : Int) = 120) := fun e => h ((u8_eq (n := 120) (by omega)).mp (by omega))
theorem impl_readLine_l (v : ByteArray) (d : Int) : ∀ (r p : List UInt8) (k : Nat), p.length + r.length ≤ 1000000 → r.length < k → (120 : UInt8) ∉ p → impl_readLine.l2 NN k (ob (p ++ r)) p.length v d = some (lineR rdD (ob (p ++ r))) := by
  intro r
  induction r with
  | nil =>
    intro p k _ hk hp
    obtain ⟨k, rfl⟩ : ∃ j, k = j + 1 := ⟨k - 1, by omega⟩
    have e : cutX (p ++ []) = none := by rw [cutX_app p hp]; rfl
    unfold lineR
    rw [bl_ob, e]
    simp [impl_readLine.l2, impl_readLine.g2, ob_size]
  | cons c r ih =>
    intro p k hb hk hp
    simp only [List.length_cons] at hb hk
    obtain ⟨k, rfl⟩ : ∃ j, k = j + 1 := ⟨k - 1, by omega⟩
    have hm := mid_len p r c
    have c0 : (0 : Int) ≤ (p.length : Int) := by omega
    have c1 : (p.length : Int) < ((ob (p ++ c :: r)).size : Int) := by rw [ob_size]; omega
    have c2 : (p.length : Int) ≤ ((ob (p ++ c :: r)).size : Int) := by omega
    have c3 : (0 : Int) ≤ (p.length : Int) + 1 := by omega
    have c4 : (p.length : Int) + 1 ≤ ((ob (p ++ c :: r)).size : Int) := by omega
    have e5 : ((p.length : Int) + 1).toNat = p.length + 1 := by omega
    have cw := w64 (n := (p.length : Int) + 1) (by omega) (by omega)
    by_cases hc : c = 120
    · subst hc
      have e : cutX (p ++ 120 :: r) = some (p, r) := by rw [cutX_app p hp]; simp [cutX]
      have e120 : (((120 : UInt8).toNat : Int) == 120) = true := rfl
      unfold lineR
      rw [bl_ob, e]
      simp only [impl_readLine.l2, impl_readLine.g2, c0, c1, c2, c3, c4, cw, and_self, and_true, true_and, decide_true, decide_false, if_true, if_false, mid_get, mid_set, mid_getn, mid_setn, bt_mid, Option.bind_some, Bool.not_true, Bool.not_false, Bool.false_eq_true, Bool.true_eq_false, beq_self_eq_true, bne_self_eq_false, Int.toNat_natCast, e120, ext_pre, e5, ext_suf, impl_readDecimal_f (ob p) (by rw [ob_size]; omega)]
    · have e120 : ((c.toNat : Int) == 120) = false := by rw [beq_eq_false_iff_ne]; exact u8_120 hc
      have := ih (p ++ [c]) k (by simp; omega) (by omega) (by simp [hp]; exact fun e => hc e.symm)
      rw [mid_snoc, snoc_len] at this
      simp only [impl_readLine.l2, impl_readLine.g2, c0, c1, cw, and_self, and_true, true_and, decide_true, decide_false, if_true, if_false, mid_get, mid_set, mid_getn, mid_setn, bt_mid, Option.bind_some, Bool.not_true, Bool.not_false, Bool.false_eq_true, Bool.true_eq_false, beq_self_eq_true, bne_self_eq_false, Int.toNat_natCast, e120, this]
theorem spec_l29Line_l (v : ByteArray) (d : Int) : ∀ (r p : List UInt8) (k : Nat), p.length + r.length ≤ 1000000 → r.length < k → (120 : UInt8) ∉ p → spec_l29Line.l2 NN k (ob (p ++ r)) p.length v d = some (lineR rdV (ob (p ++ r))) := by
  intro r
  induction r with
  | nil =>
    intro p k _ hk hp
    obtain ⟨k, rfl⟩ : ∃ j, k = j + 1 := ⟨k - 1, by omega⟩
    have e : cutX (p ++ []) = none := by rw [cutX_app p hp]; rfl
    unfold lineR
    rw [bl_ob, e]
    simp [spec_l29Line.l2, spec_l29Line.g2, ob_size]
  | cons c r ih =>
    intro p k hb hk hp
    simp only [List.length_cons] at hb hk
    obtain ⟨k, rfl⟩ : ∃ j, k = j + 1 := ⟨k - 1, by omega⟩
    have hm := mid_len p r c
    have c0 : (0 : Int) ≤ (p.length : Int) := by omega
    have c1 : (p.length : Int) < ((ob (p ++ c :: r)).size : Int) := by rw [ob_size]; omega
    have c2 : (p.length : Int) ≤ ((ob (p ++ c :: r)).size : Int) := by omega
    have c3 : (0 : Int) ≤ (p.length : Int) + 1 := by omega
    have c4 : (p.length : Int) + 1 ≤ ((ob (p ++ c :: r)).size : Int) := by omega
    have c5 : ((p.length : Int) == ((ob (p ++ c :: r)).size : Int)) = false := by rw [beq_eq_false_iff_ne]; omega
    have e5 : ((p.length : Int) + 1).toNat = p.length + 1 := by omega
    have cw := w64 (n := (p.length : Int) + 1) (by omega) (by omega)
    by_cases hc : c = 120
    · subst hc
      have e : cutX (p ++ 120 :: r) = some (p, r) := by rw [cutX_app p hp]; simp [cutX]
      have e120 : (((120 : UInt8).toNat : Int) != 120) = false := rfl
      unfold lineR
      rw [bl_ob, e]
      simp only [spec_l29Line.l2, spec_l29Line.g2, c0, c1, c2, c3, c4, c5, cw, and_self, and_true, true_and, decide_true, decide_false, if_true, if_false, mid_get, mid_set, mid_getn, mid_setn, bt_mid, Option.bind_some, Bool.not_true, Bool.not_false, Bool.false_eq_true, Bool.true_eq_false, beq_self_eq_true, bne_self_eq_false, Int.toNat_natCast, e120, ext_pre, e5, ext_suf, spec_l01Value_f (ob p) (by rw [ob_size]; omega)]
    · have e120 : ((c.toNat : Int) != 120) = true := by rw [bne_iff_ne]; exact u8_120 hc
      have := ih (p ++ [c]) k (by simp; omega) (by omega) (by simp [hp]; exact fun e => hc e.symm)
      rw [mid_snoc, snoc_len] at this
      simp only [spec_l29Line.l2, spec_l29Line.g2, c0, c1, cw, and_self, and_true, true_and, decide_true, decide_false, if_true, if_false, mid_get, mid_set, mid_getn, mid_setn, bt_mid, Option.bind_some, Bool.not_true, Bool.not_false, Bool.false_eq_true, Bool.true_eq_false, beq_self_eq_true, bne_self_eq_false, Int.toNat_natCast, e120, this]
theorem impl_readLine_f (s : ByteArray) (h : s.size ≤ 1000000) : impl_readLine.f s = some (lineR rdD s) := by
  have := impl_readLine_l ByteArray.empty 0 (bl s) [] NN (by simp [bl_length]; exact h) (by rw [bl_length]; exact NN_lt (by omega)) (by simp)
  rw [List.nil_append, ob_bl] at this
  exact this
theorem spec_l29Line_f (s : ByteArray) (h : s.size ≤ 1000000) : spec_l29Line.f s = some (lineR rdV s) := by
  have := spec_l29Line_l ByteArray.empty 0 (bl s) [] NN (by simp [bl_length]; exact h) (by rw [bl_length]; exact NN_lt (by omega)) (by simp)
  rw [List.nil_append, ob_bl] at this
  exact this
theorem lineR_rg (rd : ByteArray → Int × Bool) (hrd : ∀ s, Rg .i64 (rd s).1) (s : ByteArray) (h : s.size ≤ 1000000) : OkLine (lineR rd s).1 := by
  have key : ∀ (l a b : List UInt8), cutX l = some (a, b) → b.length ≤ l.length := by
    intro l
    induction l with
    | nil => intro a b h; cases h
    | cons c r ih =>
      intro a b h
      simp only [cutX] at h
      split at h
      · cases h; simp
      · cases hx : cutX r with
        | none => rw [hx] at h; cases h
        | some x => rw [hx] at h; simp at h; have := ih x.1 x.2 hx; rw [h.2] at this; simp; omega
  unfold lineR
  cases hx : cutX (bl s) with
  | none => exact ⟨by show (0 : Nat) ≤ _; omega, wf64.2 (by simp only; omega)⟩
  | some x =>
    obtain ⟨a, b⟩ := x
    have := key _ _ _ hx
    rw [bl_length] at this
    exact ⟨by unfold Sm; rw [ob_size]; omega, hrd _⟩
theorem rdD_rg (s : ByteArray) : Rg .i64 (rdD s).1 := by
  have h0 : Rg .i64 0 := rfl
  have key : ∀ (l : List UInt8) (b : Bool), okDigs l 18 b = true → valL l 0 < 1000000000000000000 := fun l b h => by
    unfold okDigs at h
    simp only [Bool.and_eq_true, decide_eq_true_eq] at h
    have := valL_lt l 0 (List.all_eq_true.1 h.2)
    have h2 := pow_le18 h.1.2.1
    omega
  unfold rdD
  split
  · split
    · rename_i h; have := key _ _ h; exact wf64.2 (by simp only; omega)
    · exact h0
  · split
    · rename_i h; have := key _ _ h; exact wf64.2 (by simp only; omega)
    · exact h0
theorem rdV_rg (s : ByteArray) : Rg .i64 (rdV s).1 := by
  unfold rdV
  split
  · rename_i h
    have h1 := valL_lt (bl s) 0 (List.all_eq_true.1 h.2.2)
    have h2 := pow_le18 (a := (bl s).length) (by rw [bl_length]; omega)
    exact wf64.2 (by simp only; omega)
  · exact rfl
/-- lines read one by one, up to the first that fails -/
def linesR (rd : ByteArray → Int × Bool) : List ByteArray → Option (List (ByteArray × Int))
  | [] => some []
  | s :: r => if (lineR rd s).2 = true then (linesR rd r).map ((lineR rd s).1 :: ·) else none
theorem impl_ReadPaper_l (a : ByteArray) (b : Int) (v : ByteArray) (d : Int) (w2 : List (ByteArray × Int)) (hv : Sm v) (hd : Rg .i64 d) : ∀ (r p : List ByteArray) (out : List (ByteArray × Int)) (k : Nat), p.length + r.length ≤ 100000 → r.length < k → (∀ s ∈ r, s.size ≤ 1000000) → out.length ≤ p.length → (∀ l ∈ out, OkLine l) →
    impl_ReadPaper.l10 NN k (p ++ r) (p ++ r).length p.length a b v d w2 out = some ((linesR rdD r).elim ((ByteArray.empty, 0, []), 6) (fun ls => if paperB (v, d, out ++ ls) = true then ((v, d, out ++ ls), 0) else ((ByteArray.empty, 0, []), 6))) := by
  intro r
  induction r with
  | nil =>
    intro p out k _ hk _ ho hok
    obtain ⟨k, rfl⟩ : ∃ j, k = j + 1 := ⟨k - 1, by omega⟩
    have c1 : ¬ (p.length : Int) < (p.length : Int) := by omega
    have hp : OkPaper (v, d, out) := ⟨hv, hd, by simp only; simp at *; omega, hok⟩
    rw [List.append_nil]
    simp only [impl_ReadPaper.l10, impl_ReadPaper.g10, c1, and_self, and_true, true_and, decide_true, decide_false, if_true, if_false, mid_get, mid_set, mid_getn, mid_setn, bt_mid, Option.bind_some, Bool.not_true, Bool.not_false, Bool.false_eq_true, Bool.true_eq_false, beq_self_eq_true, bne_self_eq_false, Int.toNat_natCast, impl_IsPaper_f _ hp, linesR, Option.elim, List.append_nil]
    cases paperB (v, d, out) <;> rfl
  | cons s r ih =>
    intro p out k hb hk hs ho hok
    simp only [List.length_cons] at hb hk
    obtain ⟨k, rfl⟩ : ∃ j, k = j + 1 := ⟨k - 1, by omega⟩
    have hm := mid_len p r s
    have c0 : (0 : Int) ≤ (p.length : Int) := by omega
    have c1 : (p.length : Int) < ((p ++ s :: r).length : Int) := by omega
    have cw := w64 (n := (p.length : Int) + 1) (by omega) (by omega)
    simp only [impl_ReadPaper.l10, impl_ReadPaper.g10, c0, c1, cw, and_self, and_true, true_and, decide_true, decide_false, if_true, if_false, mid_get, mid_set, mid_getn, mid_setn, bt_mid, Option.bind_some, Bool.not_true, Bool.not_false, Bool.false_eq_true, Bool.true_eq_false, beq_self_eq_true, bne_self_eq_false, Int.toNat_natCast, impl_readLine_f s (hs s (by simp)), linesR]
    cases h2 : (lineR rdD s).2
    · rfl
    · have := ih (p ++ [s]) (out ++ [(lineR rdD s).1]) k (by simp; omega) (by omega) (fun x hx => hs x (by simp [hx])) (by simp; omega) (fun l hl => by
        rcases List.mem_append.1 hl with h | h
        · exact hok l h
        · rw [List.mem_singleton.1 h]; exact lineR_rg rdD rdD_rg s (hs s (by simp)))
      rw [mid_snoc, snoc_len] at this
      simp only [and_self, and_true, true_and, decide_true, decide_false, if_true, if_false, mid_get, mid_set, mid_getn, mid_setn, bt_mid, Option.bind_some, Bool.not_true, Bool.not_false, Bool.false_eq_true, Bool.true_eq_false, beq_self_eq_true, bne_self_eq_false, Int.toNat_natCast]
      rw [if_pos (room24' out _ (by omega)), this]
      cases linesR rdD r <;> simp
theorem spec_ReadPaper_l (a : ByteArray) (b : Int) (v : ByteArray) (d : Int) (w3 : List (ByteArray × Int)) (hv : Sm v) (hd : Rg .i64 d) : ∀ (r p : List ByteArray) (out : List (ByteArray × Int)) (ok : Bool) (k : Nat), p.length + r.length ≤ 1000001 → r.length < k → (∀ s ∈ r, s.size ≤ 1000000) → out.length + 1 ≤ p.length → (∀ l ∈ out, OkLine l) →
    ∃ x, spec_ReadPaper.l8 NN k ok p.length a b (p ++ r) v d w3 out = some x ∧ x = if ok = true then ((linesR rdV r).elim ((ByteArray.empty, 0, []), 6) (fun ls => if paperB (v, d, out ++ ls) = true then ((v, d, out ++ ls), 0) else ((ByteArray.empty, 0, []), 6))) else ((ByteArray.empty, 0, []), 6) := by
  intro r
  induction r with
  | nil =>
    intro p out ok k hb hk _ ho hok
    obtain ⟨k, rfl⟩ : ∃ j, k = j + 1 := ⟨k - 1, by omega⟩
    have c1 : ¬ (p.length : Int) < (p.length : Int) := by omega
    simp only [List.length_nil, Nat.add_zero] at hb
    have hp : OkPaper (v, d, out) := ⟨hv, hd, by simp only; omega, hok⟩
    rw [List.append_nil]
    simp only [spec_ReadPaper.l8, spec_ReadPaper.g8, c1, and_self, and_true, true_and, decide_true, decide_false, if_true, if_false, mid_get, mid_set, mid_getn, mid_setn, bt_mid, Option.bind_some, Bool.not_true, Bool.not_false, Bool.false_eq_true, Bool.true_eq_false, beq_self_eq_true, bne_self_eq_false, Int.toNat_natCast, spec_IsPaper_f _ hp, linesR, Option.elim, List.append_nil]
    cases ok
    · exact ⟨_, rfl, rfl⟩
    · cases paperB (v, d, out) <;> exact ⟨_, rfl, rfl⟩
  | cons s r ih =>
    intro p out ok k hb hk hs ho hok
    simp only [List.length_cons] at hb hk
    obtain ⟨k, rfl⟩ : ∃ j, k = j + 1 := ⟨k - 1, by omega⟩
    have hm := mid_len p r s
    have c0 : (0 : Int) ≤ (p.length : Int) := by omega
    have c1 : (p.length : Int) < ((p ++ s :: r).length : Int) := by omega
    have cw := w64 (n := (p.length : Int) + 1) (by omega) (by omega)
    have key := fun ok' => ih (p ++ [s]) (out ++ [(lineR rdV s).1]) ok' k (by simp; omega) (by omega) (fun x hx => hs x (by simp [hx])) (by simp; omega) (fun l hl => by
        rcases List.mem_append.1 hl with h | h
        · exact hok l h
        · rw [List.mem_singleton.1 h]; exact lineR_rg rdV rdV_rg s (hs s (by simp)))
    simp only [mid_snoc, snoc_len] at key
    have hroom := room24' out (lineR rdV s).1 (by omega)
    simp only [spec_ReadPaper.l8, spec_ReadPaper.g8, c0, c1, cw, and_self, and_true, true_and, decide_true, decide_false, if_true, if_false, mid_get, mid_set, mid_getn, mid_setn, bt_mid, Option.bind_some, Bool.not_true, Bool.not_false, Bool.false_eq_true, Bool.true_eq_false, beq_self_eq_true, bne_self_eq_false, Int.toNat_natCast, spec_l29Line_f s (hs s (by simp)), linesR, hroom]
    cases ok
    · obtain ⟨x, h1, h2⟩ := key false
      exact ⟨x, h1, by rw [h2]; rfl⟩
    · obtain ⟨x, h1, h2⟩ := key (lineR rdV s).2
      refine ⟨x, h1, ?_⟩
      rw [h2]
      cases (lineR rdV s).2
      · rfl
      · simp only [if_true]
        cases linesR rdV r <;> simp
/-- both readers of lines agree on lines that stand -/
theorem linesR_same : ∀ (r : List ByteArray) (ls : List (ByteArray × Int)), (∀ l ∈ ls, lineOk l = true) → (linesR rdD r = some ls ↔ linesR rdV r = some ls) := by
  intro r
  induction r with
  | nil => intro ls _; exact Iff.rfl
  | cons s r ih =>
    intro ls hok
    have hone : ∀ x, lineOk x = true → ((lineR rdD s = (x, true)) ↔ (lineR rdV s = (x, true))) := fun x hx => by
      have hx2 := lineOk_iff.1 hx
      unfold lineR
      cases hc : cutX (bl s) with
      | none => exact Iff.rfl
      | some y =>
        obtain ⟨a, b⟩ := y
        simp only
        constructor
        · intro h
          have h1 : (rdD (ob a)).2 = true := congrArg Prod.snd h
          have h2 : (rdD (ob a)).1 = x.2 := congrArg (fun z => z.1.2) h
          rw [rd_back h1 (by omega) (by omega)]; exact h
        · intro h
          have h1 : (rdV (ob a)).2 = true := congrArg Prod.snd h
          rw [rdV_rdD h1]; exact h
    have hpair : ∀ (y : (ByteArray × Int) × Bool), y.2 = true → y = (y.1, true) := fun y h => Prod.ext rfl h
    simp only [linesR]
    constructor
    · intro h
      split at h
      · rename_i h1
        cases hr : linesR rdD r with
        | none => rw [hr] at h; cases h
        | some ms =>
          rw [hr] at h
          simp only [Option.map_some, Option.some.injEq] at h
          subst h
          have e1 := (hone _ (hok _ (by simp))).1 (hpair _ h1)
          have e2 := (ih ms (fun l hl => hok l (by simp [hl]))).1 hr
          rw [e1, e2]; rfl
      · cases h
    · intro h
      split at h
      · rename_i h1
        cases hr : linesR rdV r with
        | none => rw [hr] at h; cases h
        | some ms =>
          rw [hr] at h
          simp only [Option.map_some, Option.some.injEq] at h
          subst h
          have e1 := (hone _ (hok _ (by simp))).2 (hpair _ h1)
          have e2 := (ih ms (fun l hl => hok l (by simp [hl]))).2 hr
          rw [e1, e2]; rfl
      · cases h
theorem linesR_len (rd : ByteArray → Int × Bool) : ∀ (r : List ByteArray) (ls : List (ByteArray × Int)), linesR rd r = some ls → ls.length = r.length := by
  intro r
  induction r with
  | nil => intro ls h; cases h; rfl
  | cons s r ih =>
    intro ls h
    simp only [linesR] at h
    split at h
    · cases hr : linesR rd r with
      | none => rw [hr] at h; cases h
      | some ms => rw [hr] at h; simp at h; rw [← h]; simp [ih ms hr]
    · cases h
def badP : (ByteArray × Int × List (ByteArray × Int)) × Int := ((ByteArray.empty, 0, []), 6)
/-- what a text's paper is, with one reader of numbers or the other -/
def readP (rd : ByteArray → Int × Bool) (s : ByteArray) : (ByteArray × Int × List (ByteArray × Int)) × Int := match splitL 59 (bl s) with
  | [] => badP
  | x :: xs => match splitL 32 x with
    | [a, b] => if (rd (ob b)).2 = true then (linesR rd (xs.map ob)).elim badP (fun ls => if paperB (ob a, (rd (ob b)).1, ls) = true then ((ob a, (rd (ob b)).1, ls), 0) else badP) else badP
    | _ => badP
theorem paperB_lines {p : ByteArray × Int × List (ByteArray × Int)} (h : paperB p = true) : ∀ l ∈ p.2.2, lineOk l = true := (linesB_ok (paperB_iff h).2.2).2
theorem readP_same (s : ByteArray) : readP rdD s = readP rdV s := by
  have hcases : ∀ rd s, readP rd s = badP ∨ ∃ x xs a b ls, splitL 59 (bl s) = x :: xs ∧ splitL 32 x = [a, b] ∧ (rd (ob b)).2 = true ∧ linesR rd (xs.map ob) = some ls ∧ paperB (ob a, (rd (ob b)).1, ls) = true ∧ readP rd s = ((ob a, (rd (ob b)).1, ls), 0) := by
    intro rd s
    unfold readP
    cases h1 : splitL 59 (bl s) with
    | nil => exact .inl rfl
    | cons x xs =>
      simp only
      split
      · rename_i a b h2
        split
        · rename_i h3
          cases h4 : linesR rd (xs.map ob) with
          | none => exact .inl rfl
          | some ls =>
            simp only [Option.elim]
            split
            · rename_i h5; exact .inr ⟨x, xs, a, b, ls, rfl, h2, h3, h4, h5, rfl⟩
            · exact .inl rfl
        · exact .inl rfl
      · exact .inl rfl
  have hback : ∀ (rd : ByteArray → Int × Bool) (x : List UInt8) (xs : List (List UInt8)) (a b : List UInt8) ls, splitL 59 (bl s) = x :: xs → splitL 32 x = [a, b] → (rd (ob b)).2 = true → linesR rd (xs.map ob) = some ls → paperB (ob a, (rd (ob b)).1, ls) = true → readP rd s = ((ob a, (rd (ob b)).1, ls), 0) := by
    intro rd x xs a b ls h1 h2 h3 h4 h5
    unfold readP
    rw [h1]
    simp only [h2, h3, h4, h5, if_true, Option.elim]
  rcases hcases rdV s with hv | ⟨x, xs, a, b, ls, h1, h2, h3, h4, h5, h6⟩
  · rcases hcases rdD s with hd | ⟨x, xs, a, b, ls, h1, h2, h3, h4, h5, h6⟩
    · rw [hv, hd]
    · have hp := paperB_iff h5
      simp only at hp
      have e : rdV (ob b) = rdD (ob b) := rd_back h3 (by omega) (by omega)
      have := hback rdV x xs a b ls h1 h2 (by rw [e]; exact h3) ((linesR_same _ _ (paperB_lines h5)).1 h4) (by rw [e]; exact h5)
      rw [this, h6, e]
  · have e : rdD (ob b) = rdV (ob b) := rdV_rdD h3
    have := hback rdD x xs a b ls h1 h2 (by rw [e]; exact h3) ((linesR_same _ _ (paperB_lines h5)).2 h4) (by rw [e]; exact h5)
    rw [this, h6, e]
theorem splitL_len1 (b : UInt8) (l : List UInt8) : (splitL b l).length ≤ l.length + 1 := splitL_length b l
theorem impl_ReadPaper_f (s : ByteArray) (h : s.size ≤ 1000000) : impl_ReadPaper.f s = some (readP rdD s) := by
  unfold impl_ReadPaper.f impl_ReadPaper.fn impl_ReadPaper.top readP
  rw [show (59 : Int) = ((59 : UInt8).toNat : Int) from rfl, impl_splitAt_f s 59 h]
  have hsz := splitL_size 59 (bl s)
  rw [bl_length] at hsz
  cases h1 : splitL 59 (bl s) with
  | nil => exact absurd h1 (splitL_ne _ _)
  | cons x xs =>
    rw [h1] at hsz
    have hx := hsz x (by simp)
    have c0 : (0 : Int) < ((x :: xs).map ob).length := by simp only [List.length_map, List.length_cons]; omega
    simp only [and_self, and_true, true_and, decide_true, decide_false, if_true, if_false, mid_get, mid_set, mid_getn, mid_setn, bt_mid, Option.bind_some, Bool.not_true, Bool.not_false, Bool.false_eq_true, Bool.true_eq_false, beq_self_eq_true, bne_self_eq_false, Int.toNat_natCast, Int.le_refl, c0, List.map_cons, Int.toNat_zero, List.getD_cons_zero]
    rw [show (32 : Int) = ((32 : UInt8).toNat : Int) from rfl, impl_splitAt_f (ob x) 32 (by rw [ob_size]; omega), bl_ob]
    have hsz2 := splitL_size 32 x
    have c0' : (0 : Int) < (((xs.map ob).length + 1 : Nat) : Int) := by omega
    match h2 : splitL 32 x with
    | [] => exact absurd h2 (splitL_ne _ _)
    | [a] => simp [badP]
    | [a, b] =>
      rw [h2] at hsz2
      have hb := hsz2 b (by simp)
      have ha := hsz2 a (by simp)
      simp only [Option.bind_some, List.map_cons, List.map_nil, List.length_cons, List.length_nil]
      simp only [show (((0 + 1 + 1 : Nat) : Int) != 2) = false from rfl, and_self, and_true, true_and, decide_true, decide_false, if_true, if_false, mid_get, mid_set, mid_getn, mid_setn, bt_mid, Option.bind_some, Bool.not_true, Bool.not_false, Bool.false_eq_true, Bool.true_eq_false, beq_self_eq_true, bne_self_eq_false, Int.toNat_natCast, c0']
      by_cases h13 : (13 : Int) < ((xs.map ob).length + 1 : Nat)
      · simp only [h13, and_self, and_true, true_and, decide_true, decide_false, if_true, if_false, mid_get, mid_set, mid_getn, mid_setn, bt_mid, Option.bind_some, Bool.not_true, Bool.not_false, Bool.false_eq_true, Bool.true_eq_false, beq_self_eq_true, bne_self_eq_false, Int.toNat_natCast]
        cases hr : (rdD (ob b)).2
        · simp [badP]
        · simp only [if_true]
          cases hls : linesR rdD (xs.map ob) with
          | none => rfl
          | some ls =>
            simp only [Option.elim]
            have hlen := linesR_len _ _ _ hls
            rw [if_neg (fun hp => by
              have := (linesB_ok (paperB_iff hp).2.2).1
              simp only at this
              omega)]; rfl
      · have d1 : (1 : Int) < ((0 + 1 + 1 : Nat) : Int) := by omega
        have d2 : (1 : Int) ≤ (((xs.map ob).length + 1 : Nat) : Int) := by omega
        have d3 : (0 : Int) < ((0 + 1 + 1 : Nat) : Int) := by omega
        simp only [h13, d1, d2, d3, and_self, and_true, true_and, decide_true, decide_false, if_true, if_false, mid_get, mid_set, mid_getn, mid_setn, bt_mid, Option.bind_some, Bool.not_true, Bool.not_false, Bool.false_eq_true, Bool.true_eq_false, beq_self_eq_true, bne_self_eq_false, Int.toNat_natCast, Int.le_refl, show (0 : Int) ≤ 1 from by omega, show (1 : Int).toNat = 1 from rfl, List.getD_cons_succ, List.getD_cons_zero, Int.toNat_zero, List.drop_succ_cons, List.drop_zero]
        rw [impl_readDecimal_f (ob b) (by rw [ob_size]; omega)]
        simp only [Option.bind_some]
        cases hr : (rdD (ob b)).2
        · rfl
        · have := impl_ReadPaper_l ByteArray.empty 0 (ob a) (rdD (ob b)).1 [] (by unfold Sm; rw [ob_size]; omega) (rdD_rg _) (xs.map ob) [] [] NN (by simp only [List.length_nil]; omega) (NN_lt (by omega)) (fun s hs => by
            obtain ⟨y, hy, rfl⟩ := List.mem_map.1 hs
            rw [ob_size]; have := hsz y (by simp [hy]); omega) (by simp) (by simp)
          simp only [List.nil_append, List.length_nil] at this
          simp only [and_self, and_true, true_and, decide_true, decide_false, if_true, if_false, mid_get, mid_set, mid_getn, mid_setn, bt_mid, Option.bind_some, Bool.not_true, Bool.not_false, Bool.false_eq_true, Bool.true_eq_false, beq_self_eq_true, bne_self_eq_false, Int.toNat_natCast]
          rw [show ((0 : Nat) : Int) = 0 from rfl] at this
          exact this
    | a :: b :: c :: r =>
      have : ((((a :: b :: c :: r).map ob).length : Int) != 2) = true := by rw [bne_iff_ne]; simp; omega
      have c9 : (0 : Int) < ((ob x :: List.map ob xs).length : Int) := c0
      simp only [Option.bind_some, this, c9, and_self, and_true, true_and, decide_true, decide_false, if_true, if_false, mid_get, mid_set, mid_getn, mid_setn, bt_mid, Option.bind_some, Bool.not_true, Bool.not_false, Bool.false_eq_true, Bool.true_eq_false, beq_self_eq_true, bne_self_eq_false, Int.toNat_natCast]
      rfl
theorem spec_ReadPaper_f (s : ByteArray) (h : s.size ≤ 1000000) : spec_ReadPaper.f s = some (readP rdV s) := by
  unfold spec_ReadPaper.f spec_ReadPaper.fn spec_ReadPaper.top readP
  rw [show (59 : Int) = ((59 : UInt8).toNat : Int) from rfl, spec_l01Split_f s 59 h]
  have hsz := splitL_size 59 (bl s)
  have hlen := splitL_length 59 (bl s)
  rw [bl_length] at hsz hlen
  cases h1 : splitL 59 (bl s) with
  | nil => exact absurd h1 (splitL_ne _ _)
  | cons x xs =>
    rw [h1] at hsz hlen
    simp only [List.length_cons] at hlen
    have hx := hsz x (by simp)
    have c0 : (0 : Int) < ((x :: xs).map ob).length := by simp only [List.length_map, List.length_cons]; omega
    simp only [and_self, and_true, true_and, decide_true, decide_false, if_true, if_false, mid_get, mid_set, mid_getn, mid_setn, bt_mid, Option.bind_some, Bool.not_true, Bool.not_false, Bool.false_eq_true, Bool.true_eq_false, beq_self_eq_true, bne_self_eq_false, Int.toNat_natCast, Int.le_refl, c0, List.map_cons, Int.toNat_zero, List.getD_cons_zero]
    rw [show (32 : Int) = ((32 : UInt8).toNat : Int) from rfl, spec_l01Split_f (ob x) 32 (by rw [ob_size]; omega), bl_ob]
    have hsz2 := splitL_size 32 x
    have c0' : (0 : Int) < (((xs.map ob).length + 1 : Nat) : Int) := by omega
    match h2 : splitL 32 x with
    | [] => exact absurd h2 (splitL_ne _ _)
    | [a] => simp [badP]
    | [a, b] =>
      rw [h2] at hsz2
      have hb := hsz2 b (by simp)
      have ha := hsz2 a (by simp)
      simp only [Option.bind_some, List.map_cons, List.map_nil, List.length_cons, List.length_nil]
      have d1 : (1 : Int) < ((0 + 1 + 1 : Nat) : Int) := by omega
      have d3 : (0 : Int) < ((0 + 1 + 1 : Nat) : Int) := by omega
      simp only [show (((0 + 1 + 1 : Nat) : Int) != 2) = false from rfl, c0', d1, d3, and_self, and_true, true_and, decide_true, decide_false, if_true, if_false, mid_get, mid_set, mid_getn, mid_setn, bt_mid, Option.bind_some, Bool.not_true, Bool.not_false, Bool.false_eq_true, Bool.true_eq_false, beq_self_eq_true, bne_self_eq_false, Int.toNat_natCast, Int.le_refl, show (0 : Int) ≤ 1 from by omega, show (1 : Int).toNat = 1 from rfl, List.getD_cons_succ, List.getD_cons_zero, Int.toNat_zero]
      rw [spec_l01Value_f (ob b) (by rw [ob_size]; omega)]
      simp only [Option.bind_some]
      obtain ⟨y, e1, e2⟩ := spec_ReadPaper_l ByteArray.empty 0 (ob a) (rdV (ob b)).1 [] (by unfold Sm; rw [ob_size]; omega) (rdV_rg _) (xs.map ob) [ob x] [] (rdV (ob b)).2 NN (by simp only [List.length_cons, List.length_nil, List.length_map]; omega) (NN_lt (by simp; omega)) (fun s hs => by
            obtain ⟨y, hy, rfl⟩ := List.mem_map.1 hs
            rw [ob_size]; have := hsz y (by simp [hy]); omega) (by simp) (by simp)
      simp only [List.nil_append, List.cons_append, List.length_cons, List.length_nil] at e1 e2
      rw [show ((0 + 1 : Nat) : Int) = 1 from rfl] at e1
      rw [e1, e2]; rfl
    | a :: b :: c :: r =>
      have : ((((a :: b :: c :: r).map ob).length : Int) != 2) = true := by rw [bne_iff_ne]; simp; omega
      have c9 : (0 : Int) < ((ob x :: List.map ob xs).length : Int) := c0
      simp only [Option.bind_some, this, c9, and_self, and_true, true_and, decide_true, decide_false, if_true, if_false, mid_get, mid_set, mid_getn, mid_setn, bt_mid, Option.bind_some, Bool.not_true, Bool.not_false, Bool.false_eq_true, Bool.true_eq_false, beq_self_eq_true, bne_self_eq_false, Int.toNat_natCast]
      rfl
theorem readP_ok (s : ByteArray) (h : s.size ≤ 1000000) : OkPaper (readP rdV s).1 := by
  have hb : OkPaper badP.1 := ⟨by show (0 : Nat) ≤ _; omega, rfl, by simp [badP], by simp [badP]⟩
  unfold readP
  split
  · exact hb
  · split
    · split
      · cases linesR rdV _ with
        | none => exact hb
        | some ls =>
          simp only [Option.elim]
          split
          · rename_i hp
            have hp2 := paperB_iff hp
            simp only at hp2
            have hw := wordB_size hp2.1
            have hl := linesB_ok hp2.2.2
            exact ⟨by show ByteArray.size _ ≤ 1000000; simp only; omega, wf64.2 (by simp only; omega), lines_ok (by simp only; omega) hl.2⟩
          · exact hb
      · exact hb
    · exact hb
theorem ReadPaper_core (s : ByteArray) (h : Sm s) : ∃ w, spec_ReadPaper.f s = some w ∧ impl_ReadPaper.f s = some w ∧ OkPaper w.1 :=
  ⟨readP rdV s, spec_ReadPaper_f s h, by rw [impl_ReadPaper_f s h, readP_same], readP_ok s h⟩
end Go.Pl

namespace Go.Pl
open Go.Ev
set_option linter.unusedVariables false
noncomputable section
def impl_paperText.g3 (L3 : ByteArray → (List (ByteArray × Int)) → Int → Int → Option ByteArray) (out3 : ByteArray) (v14 : List (ByteArray × Int)) (v15 : Int) (v16 : Int) : Option ByteArray :=
  if (decide ((v16 : Int) < v15)) = true then
    if (0 : Int) ≤ v16 ∧ (v16 : Int) < v14.length then
      (impl_decimal.f ((v14.getD (v16 : Int).toNat (ByteArray.empty, 0)).2)).bind fun r2 =>
      if (⟨#[59]⟩ : ByteArray).size + r2.size ≤ 9223372036854775807 then
        if ((⟨#[59]⟩ : ByteArray) ++ r2).size + (⟨#[120]⟩ : ByteArray).size ≤ 9223372036854775807 then
          if (((⟨#[59]⟩ : ByteArray) ++ r2) ++ (⟨#[120]⟩ : ByteArray)).size + ((v14.getD (v16 : Int).toNat (ByteArray.empty, 0)).1).size ≤ 9223372036854775807 then
            if out3.size + ((((⟨#[59]⟩ : ByteArray) ++ r2) ++ (⟨#[120]⟩ : ByteArray)) ++ ((v14.getD (v16 : Int).toNat (ByteArray.empty, 0)).1)).size ≤ 9223372036854775807 then
              L3 (out3 ++ ((((⟨#[59]⟩ : ByteArray) ++ r2) ++ (⟨#[120]⟩ : ByteArray)) ++ ((v14.getD (v16 : Int).toNat (ByteArray.empty, 0)).1))) v14 v15 (IntKind.i64.wrap (v16 + 1))
            else
              none
          else
            none
        else
          none
      else
        none
    else
      none
  else
    some out3
def impl_paperText.l3 (n : Nat) : Nat → ByteArray → (List (ByteArray × Int)) → Int → Int → Option ByteArray
  | 0 => fun _ _ _ _ => none
  | k + 1 => impl_paperText.g3 (impl_paperText.l3 n k)
def impl_paperText.top (I3 : ByteArray → (List (ByteArray × Int)) → Int → Int → Option ByteArray) (p0 : ByteArray × Int × List (ByteArray × Int)) : Option ByteArray :=
  if p0.1.size + (⟨#[32]⟩ : ByteArray).size ≤ 9223372036854775807 then
    (impl_decimal.f p0.2.1).bind fun r1 =>
    if (p0.1 ++ (⟨#[32]⟩ : ByteArray)).size + r1.size ≤ 9223372036854775807 then
      I3 ((p0.1 ++ (⟨#[32]⟩ : ByteArray)) ++ r1) p0.2.2 (p0.2.2.length : Int) 0
    else
      none
  else
    none
def impl_paperText.fn (n : Nat) (p0 : ByteArray × Int × List (ByteArray × Int)) : Option ByteArray := impl_paperText.top (impl_paperText.l3 n n) p0
def impl_paperText.f (p0 : ByteArray × Int × List (ByteArray × Int)) : Option ByteArray := impl_paperText.fn NN p0
end
end Go.Pl

namespace Go.Pl
open Go.Ev
set_option linter.unusedVariables false
noncomputable section
def spec_l29Text.g3 (L3 : ByteArray → Int → (ByteArray × Int × List (ByteArray × Int)) → Option ByteArray) (out3 : ByteArray) (i4 : Int) (p1 : ByteArray × Int × List (ByteArray × Int)) : Option ByteArray :=
  if (decide ((i4 : Int) < (p1.2.2.length : Int))) = true then
    if out3.size + (⟨#[59]⟩ : ByteArray).size ≤ 9223372036854775807 then
      if (0 : Int) ≤ i4 ∧ (i4 : Int) < p1.2.2.length then
        if (0 : Int) ≤ i4 ∧ (i4 : Int) < p1.2.2.length then
          (spec_l01Dec.f ((p1.2.2.getD (i4 : Int).toNat (ByteArray.empty, 0)).2)).bind fun r2 =>
          if (out3 ++ (⟨#[59]⟩ : ByteArray)).size + r2.size ≤ 9223372036854775807 then
            if ((out3 ++ (⟨#[59]⟩ : ByteArray)) ++ r2).size + (⟨#[120]⟩ : ByteArray).size ≤ 9223372036854775807 then
              if (((out3 ++ (⟨#[59]⟩ : ByteArray)) ++ r2) ++ (⟨#[120]⟩ : ByteArray)).size + ((p1.2.2.getD (i4 : Int).toNat (ByteArray.empty, 0)).1).size ≤ 9223372036854775807 then
                L3 ((((out3 ++ (⟨#[59]⟩ : ByteArray)) ++ r2) ++ (⟨#[120]⟩ : ByteArray)) ++ ((p1.2.2.getD (i4 : Int).toNat (ByteArray.empty, 0)).1)) (IntKind.i64.wrap (i4 + 1)) p1
              else
                none
            else
              none
          else
            none
        else
          none
      else
        none
    else
      none
  else
    some out3
def spec_l29Text.l3 (n : Nat) : Nat → ByteArray → Int → (ByteArray × Int × List (ByteArray × Int)) → Option ByteArray
  | 0 => fun _ _ _ => none
  | k + 1 => spec_l29Text.g3 (spec_l29Text.l3 n k)
def spec_l29Text.top (I3 : ByteArray → Int → (ByteArray × Int × List (ByteArray × Int)) → Option ByteArray) (p0 : ByteArray × Int × List (ByteArray × Int)) : Option ByteArray :=
  if p0.1.size + (⟨#[32]⟩ : ByteArray).size ≤ 9223372036854775807 then
    (spec_l01Dec.f p0.2.1).bind fun r1 =>
    if (p0.1 ++ (⟨#[32]⟩ : ByteArray)).size + r1.size ≤ 9223372036854775807 then
      I3 ((p0.1 ++ (⟨#[32]⟩ : ByteArray)) ++ r1) 0 p0
    else
      none
  else
    none
def spec_l29Text.fn (n : Nat) (p0 : ByteArray × Int × List (ByteArray × Int)) : Option ByteArray := spec_l29Text.top (spec_l29Text.l3 n n) p0
def spec_l29Text.f (p0 : ByteArray × Int × List (ByteArray × Int)) : Option ByteArray := spec_l29Text.fn NN p0
end
end Go.Pl

namespace Go.Pl
open Go.Ev
set_option linter.unusedVariables false
noncomputable section
def impl_PaperText.top (p0 : ByteArray × Int × List (ByteArray × Int)) : Option (ByteArray × Int) :=
  (impl_IsPaper.f p0).bind fun r1 =>
  if (!r1) = true then
    some ((⟨#[]⟩ : ByteArray), 1)
  else
    (impl_paperText.f p0).bind fun r2 =>
    some (r2, 0)
def impl_PaperText.fn (n : Nat) (p0 : ByteArray × Int × List (ByteArray × Int)) : Option (ByteArray × Int) := impl_PaperText.top p0
def impl_PaperText.f (p0 : ByteArray × Int × List (ByteArray × Int)) : Option (ByteArray × Int) := impl_PaperText.fn NN p0
end
end Go.Pl

namespace Go.Pl
open Go.Ev
set_option linter.unusedVariables false
noncomputable section
def spec_PaperText.top (p0 : ByteArray × Int × List (ByteArray × Int)) : Option (ByteArray × Int) :=
  (spec_IsPaper.f p0).bind fun r1 =>
  if (!r1) = true then
    some ((⟨#[]⟩ : ByteArray), 1)
  else
    (spec_l29Text.f p0).bind fun r2 =>
    some (r2, 0)
def spec_PaperText.fn (n : Nat) (p0 : ByteArray × Int × List (ByteArray × Int)) : Option (ByteArray × Int) := spec_PaperText.top p0
def spec_PaperText.f (p0 : ByteArray × Int × List (ByteArray × Int)) : Option (ByteArray × Int) := spec_PaperText.fn NN p0
end
end Go.Pl
