/- FnExactIsConsoleLine: for every line, the program and the reference say the same on whether it is a command. -/
import Derived.Test.YtppfdipgaifhiaaFFnExactIsConsoleLine
import Derived.Laws.Strings
namespace Go.Proofs.Ytppfdipgaifhiaa.Pure
open Go.RowKit Go.Proofs.Ytppfdipgaifhiaa.Q Go.Proofs.YtppfdipgaifhiaaW.PrintWords Go.Proofs.YtppfdipgaifhiaaW.PrintLast Go.Proofs.YtppfdipgaifhiaaW.PrintMore
set_option linter.unusedVariables false
set_option linter.unusedSimpArgs false
theorem w64 {x : Int} (h : -9223372036854775808 ≤ x) (h' : x ≤ 9223372036854775807) : wrap64 x = x := by unfold wrap64; omega
theorem of_wf64 {x : Int} (h : (Lit.int .i64 x).wf = true) : -9223372036854775808 ≤ x ∧ x ≤ 9223372036854775807 := by
  simp only [Lit.wf, Bool.and_eq_true, decide_eq_true_eq] at h
  have e1 : IntKind.i64.min = -9223372036854775808 := by decide
  have e2 : IntKind.i64.max = 9223372036854775807 := by decide
  omega
/-- Upwards through a row. -/
theorem up_ind {P : Int → Prop} (n : Int) (he : P n) (hs : ∀ i, 0 ≤ i → i < n → P (i + 1) → P i) : ∀ i, 0 ≤ i → i ≤ n → P i := by
  have key : ∀ (d : Nat) (i : Int), 0 ≤ i → i ≤ n → n - i = d → P i := by
    intro d
    induction d with
    | zero => intro i h0 h1 h2; have : i = n := by omega
              rw [this]; exact he
    | succ d ih => intro i h0 h1 h2; exact hs i h0 (by omega) (ih (i + 1) (by omega) (by omega) (by omega))
  intro i h0 h1
  exact key (n - i).toNat i h0 h1 (by omega)
theorem ba_toList {a b : ByteArray} : a.toList = b.toList ↔ a = b := by
  rw [ByteArray.toList_eq, ByteArray.toList_eq]
  exact ⟨fun h => ByteArray.ext (Array.toList_inj.mp h), fun h => by rw [h]⟩
theorem rdOf_lt {α : Type} {d : α} {xs : List α} {i : Int} (h0 : 0 ≤ i) (h : i < (xs.length : Int)) : rdOf d xs i = xs[i.toNat]'(by omega) := by
  unfold rdOf; rw [List.getD_eq_getElem?_getD, List.getElem?_eq_getElem (by omega)]; rfl
theorem rd_lt {xs : List Int} {i : Int} (h0 : 0 ≤ i) (h : i < (xs.length : Int)) : rd xs i = xs[i.toNat]'(by omega) := by
  unfold rd; rw [List.getD_eq_getElem?_getD, List.getElem?_eq_getElem (by omega)]; rfl
theorem bt_lt {s : ByteArray} {i : Int} (h : i.toNat < s.size) : bt s i = ((s[i.toNat]'h).toNat : Int) := by
  unfold bt; rw [dif_pos h]
theorem rdOf_nat {α : Type} {d : α} {xs : List α} {i : Nat} (h : i < xs.length) : rdOf d xs (i : Int) = xs[i] := by
  unfold rdOf; rw [List.getD_eq_getElem?_getD, Int.toNat_natCast, List.getElem?_eq_getElem h]; rfl
/-! bytes as lists -/
def bl (s : ByteArray) : List UInt8 := s.data.toList
def ob (l : List UInt8) : ByteArray := ⟨l.toArray⟩
theorem bl_ob (l : List UInt8) : bl (ob l) = l := by simp [bl, ob]
theorem ob_bl (s : ByteArray) : ob (bl s) = s := by simp [bl, ob]
theorem bl_inj {a b : ByteArray} (h : bl a = bl b) : a = b := by rw [← ob_bl a, h, ob_bl]
theorem bl_length (s : ByteArray) : (bl s).length = s.size := by simp only [bl, Array.length_toList]; rfl
theorem ob_size (l : List UInt8) : (ob l).size = l.length := by rw [← bl_length, bl_ob]
theorem bl_append (a b : ByteArray) : bl (a ++ b) = bl a ++ bl b := by simp [bl]
theorem ob_append (a b : List UInt8) : ob a ++ ob b = ob (a ++ b) := by apply bl_inj; rw [bl_append, bl_ob, bl_ob, bl_ob]
theorem bl_lit (a : Array UInt8) : bl (⟨a⟩ : ByteArray) = a.toList := rfl
theorem bl_extract (s : ByteArray) (i j : Nat) : bl (s.extract i j) = ((bl s).take j).drop i := by
  simp only [bl, ByteArray.data_extract, Array.toList_extract, List.extract]
  rw [List.drop_take]
theorem bt_bl (s : ByteArray) {i : Int} (h0 : 0 ≤ i) (h : i < (s.size : Int)) : bt s i = ((((bl s)[i.toNat]'(by rw [bl_length]; omega)).toNat : Nat) : Int) := by
  rw [bt_lt (by omega)]; rfl
theorem bt_nat (s : ByteArray) {i : Nat} (h : i < s.size) : bt s (i : Int) = ((((bl s)[i]'(by rw [bl_length]; omega)).toNat : Nat) : Int) := by
  rw [bt_bl s (by omega) (by omega)]; rfl
theorem u8_eq {a : UInt8} {n : Nat} (h : n < 256) : ((a.toNat : Int) = (n : Int)) ↔ a = UInt8.ofNat n := by
  constructor
  · intro e
    apply UInt8.toNat_inj.mp
    rw [UInt8.toNat_ofNat']; omega
  · rintro rfl
    rw [UInt8.toNat_ofNat']; omega
theorem strOfNums_ob (l : List Int) : strOfNums l = ob (l.map fun n => UInt8.ofNat n.toNat) := rfl
/-! splitting at a byte, and putting together -/
def glue (p : List UInt8) : List (List UInt8) → List (List UInt8)
  | [] => [p]
  | x :: xs => (p ++ x) :: xs
def splitL (b : UInt8) : List UInt8 → List (List UInt8)
  | [] => [[]]
  | c :: r => if c = b then [] :: splitL b r else glue [c] (splitL b r)
def joinL (sep : List UInt8) : List (List UInt8) → List UInt8
  | [] => []
  | [x] => x
  | x :: y :: r => x ++ sep ++ joinL sep (y :: r)
theorem splitL_ne (b : UInt8) (l : List UInt8) : splitL b l ≠ [] := by
  cases l with
  | nil => simp [splitL]
  | cons c r => simp only [splitL]; split
                · simp
                · cases splitL b r <;> simp [glue]
theorem glue_nil {x : List (List UInt8)} (h : x ≠ []) : glue [] x = x := by
  cases x with
  | nil => exact absurd rfl h
  | cons => rfl
theorem glue_glue (p q : List UInt8) (x : List (List UInt8)) : glue p (glue q x) = glue (p ++ q) x := by
  cases x <;> simp [glue]
theorem joinL_glue (sep p : List UInt8) (x : List (List UInt8)) : joinL sep (glue p x) = p ++ joinL sep x := by
  cases x with
  | nil => simp [glue, joinL]
  | cons y ys => cases ys <;> simp [glue, joinL]
theorem joinL_cons (sep : List UInt8) (x : List UInt8) {r : List (List UInt8)} (h : r ≠ []) : joinL sep (x :: r) = x ++ sep ++ joinL sep r := by
  cases r with
  | nil => exact absurd rfl h
  | cons => rfl
theorem joinL_splitL (b : UInt8) (l : List UInt8) : joinL [b] (splitL b l) = l := by
  induction l with
  | nil => rfl
  | cons c r ih =>
    simp only [splitL]
    split
    · rename_i h; rw [joinL_cons _ _ (splitL_ne b r), ih, h]; rfl
    · rw [joinL_glue, ih]; rfl
theorem splitL_mem (b : UInt8) (l : List UInt8) : ∀ x ∈ splitL b l, b ∉ x := by
  induction l with
  | nil => simp [splitL]
  | cons c r ih =>
    simp only [splitL]
    split
    · intro x hx
      rcases List.mem_cons.mp hx with rfl | hx
      · simp
      · exact ih x hx
    · rename_i h
      intro x hx
      cases e : splitL b r with
      | nil => exact absurd e (splitL_ne b r)
      | cons y ys =>
        rw [e] at hx ih
        rcases List.mem_cons.mp hx with rfl | hx
        · have := ih y (by simp)
          simp only [List.cons_append, List.nil_append, List.mem_cons, not_or]
          exact ⟨fun e => h e.symm, this⟩
        · exact ih x (by simp [hx])
theorem splitL_app (b : UInt8) (p r : List UInt8) (h : b ∉ p) : splitL b (p ++ r) = glue p (splitL b r) := by
  induction p with
  | nil => rw [List.nil_append, glue_nil (splitL_ne b r)]
  | cons c p ih =>
    simp only [List.mem_cons, not_or] at h
    simp only [List.cons_append, splitL]
    rw [if_neg (fun e => h.1 e.symm), ih h.2, glue_glue]; rfl
theorem splitL_joinL (b : UInt8) (rows : List (List UInt8)) (h0 : rows ≠ []) (h : ∀ x ∈ rows, b ∉ x) : splitL b (joinL [b] rows) = rows := by
  induction rows with
  | nil => exact absurd rfl h0
  | cons x r ih =>
    cases r with
    | nil =>
      have := splitL_app b x [] (h x (by simp))
      simp only [List.append_nil] at this
      simp [joinL, this, splitL, glue]
    | cons y ys =>
      rw [joinL_cons _ _ (by simp), List.append_assoc, splitL_app b x _ (h x (by simp))]
      simp only [List.cons_append, List.nil_append, splitL, if_true]
      rw [ih (by simp) (fun z hz => h z (by simp [hz]))]
      simp [glue]
theorem splitL_length (b : UInt8) (l : List UInt8) : (splitL b l).length ≤ l.length + 1 := by
  induction l with
  | nil => simp [splitL]
  | cons c r ih =>
    simp only [splitL]
    split
    · simp; omega
    · cases e : splitL b r with
      | nil => simp [glue]
      | cons y ys => rw [e] at ih; simp [glue] at ih ⊢; omega
theorem some_iff {b c : Bool} (h : b = true ↔ c = true) : some b = some c := by
  congr 1; exact Bool.eq_iff_iff.mpr h
theorem cast0 : ((0 : Nat) : Int) = 0 := rfl
theorem ext_snoc (s : ByteArray) {f i : Nat} (hf : f ≤ i) (h : i < s.size) : ((bl s).take (i + 1)).drop f = ((bl s).take i).drop f ++ [(bl s)[i]'(by rw [bl_length]; exact h)] := by
  have h' : i < (bl s).length := by rw [bl_length]; exact h
  rw [List.take_succ_eq_append_getElem h', List.drop_append_of_le_length (by rw [List.length_take]; omega)]
theorem drop_cons (s : ByteArray) {i : Nat} (h : i < s.size) : (bl s).drop i = (bl s)[i]'(by rw [bl_length]; exact h) :: (bl s).drop (i + 1) :=
  List.drop_eq_getElem_cons (by rw [bl_length]; exact h)
theorem ext_ob (s : ByteArray) (f i : Nat) : s.extract f i = ob (((bl s).take i).drop f) := by
  apply bl_inj; rw [bl_extract, bl_ob]
theorem take_all (s : ByteArray) : (bl s).take s.size = bl s := List.take_of_length_le (by rw [bl_length]; omega)
theorem drop_all (s : ByteArray) : (bl s).drop s.size = [] := List.drop_of_length_le (by rw [bl_length]; omega)
theorem drop_take_self (l : List UInt8) (i : Nat) : (l.take i).drop i = [] := List.drop_of_length_le (by rw [List.length_take]; omega)
theorem u8_ne10 {a : UInt8} (h : a ≠ 10) : ¬ ((a.toNat : Int) = 10) := fun e => h ((u8_eq (n := 10) (by omega)).mp (by omega))
theorem u8_ne32 {a : UInt8} (h : a ≠ 32) : ¬ ((a.toNat : Int) = 32) := fun e => h ((u8_eq (n := 32) (by omega)).mp (by omega))
theorem size_extract_le' (s : ByteArray) (i j : Nat) : (s.extract i j).size ≤ s.size := by rw [← bl_length, bl_extract]; simp [bl_length]; omega
theorem rdOf_ob {ws : List (List UInt8)} {i : Nat} (h : i < ws.length) : rdOf ByteArray.empty (ws.map ob) (i : Int) = ob ws[i] := by
  rw [rdOf_nat (by simpa using h)]; simp
/-- The letters of a command's further words: 116 any word, 105 a number, 106 any number. -/
def shp (w : List UInt8) : Option (List UInt8) :=
  if w = [112, 101, 111, 112, 108, 101] then some [116, 105, 106]
  else if w = [99, 108, 101, 97, 114] then some [116, 105]
  else if w = [115, 105, 103, 110, 97, 108] then some [116, 105]
  else if w = [115, 116, 97, 116, 101] then some [105]
  else if w = [102, 105, 114, 101] then some [105]
  else if w = [115, 101, 116, 116, 108, 101] then some [105]
  else if w = [116, 111, 112] then some [105]
  else if w = [116, 105, 109, 101] then some [105]
  else if w = [98, 111, 111, 107] then some [116, 116, 105]
  else if w = [108, 101, 102, 116] then some [116]
  else if w = [111, 112, 101, 110] then some []
  else if w = [110, 101, 101, 100] then some [105, 105]
  else none
def upS (l : List UInt8) : List UInt8 := l.map fun c => c - 32
theorem tl_bl (s : ByteArray) : s.toList = bl s := ByteArray.toList_eq s
theorem impl_commandShape_f (w : ByteArray) : impl_commandShape.fL w = some (ob ((shp (bl w)).getD []), (shp (bl w)).isSome) := by
  rw [impl_commandShape.fL_eq]
  simp only [impl_commandShape.j0L_eq, impl_commandShape.j1L_eq, tl_bl, beq_iff_eq]
  unfold shp
  generalize bl w = l
  by_cases h1 : l = [112, 101, 111, 112, 108, 101]
  · subst h1; rfl
  by_cases h2 : l = [99, 108, 101, 97, 114]
  · subst h2; rfl
  by_cases h3 : l = [115, 105, 103, 110, 97, 108]
  · subst h3; rfl
  by_cases h4 : l = [115, 116, 97, 116, 101]
  · subst h4; rfl
  by_cases h5 : l = [102, 105, 114, 101]
  · subst h5; rfl
  by_cases h6 : l = [115, 101, 116, 116, 108, 101]
  · subst h6; rfl
  by_cases h7 : l = [116, 111, 112]
  · subst h7; rfl
  by_cases h8 : l = [116, 105, 109, 101]
  · subst h8; rfl
  by_cases h9 : l = [98, 111, 111, 107]
  · subst h9; rfl
  by_cases h10 : l = [108, 101, 102, 116]
  · subst h10; rfl
  by_cases h11 : l = [111, 112, 101, 110]
  · subst h11; rfl
  by_cases h12 : l = [110, 101, 101, 100]
  · subst h12; rfl
  rw [if_neg h1, if_neg h2, if_neg h3, if_neg h4, if_neg h5, if_neg h6, if_neg h7, if_neg h8, if_neg h9, if_neg h10, if_neg h11, if_neg h12]
  simp only [h1, h2, h3, h4, h5, h6, h7, h8, h9, h10, h11, h12, if_false]
  rfl
theorem spec_l34Kind_f (w : ByteArray) : spec_l34Kind.fL w = some (ob (((shp (bl w)).map upS).getD [45])) := by
  rw [spec_l34Kind.fL_eq]
  simp only [spec_l34Kind.j0L_eq, spec_l34Kind.j1L_eq, tl_bl, beq_iff_eq]
  unfold shp
  generalize bl w = l
  by_cases h1 : l = [112, 101, 111, 112, 108, 101]
  · subst h1; rfl
  by_cases h2 : l = [99, 108, 101, 97, 114]
  · subst h2; rfl
  by_cases h3 : l = [115, 105, 103, 110, 97, 108]
  · subst h3; rfl
  by_cases h4 : l = [115, 116, 97, 116, 101]
  · subst h4; rfl
  by_cases h5 : l = [102, 105, 114, 101]
  · subst h5; rfl
  by_cases h6 : l = [115, 101, 116, 116, 108, 101]
  · subst h6; rfl
  by_cases h7 : l = [116, 111, 112]
  · subst h7; rfl
  by_cases h8 : l = [116, 105, 109, 101]
  · subst h8; rfl
  by_cases h9 : l = [98, 111, 111, 107]
  · subst h9; rfl
  by_cases h10 : l = [108, 101, 102, 116]
  · subst h10; rfl
  by_cases h11 : l = [111, 112, 101, 110]
  · subst h11; rfl
  by_cases h12 : l = [110, 101, 101, 100]
  · subst h12; rfl
  rw [if_neg h1, if_neg h2, if_neg h3, if_neg h4, if_neg h5, if_neg h6, if_neg h7, if_neg h8, if_neg h9, if_neg h10, if_neg h11, if_neg h12]
  simp only [h1, h2, h3, h4, h5, h6, h7, h8, h9, h10, h11, h12, if_false]
  rfl
theorem ite_some {α : Type} {p : Prop} [Decidable p] {a x : α} {b : Option α} (h : (if p then some a else b) = some x) : a = x ∨ b = some x := by
  by_cases hp : p
  · rw [if_pos hp] at h; exact .inl (Option.some.inj h)
  · rw [if_neg hp] at h; exact .inr h
theorem shp_letters {w sh : List UInt8} (h : shp w = some sh) : (∀ c ∈ sh, c = 116 ∨ c = 105 ∨ c = 106) ∧ sh.length ≤ 3 := by
  unfold shp at h
  rcases ite_some h with rfl | h
  · decide
  rcases ite_some h with rfl | h
  · decide
  rcases ite_some h with rfl | h
  · decide
  rcases ite_some h with rfl | h
  · decide
  rcases ite_some h with rfl | h
  · decide
  rcases ite_some h with rfl | h
  · decide
  rcases ite_some h with rfl | h
  · decide
  rcases ite_some h with rfl | h
  · decide
  rcases ite_some h with rfl | h
  · decide
  rcases ite_some h with rfl | h
  · decide
  rcases ite_some h with rfl | h
  · decide
  rcases ite_some h with rfl | h
  · decide
  cases h
def digs (n : Nat) : List UInt8 := if h : n < 10 then [UInt8.ofNat (48 + n)] else digs (n / 10) ++ [UInt8.ofNat (48 + n % 10)]
termination_by n
decreasing_by omega
theorem digs_small {n : Nat} (h : n < 10) : digs n = [UInt8.ofNat (48 + n)] := by rw [digs, dif_pos h]
theorem digs_big {n : Nat} (h : ¬ n < 10) : digs n = digs (n / 10) ++ [UInt8.ofNat (48 + n % 10)] := by rw [digs, dif_neg h]
theorem digs_len : ∀ (d n : Nat), n < 10 ^ (d + 1) → (digs n).length ≤ d + 1 ∧ 1 ≤ (digs n).length := by
  intro d
  induction d with
  | zero => intro n hn; rw [digs_small (by simpa using hn)]; simp
  | succ d ih =>
    intro n hn
    by_cases h : n < 10
    · rw [digs_small h]; simp
    · rw [digs_big h]
      have := ih (n / 10) (by rw [Nat.pow_succ] at hn; omega)
      simp; omega
def decB (n : Int) : ByteArray := ob (if n < 0 then 45 :: digs (-n).toNat else digs n.toNat)
theorem decB_nat (n : Nat) : decB (n : Int) = ob (digs n) := by unfold decB; rw [if_neg (by omega), Int.toNat_natCast]
theorem strOf_dig {x : Nat} (h : x < 10) : strOfNums [(wrap64 (48 + (x : Int))) % 256] = ob [UInt8.ofNat (48 + x)] := by
  rw [strOfNums_ob, w64 (by omega) (by omega)]
  simp only [List.map_cons, List.map_nil]
  congr 3; omega
theorem tmod10 (x : Nat) : Int.tmod (x : Int) 10 = ((x % 10 : Nat) : Int) := (Int.ofNat_tmod x 10).symm
theorem tdiv10 (x : Nat) : Int.tdiv (x : Int) 10 = ((x / 10 : Nat) : Int) := (Int.ofNat_tdiv x 10).symm
def isDig (c : UInt8) : Bool := decide (48 ≤ (c.toNat : Int) ∧ (c.toNat : Int) ≤ 57)
def valL : List UInt8 → Nat → Nat
  | [], a => a
  | c :: r, a => valL r (10 * a + (c.toNat - 48))
theorem head_app {α : Type} {p r : List α} (h : p ≠ []) : (p ++ r).head? = p.head? := by
  cases p with
  | nil => exact absurd rfl h
  | cons => rfl
theorem isDig_iff {c : UInt8} : isDig c = true ↔ 48 ≤ c.toNat ∧ c.toNat ≤ 57 := by unfold isDig; rw [decide_eq_true_eq]; omega
theorem valL_append (l r : List UInt8) (a : Nat) : valL (l ++ r) a = valL r (valL l a) := by
  induction l generalizing a with
  | nil => rfl
  | cons c l ih => simp only [List.cons_append, valL]; exact ih _
theorem valL_lt : ∀ (l : List UInt8) (a : Nat), (∀ c ∈ l, isDig c = true) → valL l a < (a + 1) * 10 ^ l.length := by
  intro l
  induction l with
  | nil => intro a _; simp [valL]
  | cons c r ih =>
    intro a h
    have hc := isDig_iff.mp (h c (by simp))
    have := ih (10 * a + (c.toNat - 48)) (fun x hx => h x (by simp [hx]))
    simp only [valL, List.length_cons]
    have h2 : (10 * a + (c.toNat - 48) + 1) * 10 ^ r.length ≤ ((a + 1) * 10) * 10 ^ r.length := Nat.mul_le_mul_right _ (by omega)
    have h3 : ((a + 1) * 10) * 10 ^ r.length = (a + 1) * 10 ^ (r.length + 1) := by rw [Nat.mul_assoc, ← Nat.pow_succ']
    omega
theorem digs_digits (n : Nat) : ∀ c ∈ digs n, isDig c = true := by
  induction n using Nat.strongRecOn with
  | _ n ih =>
    by_cases h : n < 10
    · rw [digs_small h]
      intro c hc
      rw [List.mem_singleton] at hc
      subst hc
      rw [isDig_iff, UInt8.toNat_ofNat']; omega
    · rw [digs_big h]
      intro c hc
      rcases List.mem_append.mp hc with hc | hc
      · exact ih (n / 10) (by omega) c hc
      · rw [List.mem_singleton] at hc
        subst hc
        rw [isDig_iff, UInt8.toNat_ofNat']; omega
theorem digs_val (n : Nat) : valL (digs n) 0 = n := by
  induction n using Nat.strongRecOn with
  | _ n ih =>
    by_cases h : n < 10
    · rw [digs_small h]; simp only [valL]; rw [UInt8.toNat_ofNat']; omega
    · rw [digs_big h, valL_append, ih (n / 10) (by omega)]
      simp only [valL]; rw [UInt8.toNat_ofNat']; omega
theorem digs_ne (n : Nat) : digs n ≠ [] := by
  by_cases h : n < 10
  · rw [digs_small h]; simp
  · rw [digs_big h]; simp
theorem digs_head {n : Nat} (h : n ≠ 0) : ∀ c, (digs n).head? = some c → c ≠ 48 := by
  induction n using Nat.strongRecOn with
  | _ n ih =>
    by_cases hn : n < 10
    · rw [digs_small hn]
      intro c hc
      simp only [List.head?_cons, Option.some.injEq] at hc
      subst hc
      intro e
      have := congrArg UInt8.toNat e
      rw [UInt8.toNat_ofNat'] at this
      have e2 : (48 : UInt8).toNat = 48 := rfl
      omega
    · rw [digs_big hn]
      intro c hc
      have h1 := digs_ne (n / 10)
      rw [head_app h1] at hc
      exact ih (n / 10) (by omega) (by omega) c hc
/-- a number's text is the only one without superfluous zeros -/
theorem digs_valL : ∀ (l : List UInt8), l ≠ [] → (∀ c ∈ l, isDig c = true) → (l.length = 1 ∨ l.head? ≠ some 48) → digs (valL l 0) = l := by
  have key : ∀ (k : Nat) (l : List UInt8), l.length = k → l ≠ [] → (∀ c ∈ l, isDig c = true) → (l.length = 1 ∨ l.head? ≠ some 48) → digs (valL l 0) = l := by
    intro k
    induction k with
    | zero => intro l hl hne; exact absurd (List.length_eq_zero_iff.mp hl) hne
    | succ k ih =>
      intro l hl hne hd hz
      obtain ⟨p, c, rfl⟩ : ∃ p c, l = p ++ [c] := ⟨l.dropLast, l.getLast hne, (List.dropLast_concat_getLast hne).symm⟩
      have hc := isDig_iff.mp (hd c (by simp))
      have ec : UInt8.ofNat (48 + (c.toNat - 48)) = c := by
        apply UInt8.toNat_inj.mp; rw [UInt8.toNat_ofNat']; omega
      simp only [List.length_append, List.length_cons, List.length_nil] at hl
      rw [valL_append]
      simp only [valL]
      by_cases hp : p = []
      · subst hp
        simp only [valL, List.nil_append]
        rw [Nat.mul_zero, Nat.zero_add, digs_small (by omega), ec]
      · have hpl : p.length ≠ 0 := fun e => hp (List.length_eq_zero_iff.mp e)
        have hp0 : p.head? ≠ some 48 := by
          rcases hz with hz | hz
          · rw [List.length_append, List.length_cons, List.length_nil] at hz; omega
          · rw [head_app hp] at hz; exact hz
        have ihp := ih p (by omega) hp (fun x hx => hd x (by simp [hx])) (.inr hp0)
        have hv : valL p 0 ≠ 0 := by
          intro e
          rw [e] at ihp
          rw [digs_small (by omega)] at ihp
          rw [← ihp] at hp0
          exact hp0 rfl
        rw [digs_big (by omega), show (10 * valL p 0 + (c.toNat - 48)) / 10 = valL p 0 by omega, ihp, show (10 * valL p 0 + (c.toNat - 48)) % 10 = c.toNat - 48 by omega, ec]
  intro l
  exact key l.length l rfl
theorem sub48 {b : UInt8} (h : isDig b = true) : ((b.toNat : Int) - 48) % 256 = ((b.toNat - 48 : Nat) : Int) := by have := isDig_iff.mp h; omega
theorem not_dig {b : UInt8} (h : isDig b ≠ true) (h1 : ¬ ((b.toNat : Int) < 48)) : (b.toNat : Int) > 57 := by
  have : ¬ (48 ≤ b.toNat ∧ b.toNat ≤ 57) := fun e => h (isDig_iff.mpr e)
  omega
theorem impl_readDecimal_l0 (s x : ByteArray) (hx : x.size ≤ 18) : ∀ (d i : Nat), i + d = x.size → ∀ a : Nat, a < 10 ^ i →
    impl_readDecimal.l0L s x (a : Int) (i : Int) = if ((bl x).drop i).all isDig then (if (x.size : Int) < (s.size : Int) then some (-((valL ((bl x).drop i) a : Nat) : Int), true) else some (((valL ((bl x).drop i) a : Nat) : Int), true)) else some (0, false) := by
  intro d
  induction d with
  | zero =>
    intro i hi a ha
    have : (10 : Nat) ^ i ≤ 10 ^ 18 := Nat.pow_le_pow_right (by omega) (by omega)
    have e18 : (10 : Nat) ^ 18 = 1000000000000000000 := by decide
    rw [impl_readDecimal.l0L_eq, if_neg (by omega), List.drop_of_length_le (by rw [bl_length]; omega), w64 (by omega) (by omega)]
    simp [valL]
  | succ d ih =>
    intro i hi a ha
    have hlt : i < (bl x).length := by rw [bl_length]; omega
    have h17 : (10 : Nat) ^ i ≤ 10 ^ 17 := Nat.pow_le_pow_right (by omega) (by omega)
    have e17 : (10 : Nat) ^ 17 = 100000000000000000 := by decide
    rw [impl_readDecimal.l0L_eq, if_pos (by omega), if_pos (by omega), bt_nat x (by omega), List.drop_eq_getElem_cons hlt, List.all_cons]
    by_cases hd : isDig (bl x)[i] = true
    · have h2 := isDig_iff.mp hd
      rw [if_neg (by omega), if_neg (by omega), sub48 hd, w64 (x := 10 * (a : Int)) (by omega) (by omega), w64 (by omega) (by omega), w64 (by omega) (by omega),
        show 10 * (a : Int) + (((bl x)[i].toNat - 48 : Nat) : Int) = ((10 * a + ((bl x)[i].toNat - 48) : Nat) : Int) by omega, show ((i : Int) + 1) = ((i + 1 : Nat) : Int) by omega,
        ih (i + 1) (by omega) _ (by rw [Nat.pow_succ]; omega), hd, Bool.true_and]
      rfl
    · rw [show isDig (bl x)[i] = false by simpa using hd, Bool.false_and]
      by_cases h1 : (((bl x)[i].toNat : Nat) : Int) < 48
      · rw [if_pos h1]; simp
      · rw [if_neg h1, if_pos (not_dig hd h1)]; simp
/-- A text's number: its digits, and whether a sign stands ahead. -/
def okDigs (l : List UInt8) (m : Nat) (neg : Bool) : Bool := decide (l ≠ [] ∧ l.length ≤ m ∧ (l.head? ≠ some 48 ∨ (l.length = 1 ∧ neg = false))) && l.all isDig
def rdD (s : ByteArray) : Int × Bool :=
  if (bl s).head? = some 45 then (if okDigs (bl s).tail 18 true then (-((valL (bl s).tail 0 : Nat) : Int), true) else (0, false))
  else (if okDigs (bl s) 18 false then (((valL (bl s) 0 : Nat) : Int), true) else (0, false))
theorem head_bl {s : ByteArray} (h : 0 < s.size) : ∃ c r, bl s = c :: r ∧ bt s 0 = (c.toNat : Int) := by
  cases e : bl s with
  | nil => have := bl_length s; rw [e] at this; simp at this; omega
  | cons c r =>
    refine ⟨c, r, rfl, ?_⟩
    have := bt_nat s (i := 0) h
    rw [cast0] at this
    rw [this]; simp [e]
theorem impl_readDecimal_j1 (s x : ByteArray) (neg : Bool) (hs : if neg then s.size = x.size + 1 else s.size = x.size) : impl_readDecimal.j1L s x =
    some (if okDigs (bl x) 18 neg then ((if neg then -((valL (bl x) 0 : Nat) : Int) else ((valL (bl x) 0 : Nat) : Int)), true) else (0, false)) := by
  have hxl := bl_length x
  have h00 := impl_readDecimal_l0 s x
  have bad : okDigs (bl x) 18 neg = false → impl_readDecimal.j2L s x true = some (if okDigs (bl x) 18 neg then ((if neg then -((valL (bl x) 0 : Nat) : Int) else ((valL (bl x) 0 : Nat) : Int)), true) else (0, false)) := by
    intro e; rw [e, impl_readDecimal.j2L_eq, if_pos rfl]; simp
  rw [impl_readDecimal.j1L_eq]
  by_cases h0 : (x.size : Int) = 0
  · rw [if_pos h0]
    refine bad ?_
    have : bl x = [] := List.length_eq_zero_iff.mp (by omega)
    unfold okDigs; rw [this]; rfl
  · rw [if_neg h0]
    by_cases h18 : (x.size : Int) > 18
    · rw [if_pos h18]
      refine bad ?_
      unfold okDigs
      rw [show decide (bl x ≠ [] ∧ (bl x).length ≤ 18 ∧ ((bl x).head? ≠ some 48 ∨ ((bl x).length = 1 ∧ neg = false))) = false from decide_eq_false (by omega), Bool.false_and]
    · obtain ⟨c, r, e, hb⟩ := head_bl (s := x) (by omega)
      have hl0 := h00 (by omega) x.size 0 (by omega) 0 (by omega)
      rw [cast0, List.drop_zero] at hl0
      have good : decide (bl x ≠ [] ∧ (bl x).length ≤ 18 ∧ ((bl x).head? ≠ some 48 ∨ ((bl x).length = 1 ∧ neg = false))) = true → impl_readDecimal.j2L s x false = some (if okDigs (bl x) 18 neg then ((if neg then -((valL (bl x) 0 : Nat) : Int) else ((valL (bl x) 0 : Nat) : Int)), true) else (0, false)) := by
        intro e1
        have e2 : okDigs (bl x) 18 neg = (bl x).all isDig := by unfold okDigs; rw [e1, Bool.true_and]
        rw [impl_readDecimal.j2L_eq, if_neg (by simp), hl0, e2]
        by_cases hd : (bl x).all isDig = true
        · rw [if_pos hd, if_pos hd]
          cases neg with
          | true => rw [if_pos (by simp at hs; omega)]; rfl
          | false => rw [if_neg (by simp at hs; omega)]; rfl
        · rw [if_neg hd, if_neg hd]
      have nb : ∀ p : Prop, [Decidable p] → ¬ p → decide p = false := fun p _ h => decide_eq_false h
      rw [if_neg h18, if_pos (by omega), hb]
      by_cases hc : c = 48
      · rw [if_pos (by rw [hc]; rfl)]
        by_cases h1 : (x.size : Int) > 1
        · rw [if_pos h1]
          refine bad ?_
          unfold okDigs
          rw [show decide (bl x ≠ [] ∧ (bl x).length ≤ 18 ∧ ((bl x).head? ≠ some 48 ∨ ((bl x).length = 1 ∧ neg = false))) = false from decide_eq_false (by
            rintro ⟨_, _, h | h⟩
            · rw [e, hc] at h; exact h rfl
            · omega), Bool.false_and]
        · rw [if_neg h1]
          cases neg with
          | true =>
            rw [if_pos rfl] at hs
            rw [show decide ((s.size : Int) > 1) = true from decide_eq_true (by omega)]
            refine bad ?_
            unfold okDigs
            rw [show decide (bl x ≠ [] ∧ (bl x).length ≤ 18 ∧ ((bl x).head? ≠ some 48 ∨ ((bl x).length = 1 ∧ true = false))) = false from decide_eq_false (by
              rintro ⟨_, _, h | h⟩
              · rw [e, hc] at h; exact h rfl
              · exact absurd h.2 (by simp)), Bool.false_and]
          | false =>
            rw [if_neg (by simp)] at hs
            rw [show decide ((s.size : Int) > 1) = false from decide_eq_false (by omega)]
            exact good (decide_eq_true ⟨by rw [e]; simp, by omega, .inr ⟨by omega, rfl⟩⟩)
      · rw [if_neg (fun e2 => hc ((u8_eq (n := 48) (by omega)).mp (by omega)))]
        exact good (decide_eq_true ⟨by rw [e]; simp, by omega, .inl (by rw [e]; simpa using hc)⟩)
theorem impl_readDecimal_f (s : ByteArray) (hs : s.size ≤ 1000000000) : impl_readDecimal.fL s = some (rdD s) := by
  rw [impl_readDecimal.fL_eq]
  unfold rdD
  by_cases h : (s.size : Int) > 0
  · obtain ⟨c, r, e, hb⟩ := head_bl (s := s) (by omega)
    rw [if_pos h, if_pos h, hb, impl_readDecimal.j0L_eq]
    have hl := bl_length s
    by_cases hc : c = 45
    · have ex : bl (s.extract 1 s.size) = (bl s).tail := by rw [bl_extract, take_all, List.drop_one]
      have hh : (bl s).head? = some 45 := by rw [e, hc]; rfl
      have ez : (s.extract 1 s.size).size + 1 = s.size := by rw [← bl_length, ex, ← bl_length s, e]; simp
      rw [if_pos (by rw [hc]; rfl), if_pos (by omega), impl_readDecimal_j1 s _ true (by simp; omega), ex, if_pos hh]
      rfl
    · have : ((c.toNat : Int) == 45) = false := by
        rw [beq_eq_false_iff_ne]; intro e2; exact hc ((u8_eq (n := 45) (by omega)).mp (by omega))
      have hh : ¬ (bl s).head? = some 45 := by rw [e]; simpa using hc
      rw [this, if_neg (by simp), impl_readDecimal_j1 s s false (by simp), if_neg hh]
      rfl
  · have : bl s = [] := List.length_eq_zero_iff.mp (by rw [bl_length]; omega)
    rw [if_neg h, impl_readDecimal.j0L_eq, if_neg (by simp), impl_readDecimal_j1 s s false (by simp), this]
    rfl
theorem spec_l01Dec_nat : ∀ (d n : Nat), d ≤ 20 → n < 10 ^ (d + 1) → n ≤ 1000000000000000000 → spec_l01Dec.fL (n : Int) = some (ob (digs n)) := by
  intro d
  induction d with
  | zero =>
    intro n _ hn _
    have hn' : n < 10 := by simpa using hn
    rw [spec_l01Dec.fL_eq, if_pos (by omega), strOf_dig hn', digs_small hn']
  | succ d ih =>
    intro n hd hn hm
    by_cases h : n < 10
    · rw [spec_l01Dec.fL_eq, if_pos (by omega), strOf_dig h, digs_small h]
    · have hn' : n / 10 < 10 ^ (d + 1) := by rw [Nat.pow_succ] at hn; omega
      have hl := digs_len d (n / 10) hn'
      rw [spec_l01Dec.fL_eq, if_neg (by omega), tdiv10, tmod10, w64 (by omega) (by omega), ih (n / 10) (by omega) hn' (by omega)]
      simp only [Option.bind_some]
      rw [strOf_dig (by omega), if_pos (by rw [ob_size, ob_size]; simp; omega), ob_append, digs_big h]
theorem spec_l01Dec_f {n : Int} (h0 : 0 ≤ n) (h : n ≤ 1000000000000000000) : spec_l01Dec.fL n = some (decB n) := by
  obtain ⟨m, rfl⟩ : ∃ m : Nat, n = m := ⟨n.toNat, by omega⟩
  rw [decB_nat]
  exact spec_l01Dec_nat 18 m (by omega) (by have : (10 : Nat) ^ (18 + 1) = 10000000000000000000 := by decide
                                            omega) (by omega)
def lenDig (l : List UInt8) (m : Nat) : Bool := decide (1 ≤ l.length ∧ l.length ≤ m) && l.all isDig
def rdV (s : ByteArray) : Int × Bool := if lenDig (bl s) 13 then (((valL (bl s) 0 : Nat) : Int), okDigs (bl s) 13 false) else (0, false)
theorem okDigs_lenDig {l : List UInt8} {m : Nat} (h : okDigs l m false = true) : lenDig l m = true := by
  unfold okDigs at h; unfold lenDig
  rw [Bool.and_eq_true, decide_eq_true_eq] at h
  rw [Bool.and_eq_true, decide_eq_true_eq]
  exact ⟨⟨List.length_pos_iff.mpr h.1.1, h.1.2.1⟩, h.2⟩
theorem digs_eq_iff {l : List UInt8} {m : Nat} (h : lenDig l m = true) : (digs (valL l 0) = l) ↔ okDigs l m false = true := by
  unfold lenDig at h
  rw [Bool.and_eq_true, decide_eq_true_eq] at h
  obtain ⟨⟨h1, h2⟩, h3⟩ := h
  have hne : l ≠ [] := fun e => by rw [e] at h1; simp at h1
  unfold okDigs
  rw [Bool.and_eq_true, decide_eq_true_eq]
  constructor
  · intro e
    refine ⟨⟨hne, h2, ?_⟩, h3⟩
    by_cases hv : valL l 0 = 0
    · right
      rw [hv, digs_small (by omega)] at e
      exact ⟨by rw [← e]; rfl, rfl⟩
    · left
      intro hh
      rw [← e] at hh
      exact digs_head hv 48 hh rfl
  · rintro ⟨⟨_, _, h4⟩, _⟩
    refine digs_valL l hne (fun c hc => List.all_eq_true.mp h3 c hc) ?_
    rcases h4 with h4 | h4
    · exact .inr h4
    · exact .inl h4.1
theorem spec_l01Value_l0 (x : ByteArray) (hx : x.size ≤ 13) (h0 : 1 ≤ x.size) (hall : ∀ a : Nat, a < 10 ^ 13 → spec_l01Value.l0L x (a : Int) (x.size : Int) = some ((a : Int), decide (digs a = bl x))) : ∀ (d i : Nat), i + d = x.size → ∀ a : Nat, a < 10 ^ i →
    spec_l01Value.l0L x (a : Int) (i : Int) = if ((bl x).drop i).all isDig then some (((valL ((bl x).drop i) a : Nat) : Int), decide (digs (valL ((bl x).drop i) a) = bl x)) else some (0, false) := by
  intro d
  induction d with
  | zero =>
    intro i hi a ha
    obtain rfl : i = x.size := by omega
    have : (10 : Nat) ^ x.size ≤ 10 ^ 13 := Nat.pow_le_pow_right (by omega) (by omega)
    rw [drop_all, hall a (by omega)]
    simp only [List.all_nil, if_true, valL]
    try congr
  | succ d ih =>
    intro i hi a ha
    have hlt : i < (bl x).length := by rw [bl_length]; omega
    have h17 : (10 : Nat) ^ i ≤ 10 ^ 13 := Nat.pow_le_pow_right (by omega) (by omega)
    have e17 : (10 : Nat) ^ 13 = 10000000000000 := by decide
    rw [spec_l01Value.l0L_eq, if_pos (by omega), if_pos (by omega), bt_nat x (by omega), List.drop_eq_getElem_cons hlt, List.all_cons]
    by_cases hd : isDig (bl x)[i] = true
    · have h2 := isDig_iff.mp hd
      rw [if_neg (by omega), if_neg (by omega), sub48 hd, w64 (x := 10 * (a : Int)) (by omega) (by omega), w64 (by omega) (by omega), w64 (by omega) (by omega),
        show 10 * (a : Int) + (((bl x)[i].toNat - 48 : Nat) : Int) = ((10 * a + ((bl x)[i].toNat - 48) : Nat) : Int) by omega, show ((i : Int) + 1) = ((i + 1 : Nat) : Int) by omega,
        ih (i + 1) (by omega) _ (by rw [Nat.pow_succ]; omega), hd, Bool.true_and]
      rfl
    · rw [show isDig (bl x)[i] = false by simpa using hd, Bool.false_and]
      by_cases h1 : (((bl x)[i].toNat : Nat) : Int) < 48
      · rw [if_pos h1]; simp
      · rw [if_neg h1, if_pos (not_dig hd h1)]; simp
theorem spec_l01Value_f (s : ByteArray) (hs : s.size ≤ 1000000000) : spec_l01Value.fL s = some (rdV s) := by
  rw [spec_l01Value.fL_eq]
  unfold rdV
  have hl := bl_length s
  by_cases h1 : (s.size : Int) < 1
  · rw [if_pos h1, spec_l01Value.j0L_eq, if_pos rfl, show lenDig (bl s) 13 = false from by unfold lenDig; rw [show decide (1 ≤ (bl s).length ∧ (bl s).length ≤ 13) = false from decide_eq_false (by omega), Bool.false_and]]
    simp
  · rw [if_neg h1, spec_l01Value.j0L_eq]
    by_cases h2 : (s.size : Int) > 13
    · rw [if_pos (decide_eq_true h2), show lenDig (bl s) 13 = false from by unfold lenDig; rw [show decide (1 ≤ (bl s).length ∧ (bl s).length ≤ 13) = false from decide_eq_false (by omega), Bool.false_and]]
      simp
    · have hall : ∀ a : Nat, a < 10 ^ 13 → spec_l01Value.l0L s (a : Int) (s.size : Int) = some ((a : Int), decide (digs a = bl s)) := by
        intro a ha
        have e17 : (10 : Nat) ^ 13 = 10000000000000 := by decide
        rw [spec_l01Value.l0L_eq, if_neg (by omega), spec_l01Dec_f (by omega) (by omega), decB_nat]
        simp only [Option.bind_some]
        congr 2
        rw [ByteArray.toList_eq, ByteArray.toList_eq]
        show (bl (ob (digs a)) == bl s) = _
        rw [bl_ob, Bool.eq_iff_iff, beq_iff_eq, decide_eq_true_eq]
      have hm := spec_l01Value_l0 s (by omega) (by omega) hall s.size 0 (by omega) 0 (by omega)
      rw [cast0, List.drop_zero] at hm
      rw [if_neg (by simpa using h2), hm]
      by_cases hd : (bl s).all isDig = true
      · have hld : lenDig (bl s) 13 = true := by unfold lenDig; rw [hd, Bool.and_true, decide_eq_true_eq]; omega
        rw [if_pos hd, if_pos hld]
        congr 2
        rw [Bool.eq_iff_iff, decide_eq_true_eq]
        exact digs_eq_iff hld
      · have hld : ¬ lenDig (bl s) 13 = true := by
          unfold lenDig; rw [Bool.and_eq_true]; exact fun h => hd h.2
        rw [if_neg hd, if_neg hld]
def rdS (s : ByteArray) : Int × Bool :=
  if (bl s).head? = some 45 then (-(rdV (s.extract 1 s.size)).1, (rdV (s.extract 1 s.size)).2 && decide ((rdV (s.extract 1 s.size)).1 > 0)) else rdV s
theorem rdV_range (s : ByteArray) : 0 ≤ (rdV s).1 ∧ (rdV s).1 ≤ 10000000000000 := by
  unfold rdV
  split
  · rename_i h
    unfold lenDig at h
    rw [Bool.and_eq_true, decide_eq_true_eq] at h
    have h1 := valL_lt (bl s) 0 (fun c hc => List.all_eq_true.mp h.2 c hc)
    have h2 : (10 : Nat) ^ (bl s).length ≤ 10 ^ 13 := Nat.pow_le_pow_right (by omega) h.1.2
    have e17 : (10 : Nat) ^ 13 = 10000000000000 := by decide
    simp only; omega
  · simp
theorem spec_l01Signed_f (s : ByteArray) (hs : s.size ≤ 1000000000) : spec_l01Signed.fL s = some (rdS s) := by
  rw [spec_l01Signed.fL_eq]
  unfold rdS
  by_cases h : (s.size : Int) > 0
  · obtain ⟨c, r, e, hb⟩ := head_bl (s := s) (by omega)
    rw [if_pos h, if_pos h, hb, spec_l01Signed.j0L_eq]
    have hsz := size_extract_le' s
    by_cases hc : c = 45
    · have hh : (bl s).head? = some 45 := by rw [e, hc]; rfl
      have hr := rdV_range (s.extract 1 s.size)
      rw [if_pos (by rw [hc]; rfl), if_pos (by omega), spec_l01Value_f _ (by have := hsz 1 s.size; omega), if_pos hh]
      simp only [Option.bind_some]
      rw [w64 (by omega) (by omega)]
      by_cases h2 : (rdV (s.extract 1 s.size)).2 = true
      · rw [if_pos h2, h2, Bool.true_and]
      · rw [if_neg h2, show (rdV (s.extract 1 s.size)).2 = false by simpa using h2, Bool.false_and]
    · have hh : ¬ (bl s).head? = some 45 := by rw [e]; simpa using hc
      have : ((c.toNat : Int) == 45) = false := by
        rw [beq_eq_false_iff_ne]; intro e2; exact hc ((u8_eq (n := 45) (by omega)).mp (by omega))
      rw [this, if_neg (by simp), spec_l01Value_f _ hs, if_neg hh]
      rfl
  · have he : bl s = [] := List.length_eq_zero_iff.mp (by rw [bl_length]; omega)
    rw [if_neg h, spec_l01Signed.j0L_eq, if_neg (by simp), spec_l01Value_f _ hs, if_neg (by rw [he]; simp)]
    rfl
theorem impl_splitAt_l0 (s : ByteArray) (b : UInt8) (hs : s.size ≤ 1000000) : ∀ i : Int, 0 ≤ i → i ≤ (s.size : Int) → ∀ (f : Int) (out : List ByteArray), 0 ≤ f → f ≤ i → (out.length : Int) ≤ i →
    impl_splitAt.l0L s (b.toNat : Int) out f i = some (out ++ (glue (((bl s).take i.toNat).drop f.toNat) (splitL b ((bl s).drop i.toNat))).map ob) := by
  apply up_ind
  · intro f out h0 h1 h2
    rw [impl_splitAt.l0L_eq, if_neg (by omega), if_pos h0, if_pos h1, if_pos (by omega)]
    rw [Int.toNat_natCast, take_all, drop_all]
    simp only [splitL, glue, List.append_nil, List.map_cons, List.map_nil]
    rw [ext_ob, take_all]
  · intro i h0 hi ih f out hf0 hf hl
    have hb := bt_bl s h0 hi
    have hin : i.toNat < s.size := by omega
    have e1 : (i + 1).toNat = i.toNat + 1 := by omega
    have ew : wrap64 (i + 1) = i + 1 := w64 (by omega) (by omega)
    rw [impl_splitAt.l0L_eq, if_pos hi, if_pos h0, hb, drop_cons s hin]
    by_cases hc : (bl s)[i.toNat]'(by rw [bl_length]; exact hin) = b
    · rw [if_pos (by rw [hc]), if_pos hf0, if_pos hf, if_pos (by omega), if_pos (by omega), ew, ih _ _ (by omega) (by omega) (by simp; omega), e1, drop_take_self, glue_nil (splitL_ne _ _)]
      simp only [splitL, hc, if_true, glue, List.append_nil, List.map_cons, List.append_assoc, List.cons_append, List.nil_append]
      rw [ext_ob]
    · rw [if_neg (by intro e; exact hc (UInt8.toNat_inj.mp (by omega))), ew, ih _ _ (by omega) (by omega) (by omega), e1, ext_snoc s (by omega) hin]
      simp only [splitL, if_neg hc]
      rw [glue_glue]
theorem impl_splitAt_f (s : ByteArray) (b : UInt8) (hs : s.size ≤ 1000000) : impl_splitAt.fL s (b.toNat : Int) = some ((splitL b (bl s)).map ob) := by
  rw [impl_splitAt.fL_eq, impl_splitAt_l0 s b hs 0 (by omega) (by omega) 0 [] (by omega) (by omega) (by simp)]
  simp [glue_nil (splitL_ne _ _)]
theorem spec_l01Split_l0 (s : ByteArray) (b : UInt8) (hs : s.size ≤ 1000000) : ∀ i : Int, 0 ≤ i → i ≤ (s.size : Int) → ∀ (f : Int) (out : List ByteArray), 0 ≤ f → f ≤ i → (out.length : Int) ≤ i →
    spec_l01Split.l0L s (b.toNat : Int) out f i = some (out ++ (glue (((bl s).take i.toNat).drop f.toNat) (splitL b ((bl s).drop i.toNat))).map ob) := by
  apply up_ind
  · intro f out h0 h1 h2
    rw [spec_l01Split.l0L_eq, if_pos (by omega), if_pos rfl, if_pos h0, if_pos h1, if_pos (by omega), w64 (by omega) (by omega), spec_l01Split.l0L_eq, if_neg (by omega)]
    rw [Int.toNat_natCast, take_all, drop_all]
    simp only [splitL, glue, List.append_nil, List.map_cons, List.map_nil]
    rw [ext_ob, take_all]
  · intro i h0 hi ih f out hf0 hf hl
    have hb := bt_bl s h0 hi
    have hin : i.toNat < s.size := by omega
    have e1 : (i + 1).toNat = i.toNat + 1 := by omega
    have ew : wrap64 (i + 1) = i + 1 := w64 (by omega) (by omega)
    rw [spec_l01Split.l0L_eq, if_pos (by omega), if_neg (by omega), if_pos h0, if_pos hi, hb, drop_cons s hin]
    by_cases hc : (bl s)[i.toNat]'(by rw [bl_length]; exact hin) = b
    · rw [if_pos (by rw [hc]), if_pos hf0, if_pos hf, if_pos (by omega), ew, ih _ _ (by omega) (by omega) (by simp; omega), e1, drop_take_self, glue_nil (splitL_ne _ _)]
      simp only [splitL, hc, if_true, glue, List.append_nil, List.map_cons, List.append_assoc, List.cons_append, List.nil_append]
      rw [ext_ob]
    · rw [if_neg (by intro e; exact hc (UInt8.toNat_inj.mp (by omega))), ew, ih _ _ (by omega) (by omega) (by omega), e1, ext_snoc s (by omega) hin]
      simp only [splitL, if_neg hc]
      rw [glue_glue]
theorem spec_l01Split_f (s : ByteArray) (b : UInt8) (hs : s.size ≤ 1000000) : spec_l01Split.fL s (b.toNat : Int) = some ((splitL b (bl s)).map ob) := by
  rw [spec_l01Split.fL_eq, spec_l01Split_l0 s b hs 0 (by omega) (by omega) 0 [] (by omega) (by omega) (by simp)]
  simp [glue_nil (splitL_ne _ _)]
/-- A number of a command, as both read it. -/
def okI (w : List UInt8) : Bool := okDigs w 13 false
def okJ (w : List UInt8) : Bool := if w.head? = some 45 then okDigs w.tail 13 true else okDigs w 13 false
def numJ (w : List UInt8) : Int := if w.head? = some 45 then -((valL w.tail 0 : Nat) : Int) else ((valL w 0 : Nat) : Int)
theorem okDigs_13 {l : List UInt8} {neg : Bool} : okDigs l 13 neg = (okDigs l 18 neg && decide (l.length ≤ 13)) := by
  unfold okDigs
  rw [Bool.eq_iff_iff]
  simp only [Bool.and_eq_true, decide_eq_true_eq]
  constructor
  · rintro ⟨⟨h1, h2, h3⟩, h4⟩; exact ⟨⟨⟨h1, by omega, h3⟩, h4⟩, h2⟩
  · rintro ⟨⟨⟨h1, h2, h3⟩, h4⟩, h5⟩; exact ⟨⟨h1, h5, h3⟩, h4⟩
theorem okDigs_45 {l : List UInt8} (h : l.head? = some 45) (m : Nat) (neg : Bool) : okDigs l m neg = false := by
  cases l with
  | nil => simp at h
  | cons c r =>
    simp only [List.head?_cons, Option.some.injEq] at h
    subst h
    unfold okDigs
    have : isDig 45 = false := by decide
    rw [List.all_cons, this, Bool.false_and, Bool.and_false]
theorem val_pos {l : List UInt8} {m : Nat} (h : okDigs l m true = true) : 0 < valL l 0 := by
  unfold okDigs at h
  rw [Bool.and_eq_true, decide_eq_true_eq] at h
  obtain ⟨⟨h1, h2, h3⟩, h4⟩ := h
  have h3' : l.head? ≠ some 48 := by
    rcases h3 with h3 | h3
    · exact h3
    · exact absurd h3.2 (by simp)
  have hd := digs_valL l h1 (fun c hc => List.all_eq_true.mp h4 c hc) (.inr h3')
  apply Nat.pos_of_ne_zero
  intro e
  rw [e, digs_small (by omega)] at hd
  rw [← hd] at h3'
  exact h3' rfl
theorem okDigs_true {l : List UInt8} {m : Nat} (h : okDigs l m true = true) : okDigs l m false = true := by
  unfold okDigs at h ⊢
  rw [Bool.and_eq_true, decide_eq_true_eq] at h ⊢
  obtain ⟨⟨h1, h2, h3⟩, h4⟩ := h
  refine ⟨⟨h1, h2, ?_⟩, h4⟩
  rcases h3 with h3 | h3
  · exact .inl h3
  · exact absurd h3.2 (by simp)
theorem okDigs_false_pos {l : List UInt8} {m : Nat} (h : okDigs l m false = true) (hv : 0 < valL l 0) : okDigs l m true = true := by
  unfold okDigs at h ⊢
  rw [Bool.and_eq_true, decide_eq_true_eq] at h ⊢
  obtain ⟨⟨h1, h2, h3⟩, h4⟩ := h
  refine ⟨⟨h1, h2, .inl ?_⟩, h4⟩
  rcases h3 with h3 | ⟨h3, _⟩
  · exact h3
  · intro hh
    cases l with
    | nil => exact absurd rfl h1
    | cons c r =>
      simp only [List.length_cons] at h3
      obtain rfl : r = [] := List.length_eq_zero_iff.mp (by omega)
      simp only [List.head?_cons, Option.some.injEq] at hh
      subst hh
      simp [valL] at hv
theorem rdV_I (w : List UInt8) : (rdV (ob w)).2 = okI w ∧ (okI w = true → (rdV (ob w)).1 = ((valL w 0 : Nat) : Int)) := by
  unfold rdV okI
  rw [bl_ob]
  by_cases h : lenDig w 13 = true
  · rw [if_pos h]; exact ⟨by first | rfl | trivial, fun _ => by first | rfl | trivial⟩
  · rw [if_neg h]
    have : okDigs w 13 false = false := by
      cases e : okDigs w 13 false with
      | false => rfl
      | true => exact absurd (okDigs_lenDig e) h
    rw [this]; exact ⟨rfl, fun h => by cases h⟩
theorem ob_tail (w : List UInt8) : (ob w).extract 1 (ob w).size = ob w.tail := by
  apply bl_inj; rw [bl_extract, take_all, bl_ob, bl_ob, List.drop_one]
theorem rdS_J (w : List UInt8) : (rdS (ob w)).2 = okJ w ∧ (okJ w = true → (rdS (ob w)).1 = numJ w) := by
  unfold rdS okJ numJ
  rw [bl_ob]
  by_cases h : w.head? = some 45
  · rw [if_pos h, if_pos h, if_pos h, ob_tail]
    obtain ⟨h1, h2⟩ := rdV_I w.tail
    unfold okI at h1 h2
    constructor
    · simp only
      rw [h1, Bool.eq_iff_iff, Bool.and_eq_true, decide_eq_true_eq]
      constructor
      · rintro ⟨h3, h4⟩; rw [h2 h3] at h4; exact okDigs_false_pos h3 (by omega)
      · intro h3
        have h4 := okDigs_true h3
        have h5 := val_pos h3
        rw [h2 h4]; exact ⟨h4, by omega⟩
    · intro h3; simp only; rw [h2 (okDigs_true h3)]
  · rw [if_neg h, if_neg h, if_neg h]; exact rdV_I w
theorem rdD_I (w : List UInt8) : (¬ ((rdD (ob w)).1 < 0) ∧ (rdD (ob w)).2 = true ∧ w.length ≤ 13 ↔ okI w = true) ∧ (okI w = true → (rdD (ob w)).1 = ((valL w 0 : Nat) : Int)) := by
  unfold rdD okI
  rw [bl_ob]
  by_cases h : w.head? = some 45
  · rw [if_pos h, okDigs_45 h]
    refine ⟨⟨?_, fun h => by cases h⟩, fun h => by cases h⟩
    rintro ⟨h1, h2, h3⟩
    by_cases h4 : okDigs w.tail 18 true = true
    · rw [if_pos h4] at h1
      have := val_pos h4
      simp only at h1; omega
    · rw [if_neg h4] at h2; cases h2
  · rw [if_neg h, okDigs_13]
    by_cases h4 : okDigs w 18 false = true
    · rw [if_pos h4, h4, Bool.true_and, decide_eq_true_eq]
      simp only
      exact ⟨⟨fun h => h.2.2, fun h => ⟨by omega, by trivial, h⟩⟩, fun _ => by trivial⟩
    · rw [if_neg h4, show okDigs w 18 false = false by simpa using h4, Bool.false_and]
      simp
theorem rdD_J (w : List UInt8) : ((rdD (ob w)).2 = true ∧ (if (rdD (ob w)).1 < 0 then (w.length : Int) - 1 else (w.length : Int)) ≤ 13 ↔ okJ w = true) ∧ (okJ w = true → (rdD (ob w)).1 = numJ w) := by
  unfold rdD okJ numJ
  rw [bl_ob]
  by_cases h : w.head? = some 45
  · rw [if_pos h, if_pos h, if_pos h, okDigs_13]
    have hw : w.length = w.tail.length + 1 := by
      cases w with
      | nil => simp at h
      | cons => simp
    by_cases h4 : okDigs w.tail 18 true = true
    · have := val_pos h4
      rw [if_pos h4, h4, Bool.true_and, decide_eq_true_eq, if_pos (by simp only; omega)]
      simp only
      exact ⟨⟨fun h => by omega, fun h => ⟨trivial, by omega⟩⟩, fun _ => trivial⟩
    · rw [if_neg h4, show okDigs w.tail 18 true = false by simpa using h4, Bool.false_and]
      simp
  · rw [if_neg h, if_neg h, if_neg h, okDigs_13]
    by_cases h4 : okDigs w 18 false = true
    · rw [if_pos h4, h4, Bool.true_and, decide_eq_true_eq, if_neg (by simp only; omega)]
      simp only
      exact ⟨⟨fun h => by omega, fun h => ⟨trivial, by omega⟩⟩, fun _ => trivial⟩
    · rw [if_neg h4, show okDigs w 18 false = false by simpa using h4, Bool.false_and]
      simp
/-- One word of a command: may it stand, and what is added. -/
def okC (c : UInt8) (w : List UInt8) : Bool := if c = 116 then true else if c = 105 then okI w else okJ w
def addW (c : UInt8) (w : List UInt8) : List (List UInt8) := if c = 116 then [w] else []
def addN (c : UInt8) (w : List UInt8) : List Int := if c = 116 then [] else if c = 105 then [((valL w 0 : Nat) : Int)] else [numJ w]
def zipC {α : Type} (f : UInt8 → List UInt8 → List α) : List UInt8 → List (List UInt8) → List α
  | c :: cs, w :: ws => f c w ++ zipC f cs ws
  | _, _ => []
def okAll : List UInt8 → List (List UInt8) → Bool
  | c :: cs, w :: ws => okC c w && okAll cs ws
  | _, _ => true
theorem upS_at {sh : List UInt8} {i : Nat} (h : i < sh.length) : (upS sh)[i]'(by simpa [upS] using h) = sh[i] - 32 := by simp [upS]
theorem impl_commandOf_l0 (ws : List (List UInt8)) (sh : List UInt8) (hl : ws.length = sh.length + 1) (hs : sh.length ≤ 3) (hc : ∀ c ∈ sh, c = 116 ∨ c = 105 ∨ c = 106) (hw : ∀ w ∈ ws, w.length ≤ 1000000) (nm : ByteArray) :
    ∀ (d i : Nat), i + d = sh.length → ∀ (wa : List ByteArray) (na : List Int), wa.length ≤ i → na.length ≤ i →
    impl_commandOf.l0L (ws.map ob) (ob sh) (i : Int) nm wa na = some (bif okAll (sh.drop i) (ws.drop (i + 1)) then (nm, wa ++ (zipC addW (sh.drop i) (ws.drop (i + 1))).map ob, na ++ zipC addN (sh.drop i) (ws.drop (i + 1)), true) else (⟨#[]⟩, [], [], false)) := by
  intro d
  induction d with
  | zero =>
    intro i hi wa na h1 h2
    rw [impl_commandOf.l0L_eq, if_neg (by rw [ob_size]; omega), List.drop_of_length_le (by omega), List.drop_of_length_le (by omega)]
    simp [okAll, zipC]
  | succ d ih =>
    intro i hi wa na h1 h2
    have hlt : i < sh.length := by omega
    have hlt2 : i + 1 < ws.length := by omega
    have e1 : ((i : Int) + 1) = ((i + 1 : Nat) : Int) := by omega
    have hwl := hw _ (List.getElem_mem hlt2)
    rw [impl_commandOf.l0L_eq, if_pos (by rw [ob_size]; omega), w64 (x := (i : Int) + 1) (by omega) (by omega), if_pos (by omega), if_pos (by rw [List.length_map]; omega), if_pos (by omega), e1, rdOf_ob hlt2, bt_nat (ob sh) (by rw [ob_size]; exact hlt), List.drop_eq_getElem_cons hlt, List.drop_eq_getElem_cons hlt2]
    simp only [bl_ob, okAll, zipC]
    have ih' := ih (i + 1) (by omega)
    generalize hcc : sh[i] = c
    have hcm := hc _ (List.getElem_mem hlt)
    rw [hcc] at hcm
    generalize ws[i + 1] = w at hwl ⊢
    rcases hcm with rfl | rfl | rfl
    · rw [if_pos (by decide), if_pos (by omega), ih' _ _ (by simp; omega) (by omega)]
      simp [okC, addW, addN]
    · rw [if_neg (by decide), impl_readDecimal_f _ (by rw [ob_size]; omega)]
      simp only [Option.bind_some]
      obtain ⟨k1, k2⟩ := rdD_I w
      have hno : okC 105 w = okI w := by simp [okC]
      rw [hno]
      by_cases hk : okI w = true
      · obtain ⟨k3, k4, k5⟩ := k1.mpr hk
        rw [if_neg k3, if_pos k4, if_neg (by rw [ob_size]; omega), if_pos (by omega), ih' _ _ (by omega) (by simp; omega), k2 hk, hk, Bool.true_and]
        simp [addW, addN]
      · rw [show okI w = false by simpa using hk, Bool.false_and]
        by_cases k3 : (rdD (ob w)).1 < 0
        · rw [if_pos k3]
          by_cases k4 : (rdD (ob w)).2 = true
          · rw [if_pos k4, if_pos (by decide : (((105 : UInt8).toNat : Nat) : Int) = 105)]
            simp
          · rw [if_neg k4]; simp
        · rw [if_neg k3]
          by_cases k4 : (rdD (ob w)).2 = true
          · have k5 : ¬ w.length ≤ 13 := fun h => hk (k1.mp ⟨k3, k4, h⟩)
            rw [if_pos k4, if_pos (by rw [ob_size]; omega)]; simp
          · rw [if_neg k4]; simp
    · rw [if_neg (by decide), impl_readDecimal_f _ (by rw [ob_size]; omega)]
      simp only [Option.bind_some]
      obtain ⟨k1, k2⟩ := rdD_J w
      have hno : okC 106 w = okJ w := by simp [okC]
      rw [hno]
      by_cases hk : okJ w = true
      · obtain ⟨k4, k5⟩ := k1.mpr hk
        rw [hk, Bool.true_and]
        by_cases k3 : (rdD (ob w)).1 < 0
        · rw [if_pos k3] at k5
          rw [if_pos k3, if_pos k4, if_neg (by rw [ob_size, w64 (by omega) (by omega)]; omega), if_neg (by decide : ¬ (((106 : UInt8).toNat : Nat) : Int) = 105), if_pos (by omega), ih' _ _ (by omega) (by simp; omega), k2 hk]
          simp [addW, addN]
        · rw [if_neg k3] at k5
          rw [if_neg k3, if_pos k4, if_neg (by rw [ob_size]; omega), if_pos (by omega), ih' _ _ (by omega) (by simp; omega), k2 hk]
          simp [addW, addN]
      · rw [show okJ w = false by simpa using hk, Bool.false_and]
        by_cases k4 : (rdD (ob w)).2 = true
        · have k5 : ¬ (if (rdD (ob w)).1 < 0 then (w.length : Int) - 1 else (w.length : Int)) ≤ 13 := fun h => hk (k1.mp ⟨k4, h⟩)
          by_cases k3 : (rdD (ob w)).1 < 0
          · rw [if_pos k3] at k5
            rw [if_pos k3, if_pos k4, if_pos (by rw [ob_size, w64 (by omega) (by omega)]; omega)]; simp
          · rw [if_neg k3] at k5
            rw [if_neg k3, if_pos k4, if_pos (by rw [ob_size]; omega)]; simp
        · by_cases k3 : (rdD (ob w)).1 < 0
          · rw [if_pos k3, if_neg k4]; simp
          · rw [if_neg k3, if_neg k4]; simp
theorem spec_l34Parse_l0 (ws : List (List UInt8)) (sh : List UInt8) (hl : ws.length = sh.length + 1) (hs : sh.length ≤ 3) (hc : ∀ c ∈ sh, c = 116 ∨ c = 105 ∨ c = 106) (hw : ∀ w ∈ ws, w.length ≤ 1000000) :
    ∀ (d i : Nat), i + d = sh.length → ∀ (na : List Int), na.length ≤ i →
    spec_l34Parse.l0L (ws.map ob) (ob (upS sh)) na (i : Int) = some (bif okAll (sh.drop i) (ws.drop (i + 1)) then (ws.map ob, na ++ zipC addN (sh.drop i) (ws.drop (i + 1)), true) else ([], [], false)) := by
  intro d
  have hul : (upS sh).length = sh.length := by simp [upS]
  induction d with
  | zero =>
    intro i hi na h2
    rw [spec_l34Parse.l0L_eq, if_neg (by rw [ob_size]; omega), List.drop_of_length_le (by omega), List.drop_of_length_le (by omega)]
    simp [okAll, zipC]
  | succ d ih =>
    intro i hi na h2
    have hlt : i < sh.length := by omega
    have hlt2 : i + 1 < ws.length := by omega
    have e1 : ((i : Int) + 1) = ((i + 1 : Nat) : Int) := by omega
    have hwl := hw _ (List.getElem_mem hlt2)
    rw [spec_l34Parse.l0L_eq, if_pos (by rw [ob_size]; omega), if_pos (by omega), bt_nat (ob (upS sh)) (by rw [ob_size]; omega), w64 (x := (i : Int) + 1) (by omega) (by omega), e1, rdOf_ob hlt2, List.drop_eq_getElem_cons hlt, List.drop_eq_getElem_cons hlt2]
    simp only [bl_ob, okAll, zipC, upS_at hlt]
    have ih' := ih (i + 1) (by omega)
    generalize hcc : sh[i] = c
    have hcm := hc _ (List.getElem_mem hlt)
    rw [hcc] at hcm
    generalize ws[i + 1] = w at hwl ⊢
    rcases hcm with rfl | rfl | rfl
    · rw [if_neg (by decide), if_neg (by decide), ih' _ (by omega)]
      simp [okC, addN]
    · rw [if_pos (by decide), if_pos (by omega), if_pos (by rw [List.length_map]; omega), spec_l01Value_f _ (by rw [ob_size]; omega)]
      simp only [Option.bind_some]
      obtain ⟨k1, k2⟩ := rdV_I w
      have hno : okC 105 w = okI w := by simp [okC]
      rw [hno, k1]
      by_cases hk : okI w = true
      · rw [if_pos hk, if_pos (by omega), ih' _ (by simp; omega), k2 hk, hk, Bool.true_and]
        simp [addN]
      · rw [if_neg hk, show okI w = false by simpa using hk, Bool.false_and]
        simp
    · rw [if_neg (by decide), if_pos (by decide), if_pos (by omega), if_pos (by rw [List.length_map]; omega), spec_l01Signed_f _ (by rw [ob_size]; omega)]
      simp only [Option.bind_some]
      obtain ⟨k1, k2⟩ := rdS_J w
      have hno : okC 106 w = okJ w := by simp [okC]
      rw [hno, k1]
      by_cases hk : okJ w = true
      · rw [if_pos hk, if_pos (by omega), ih' _ (by simp; omega), k2 hk, hk, Bool.true_and]
        simp [addN]
      · rw [if_neg hk, show okJ w = false by simpa using hk, Bool.false_and]
        simp
/-- A line's words and its first word's shape. -/
def wordsOf (s : ByteArray) : List (List UInt8) := splitL 32 (bl s)
theorem wordsOf_ne (s : ByteArray) : ∃ w ws, wordsOf s = w :: ws := by
  cases e : wordsOf s with
  | nil => exact absurd e (splitL_ne 32 (bl s))
  | cons w ws => exact ⟨w, ws, rfl⟩
theorem splitL_len (b : UInt8) (l : List UInt8) : ∀ x ∈ splitL b l, x.length ≤ l.length := by
  induction l with
  | nil => simp [splitL]
  | cons c r ih =>
    simp only [splitL]
    intro x hx
    split at hx
    · rcases List.mem_cons.mp hx with rfl | hx
      · simp
      · have := ih x hx; simp; omega
    · cases e : splitL b r with
      | nil => exact absurd e (splitL_ne b r)
      | cons y ys =>
        rw [e] at hx ih
        rcases List.mem_cons.mp hx with rfl | hx
        · have := ih y (by simp); simp; omega
        · have := ih x (by simp [hx]); simp; omega
def cmdOk (s : ByteArray) : Option (List UInt8) :=
  match shp ((wordsOf s).headD []) with
  | none => none
  | some sh => if (wordsOf s).length = sh.length + 1 ∧ okAll sh ((wordsOf s).drop 1) = true then some sh else none
theorem impl_commandOf_f (s : ByteArray) (hs : s.size ≤ 1000000) : impl_commandOf.fL s = some (match cmdOk s with
    | some sh => (ob ((wordsOf s).headD []), (zipC addW sh ((wordsOf s).drop 1)).map ob, zipC addN sh ((wordsOf s).drop 1), true)
    | none => (⟨#[]⟩, [], [], false)) := by
  have h32 : (32 : Int) = (((32 : UInt8).toNat : Nat) : Int) := by decide
  have hlw := splitL_len 32 (bl s)
  rw [bl_length] at hlw
  have hl2 := splitL_length 32 (bl s)
  rw [bl_length] at hl2
  rw [impl_commandOf.fL_eq, h32, impl_splitAt_f s 32 hs]
  simp only [Option.bind_some]
  rw [show splitL 32 (bl s) = wordsOf s from rfl] at hlw hl2 ⊢
  unfold cmdOk
  obtain ⟨w, ws, e⟩ := wordsOf_ne s
  rw [e] at hlw hl2 ⊢
  have e0 : rdOf ByteArray.empty ((w :: ws).map ob) 0 = ob w := by
    have := rdOf_ob (ws := w :: ws) (i := 0) (by simp)
    rw [cast0] at this
    rw [this]; rfl
  rw [if_pos (by simp), e0, impl_commandShape_f, bl_ob]
  simp only [Option.bind_some, List.headD_cons, List.drop_succ_cons, List.drop_zero]
  cases hsh : shp w with
  | none => simp only [Option.isSome_none]; rw [if_neg (by simp), impl_commandOf.j0L_eq, if_pos rfl]
  | some sh =>
    obtain ⟨hc, hs3⟩ := shp_letters hsh
    simp only [Option.isSome_some, if_true, Option.getD_some]
    rw [ob_size, w64 (by omega) (by omega), List.length_map, impl_commandOf.j0L_eq]
    by_cases hl : (w :: ws).length = sh.length + 1
    · have hb : (((w :: ws).length : Int) != (sh.length : Int) + 1) = false := by rw [bne_eq_false_iff_eq]; omega
      have := impl_commandOf_l0 (w :: ws) sh hl hs3 hc (fun x hx => by have := hlw x hx; omega) (ob w) sh.length 0 (by omega) [] [] (by simp) (by simp)
      rw [cast0] at this
      rw [hb, if_neg (by simp), if_pos (by simp), e0, this]
      simp only [List.drop_zero, List.drop_succ_cons, List.nil_append, Nat.zero_add]
      by_cases hk : okAll sh ws = true
      · rw [hk, if_pos ⟨hl, rfl⟩]; rfl
      · rw [show okAll sh ws = false by simpa using hk, if_neg (fun h => by simpa using h.2)]; rfl
    · have hb : (((w :: ws).length : Int) != (sh.length : Int) + 1) = true := by rw [bne_iff_ne]; omega
      rw [hb, if_pos rfl, if_neg (fun h => hl h.1)]
theorem spec_l34Parse_f (s : ByteArray) (hs : s.size ≤ 1000000) : spec_l34Parse.fL s = some (match cmdOk s with
    | some sh => ((wordsOf s).map ob, zipC addN sh ((wordsOf s).drop 1), true)
    | none => ([], [], false)) := by
  have h32 : (32 : Int) = (((32 : UInt8).toNat : Nat) : Int) := by decide
  have hlw := splitL_len 32 (bl s)
  rw [bl_length] at hlw
  have hl2 := splitL_length 32 (bl s)
  rw [bl_length] at hl2
  rw [spec_l34Parse.fL_eq, h32, spec_l01Split_f s 32 hs]
  simp only [Option.bind_some]
  rw [show splitL 32 (bl s) = wordsOf s from rfl] at hlw hl2 ⊢
  unfold cmdOk
  obtain ⟨w, ws, e⟩ := wordsOf_ne s
  rw [e] at hlw hl2 ⊢
  have e0 : rdOf ByteArray.empty ((w :: ws).map ob) 0 = ob w := by
    have := rdOf_ob (ws := w :: ws) (i := 0) (by simp)
    rw [cast0] at this
    rw [this]; rfl
  rw [if_pos (by simp), e0, spec_l34Kind_f, bl_ob]
  simp only [Option.bind_some, List.headD_cons, List.drop_succ_cons, List.drop_zero, tl_bl, bl_ob]
  cases hsh : shp w with
  | none => simp only [Option.map_none, Option.getD_none, if_true]; rw [spec_l34Parse.j0L_eq, if_pos rfl]
  | some sh =>
    obtain ⟨hc, hs3⟩ := shp_letters hsh
    simp only [Option.map_some, Option.getD_some]
    have hne : ¬ upS sh = [45] := by
      intro h
      cases sh with
      | nil => cases h
      | cons c r =>
        have h1 := hc c (by simp)
        simp only [upS, List.map_cons, List.cons.injEq] at h
        rcases h1 with rfl | rfl | rfl
        · exact absurd h.1 (by decide)
        · exact absurd h.1 (by decide)
        · exact absurd h.1 (by decide)
    have hul : (upS sh).length = sh.length := by simp [upS]
    rw [if_neg hne, ob_size, hul, w64 (by omega) (by omega), List.length_map, spec_l34Parse.j0L_eq]
    by_cases hl : (w :: ws).length = sh.length + 1
    · have hb : (((w :: ws).length : Int) != (sh.length : Int) + 1) = false := by rw [bne_eq_false_iff_eq]; omega
      have := spec_l34Parse_l0 (w :: ws) sh hl hs3 hc (fun x hx => by have := hlw x hx; omega) sh.length 0 (by omega) [] (by simp)
      rw [cast0] at this
      rw [hb, if_neg (by simp), this]
      simp only [List.drop_zero, List.drop_succ_cons, List.nil_append, Nat.zero_add]
      by_cases hk : okAll sh ws = true
      · rw [hk, if_pos ⟨hl, rfl⟩]; rfl
      · rw [show okAll sh ws = false by simpa using hk, if_neg (fun h => by simpa using h.2)]; rfl
    · have hb : (((w :: ws).length : Int) != (sh.length : Int) + 1) = true := by rw [bne_iff_ne]; omega
      rw [hb, if_pos rfl, if_neg (fun h => hl h.1)]
theorem FnExactIsConsoleLine_fL (s : ByteArray) : laws_FnExactIsConsoleLine.fL s = some true := by
  rw [laws_FnExactIsConsoleLine.fL_eq]
  by_cases h : (s.size : Int) > 1000000
  · rw [if_pos h]
  · rw [if_neg h, spec_IsConsoleLine.fL_eq, impl_IsConsoleLine.fL_eq, impl_commandOf_f s (by omega), spec_l34Parse_f s (by omega)]
    simp only [Option.bind_some]
    cases cmdOk s <;> simp
theorem FnExactIsConsoleLine : laws_FnExactIsConsoleLine.Pure := by
  intro a0 h0
  exact of_Lim (FnExactIsConsoleLine_fL a0)
end Go.Proofs.Ytppfdipgaifhiaa.Pure
