/- FnExactEntriesOf: for every text and every kind, the program and the reference return the same texts of entries, and what the program returns is its own memory. -/
import Derived.Test.YtppfdipgaifhiaaFFnExactEntriesOf
import Derived.Laws.Strings
namespace Go.Proofs.Ytppfdipgaifhiaa.Pure
open Go.RowKit Go.Proofs.Ytppfdipgaifhiaa.Q Go.Proofs.YtppfdipgaifhiaaW.PrintWords Go.Proofs.YtppfdipgaifhiaaW.PrintLast Go.Proofs.YtppfdipgaifhiaaW.PrintMore
set_option linter.unusedVariables false
set_option linter.unusedSimpArgs false
theorem w64 {x : Int} (h : -9223372036854775808 ≤ x) (h' : x ≤ 9223372036854775807) : wrap64 x = x := by unfold wrap64; omega
theorem of_wf64 {x : Int} (h : (Lit.int .i64 x).wf = true) : -9223372036854775808 ≤ x ∧ x ≤ 9223372036854775807 := by
  simp only [Lit.wf, Bool.and_eq_true, decide_eq_true_eq] at h
  have e1 : IntKind.i64.min = -9223372036854775808 := by decide
  have e2 : IntKind.i64.max = 9223372036854775807 := by decide
  omega
/-- Upwards through a row. -/
theorem up_ind {P : Int → Prop} (n : Int) (he : P n) (hs : ∀ i, 0 ≤ i → i < n → P (i + 1) → P i) : ∀ i, 0 ≤ i → i ≤ n → P i := by
  have key : ∀ (d : Nat) (i : Int), 0 ≤ i → i ≤ n → n - i = d → P i := by
    intro d
    induction d with
    | zero => intro i h0 h1 h2; have : i = n := by omega
              rw [this]; exact he
    | succ d ih => intro i h0 h1 h2; exact hs i h0 (by omega) (ih (i + 1) (by omega) (by omega) (by omega))
  intro i h0 h1
  exact key (n - i).toNat i h0 h1 (by omega)
theorem ba_toList {a b : ByteArray} : a.toList = b.toList ↔ a = b := by
  rw [ByteArray.toList_eq, ByteArray.toList_eq]
  exact ⟨fun h => ByteArray.ext (Array.toList_inj.mp h), fun h => by rw [h]⟩
theorem rdOf_lt {α : Type} {d : α} {xs : List α} {i : Int} (h0 : 0 ≤ i) (h : i < (xs.length : Int)) : rdOf d xs i = xs[i.toNat]'(by omega) := by
  unfold rdOf; rw [List.getD_eq_getElem?_getD, List.getElem?_eq_getElem (by omega)]; rfl
theorem rd_lt {xs : List Int} {i : Int} (h0 : 0 ≤ i) (h : i < (xs.length : Int)) : rd xs i = xs[i.toNat]'(by omega) := by
  unfold rd; rw [List.getD_eq_getElem?_getD, List.getElem?_eq_getElem (by omega)]; rfl
theorem bt_lt {s : ByteArray} {i : Int} (h : i.toNat < s.size) : bt s i = ((s[i.toNat]'h).toNat : Int) := by
  unfold bt; rw [dif_pos h]
theorem rdOf_nat {α : Type} {d : α} {xs : List α} {i : Nat} (h : i < xs.length) : rdOf d xs (i : Int) = xs[i] := by
  unfold rdOf; rw [List.getD_eq_getElem?_getD, Int.toNat_natCast, List.getElem?_eq_getElem h]; rfl
/-! bytes as lists -/
def bl (s : ByteArray) : List UInt8 := s.data.toList
def ob (l : List UInt8) : ByteArray := ⟨l.toArray⟩
theorem bl_ob (l : List UInt8) : bl (ob l) = l := by simp [bl, ob]
theorem ob_bl (s : ByteArray) : ob (bl s) = s := by simp [bl, ob]
theorem bl_inj {a b : ByteArray} (h : bl a = bl b) : a = b := by rw [← ob_bl a, h, ob_bl]
theorem bl_length (s : ByteArray) : (bl s).length = s.size := by simp only [bl, Array.length_toList]; rfl
theorem ob_size (l : List UInt8) : (ob l).size = l.length := by rw [← bl_length, bl_ob]
theorem bl_append (a b : ByteArray) : bl (a ++ b) = bl a ++ bl b := by simp [bl]
theorem ob_append (a b : List UInt8) : ob a ++ ob b = ob (a ++ b) := by apply bl_inj; rw [bl_append, bl_ob, bl_ob, bl_ob]
theorem bl_lit (a : Array UInt8) : bl (⟨a⟩ : ByteArray) = a.toList := rfl
theorem bl_extract (s : ByteArray) (i j : Nat) : bl (s.extract i j) = ((bl s).take j).drop i := by
  simp only [bl, ByteArray.data_extract, Array.toList_extract, List.extract]
  rw [List.drop_take]
theorem bt_bl (s : ByteArray) {i : Int} (h0 : 0 ≤ i) (h : i < (s.size : Int)) : bt s i = ((((bl s)[i.toNat]'(by rw [bl_length]; omega)).toNat : Nat) : Int) := by
  rw [bt_lt (by omega)]; rfl
theorem bt_nat (s : ByteArray) {i : Nat} (h : i < s.size) : bt s (i : Int) = ((((bl s)[i]'(by rw [bl_length]; omega)).toNat : Nat) : Int) := by
  rw [bt_bl s (by omega) (by omega)]; rfl
theorem u8_eq {a : UInt8} {n : Nat} (h : n < 256) : ((a.toNat : Int) = (n : Int)) ↔ a = UInt8.ofNat n := by
  constructor
  · intro e
    apply UInt8.toNat_inj.mp
    rw [UInt8.toNat_ofNat']; omega
  · rintro rfl
    rw [UInt8.toNat_ofNat']; omega
theorem strOfNums_ob (l : List Int) : strOfNums l = ob (l.map fun n => UInt8.ofNat n.toNat) := rfl
/-! splitting at a byte, and putting together -/
def glue (p : List UInt8) : List (List UInt8) → List (List UInt8)
  | [] => [p]
  | x :: xs => (p ++ x) :: xs
def splitL (b : UInt8) : List UInt8 → List (List UInt8)
  | [] => [[]]
  | c :: r => if c = b then [] :: splitL b r else glue [c] (splitL b r)
def joinL (sep : List UInt8) : List (List UInt8) → List UInt8
  | [] => []
  | [x] => x
  | x :: y :: r => x ++ sep ++ joinL sep (y :: r)
theorem splitL_ne (b : UInt8) (l : List UInt8) : splitL b l ≠ [] := by
  cases l with
  | nil => simp [splitL]
  | cons c r => simp only [splitL]; split
                · simp
                · cases splitL b r <;> simp [glue]
theorem glue_nil {x : List (List UInt8)} (h : x ≠ []) : glue [] x = x := by
  cases x with
  | nil => exact absurd rfl h
  | cons => rfl
theorem glue_glue (p q : List UInt8) (x : List (List UInt8)) : glue p (glue q x) = glue (p ++ q) x := by
  cases x <;> simp [glue]
theorem joinL_glue (sep p : List UInt8) (x : List (List UInt8)) : joinL sep (glue p x) = p ++ joinL sep x := by
  cases x with
  | nil => simp [glue, joinL]
  | cons y ys => cases ys <;> simp [glue, joinL]
theorem joinL_cons (sep : List UInt8) (x : List UInt8) {r : List (List UInt8)} (h : r ≠ []) : joinL sep (x :: r) = x ++ sep ++ joinL sep r := by
  cases r with
  | nil => exact absurd rfl h
  | cons => rfl
theorem joinL_splitL (b : UInt8) (l : List UInt8) : joinL [b] (splitL b l) = l := by
  induction l with
  | nil => rfl
  | cons c r ih =>
    simp only [splitL]
    split
    · rename_i h; rw [joinL_cons _ _ (splitL_ne b r), ih, h]; rfl
    · rw [joinL_glue, ih]; rfl
theorem splitL_mem (b : UInt8) (l : List UInt8) : ∀ x ∈ splitL b l, b ∉ x := by
  induction l with
  | nil => simp [splitL]
  | cons c r ih =>
    simp only [splitL]
    split
    · intro x hx
      rcases List.mem_cons.mp hx with rfl | hx
      · simp
      · exact ih x hx
    · rename_i h
      intro x hx
      cases e : splitL b r with
      | nil => exact absurd e (splitL_ne b r)
      | cons y ys =>
        rw [e] at hx ih
        rcases List.mem_cons.mp hx with rfl | hx
        · have := ih y (by simp)
          simp only [List.cons_append, List.nil_append, List.mem_cons, not_or]
          exact ⟨fun e => h e.symm, this⟩
        · exact ih x (by simp [hx])
theorem splitL_app (b : UInt8) (p r : List UInt8) (h : b ∉ p) : splitL b (p ++ r) = glue p (splitL b r) := by
  induction p with
  | nil => rw [List.nil_append, glue_nil (splitL_ne b r)]
  | cons c p ih =>
    simp only [List.mem_cons, not_or] at h
    simp only [List.cons_append, splitL]
    rw [if_neg (fun e => h.1 e.symm), ih h.2, glue_glue]; rfl
theorem splitL_joinL (b : UInt8) (rows : List (List UInt8)) (h0 : rows ≠ []) (h : ∀ x ∈ rows, b ∉ x) : splitL b (joinL [b] rows) = rows := by
  induction rows with
  | nil => exact absurd rfl h0
  | cons x r ih =>
    cases r with
    | nil =>
      have := splitL_app b x [] (h x (by simp))
      simp only [List.append_nil] at this
      simp [joinL, this, splitL, glue]
    | cons y ys =>
      rw [joinL_cons _ _ (by simp), List.append_assoc, splitL_app b x _ (h x (by simp))]
      simp only [List.cons_append, List.nil_append, splitL, if_true]
      rw [ih (by simp) (fun z hz => h z (by simp [hz]))]
      simp [glue]
theorem splitL_length (b : UInt8) (l : List UInt8) : (splitL b l).length ≤ l.length + 1 := by
  induction l with
  | nil => simp [splitL]
  | cons c r ih =>
    simp only [splitL]
    split
    · simp; omega
    · cases e : splitL b r with
      | nil => simp [glue]
      | cons y ys => rw [e] at ih; simp [glue] at ih ⊢; omega
theorem some_iff {b c : Bool} (h : b = true ↔ c = true) : some b = some c := by
  congr 1; exact Bool.eq_iff_iff.mpr h
theorem cast0 : ((0 : Nat) : Int) = 0 := rfl
def entryOk (k : Int) (t : ByteArray) : Bool := decide (97 ≤ k ∧ k ≤ 122 ∧ t.size ≤ 40) && (bl t).all fun c => decide (32 ≤ (c.toNat : Int) ∧ (c.toNat : Int) ≤ 126)
theorem spec_l33Is_l0 (k : Int) (t : ByteArray) (ht : t.size ≤ 1000000) : ∀ (d i : Nat), i + d = t.size →
    spec_l33Is.l0L (i : Int) k t = some (((bl t).drop i).all (fun c => decide (32 ≤ (c.toNat : Int) ∧ (c.toNat : Int) ≤ 126)) && decide (97 ≤ k ∧ k ≤ 122 ∧ t.size ≤ 40)) := by
  intro d
  induction d with
  | zero =>
    intro i hi
    rw [spec_l33Is.l0L_eq, if_neg (by omega), List.drop_of_length_le (by rw [bl_length]; omega)]
    simp only [List.all_nil, Bool.true_and]
    by_cases h1 : k ≥ 97
    · rw [if_pos h1]
      by_cases h2 : k ≤ 122
      · rw [if_pos h2]; apply some_iff; simp only [decide_eq_true_eq]; omega
      · rw [if_neg h2]; congr 1; symm; apply decide_eq_false; omega
    · rw [if_neg h1]; congr 1; symm; apply decide_eq_false; omega
  | succ d ih =>
    intro i hi
    have hlt : i < (bl t).length := by rw [bl_length]; omega
    rw [spec_l33Is.l0L_eq, if_pos (by omega), if_pos (by omega), bt_nat t (by omega), List.drop_eq_getElem_cons hlt, List.all_cons, w64 (by omega) (by omega)]
    by_cases h1 : ((((bl t)[i].toNat : Nat) : Int) < 32)
    · rw [if_pos h1, show decide (32 ≤ (((bl t)[i].toNat : Nat) : Int) ∧ (((bl t)[i].toNat : Nat) : Int) ≤ 126) = false from decide_eq_false (by omega)]; simp
    · rw [if_neg h1]
      by_cases h2 : ((((bl t)[i].toNat : Nat) : Int) > 126)
      · rw [if_pos h2, show decide (32 ≤ (((bl t)[i].toNat : Nat) : Int) ∧ (((bl t)[i].toNat : Nat) : Int) ≤ 126) = false from decide_eq_false (by omega)]; simp
      · rw [if_neg h2, show decide (32 ≤ (((bl t)[i].toNat : Nat) : Int) ∧ (((bl t)[i].toNat : Nat) : Int) ≤ 126) = true from decide_eq_true (by omega), Bool.true_and,
          show ((i : Int) + 1) = ((i + 1 : Nat) : Int) by omega, ih (i + 1) (by omega)]
theorem spec_l33Is_f (k : Int) (t : ByteArray) (ht : t.size ≤ 1000000) : spec_l33Is.fL k t = some (entryOk k t) := by
  rw [spec_l33Is.fL_eq]
  have := spec_l33Is_l0 k t ht t.size 0 (by omega)
  rw [cast0] at this
  rw [this, Bool.and_comm]; rfl
theorem impl_isEntry_l0 (k : Int) (t : ByteArray) (ht : t.size ≤ 1000000) : ∀ (d i : Nat), i + d = t.size →
    impl_isEntry.l0L (i : Int) k t = some (((bl t).drop i).all (fun c => decide (32 ≤ (c.toNat : Int) ∧ (c.toNat : Int) ≤ 126))) := by
  intro d
  induction d with
  | zero =>
    intro i hi
    rw [impl_isEntry.l0L_eq, if_neg (by omega), List.drop_of_length_le (by rw [bl_length]; omega)]
    simp
  | succ d ih =>
    intro i hi
    have hlt : i < (bl t).length := by rw [bl_length]; omega
    rw [impl_isEntry.l0L_eq, if_pos (by omega), if_pos (by omega), bt_nat t (by omega), List.drop_eq_getElem_cons hlt, List.all_cons, w64 (by omega) (by omega)]
    by_cases h1 : ((((bl t)[i].toNat : Nat) : Int) < 32)
    · rw [if_pos h1, show decide (32 ≤ (((bl t)[i].toNat : Nat) : Int) ∧ (((bl t)[i].toNat : Nat) : Int) ≤ 126) = false from decide_eq_false (by omega)]; simp
    · rw [if_neg h1]
      by_cases h2 : ((((bl t)[i].toNat : Nat) : Int) > 126)
      · rw [if_pos h2, show decide (32 ≤ (((bl t)[i].toNat : Nat) : Int) ∧ (((bl t)[i].toNat : Nat) : Int) ≤ 126) = false from decide_eq_false (by omega)]; simp
      · rw [if_neg h2, show decide (32 ≤ (((bl t)[i].toNat : Nat) : Int) ∧ (((bl t)[i].toNat : Nat) : Int) ≤ 126) = true from decide_eq_true (by omega), Bool.true_and,
          show ((i : Int) + 1) = ((i + 1 : Nat) : Int) by omega, ih (i + 1) (by omega)]
theorem impl_isEntry_f (k : Int) (t : ByteArray) (ht : t.size ≤ 1000000) : impl_isEntry.fL k t = some (entryOk k t) := by
  have hl := impl_isEntry_l0 k t ht t.size 0 (by omega)
  rw [cast0, List.drop_zero] at hl
  rw [impl_isEntry.fL_eq]
  unfold entryOk
  by_cases h1 : k < 97
  · rw [if_pos h1, impl_isEntry.j0L_eq, if_pos rfl, show decide (97 ≤ k ∧ k ≤ 122 ∧ t.size ≤ 40) = false from decide_eq_false (by omega), Bool.false_and]
  · rw [if_neg h1]
    by_cases h2 : k > 122
    · rw [if_pos h2, impl_isEntry.j0L_eq, if_pos rfl, show decide (97 ≤ k ∧ k ≤ 122 ∧ t.size ≤ 40) = false from decide_eq_false (by omega), Bool.false_and]
    · rw [if_neg h2, impl_isEntry.j0L_eq]
      by_cases h3 : (t.size : Int) > 40
      · rw [if_pos (decide_eq_true h3), show decide (97 ≤ k ∧ k ≤ 122 ∧ t.size ≤ 40) = false from decide_eq_false (by omega), Bool.false_and]
      · rw [if_neg (by simpa using h3), hl, show decide (97 ≤ k ∧ k ≤ 122 ∧ t.size ≤ 40) = true from decide_eq_true (by omega), Bool.true_and]
def ckL : Int → List UInt8 → Int
  | c, [] => c
  | c, b :: r => ckL ((c * 29 + (b.toNat : Int)) % 9973) r
theorem ckL_range : ∀ (l : List UInt8) (c : Int), 0 ≤ c → c ≤ 9972 → 0 ≤ ckL c l ∧ ckL c l ≤ 9972 := by
  intro l
  induction l with
  | nil => intro c h0 h1; exact ⟨h0, h1⟩
  | cons b r ih => intro c h0 h1; simp only [ckL]; exact ih _ (by omega) (by omega)
def ckE (c k : Int) (t : ByteArray) : Int := ckL ((c * 29 + k) % 9973) (bl t)
theorem ckE_range {c k : Int} (t : ByteArray) : 0 ≤ ckE c k t ∧ ckE c k t ≤ 9972 := ckL_range _ _ (by omega) (by omega)
theorem ck_step {c b : Int} (h0 : 0 ≤ c) (h1 : c ≤ 10000) (h2 : 0 ≤ b) (h3 : b ≤ 255) : Int.tmod (wrap64 ((wrap64 (c * 29)) + (wrap64 b))) 9973 = (c * 29 + b) % 9973 := by
  rw [w64 (x := c * 29) (by omega) (by omega), w64 (x := b) (by omega) (by omega), w64 (by omega) (by omega), Int.tmod_eq_emod_of_nonneg (by omega)]
theorem spec_l33Check_l0 (k : Int) (t : ByteArray) (ht : t.size ≤ 1000000) : ∀ (d i : Nat), i + d = t.size → ∀ c, 0 ≤ c → c ≤ 10000 → spec_l33Check.l0L c (i : Int) k t = some (ckL c ((bl t).drop i)) := by
  intro d
  induction d with
  | zero => intro i hi c _ _; rw [spec_l33Check.l0L_eq, if_neg (by omega), List.drop_of_length_le (by rw [bl_length]; omega)]; rfl
  | succ d ih =>
    intro i hi c h0 h1
    have hlt : i < (bl t).length := by rw [bl_length]; omega
    have hb : (bl t)[i].toNat ≤ 255 := by have := (bl t)[i].toNat_lt; omega
    rw [spec_l33Check.l0L_eq, if_pos (by omega), if_pos (by omega), bt_nat t (by omega), List.drop_eq_getElem_cons hlt, ck_step h0 h1 (by omega) (by omega), w64 (by omega) (by omega),
      show ((i : Int) + 1) = ((i + 1 : Nat) : Int) by omega, ih (i + 1) (by omega) _ (by omega) (by omega)]
    rfl
theorem spec_l33Check_f {c k : Int} (t : ByteArray) (ht : t.size ≤ 1000000) (h0 : 0 ≤ c) (h1 : c ≤ 10000) (h2 : 0 ≤ k) (h3 : k ≤ 255) : spec_l33Check.fL c k t = some (ckE c k t) := by
  rw [spec_l33Check.fL_eq, ck_step h0 h1 h2 h3]
  exact spec_l33Check_l0 k t ht t.size 0 (by omega) _ (by omega) (by omega)
theorem impl_nextCheck_l0 (k : Int) (t : ByteArray) (ht : t.size ≤ 1000000) : ∀ (d i : Nat), i + d = t.size → ∀ c, 0 ≤ c → c ≤ 10000 → impl_nextCheck.l0L c (i : Int) k t = some (ckL c ((bl t).drop i)) := by
  intro d
  induction d with
  | zero => intro i hi c _ _; rw [impl_nextCheck.l0L_eq, if_neg (by omega), List.drop_of_length_le (by rw [bl_length]; omega)]; rfl
  | succ d ih =>
    intro i hi c h0 h1
    have hlt : i < (bl t).length := by rw [bl_length]; omega
    have hb : (bl t)[i].toNat ≤ 255 := by have := (bl t)[i].toNat_lt; omega
    rw [impl_nextCheck.l0L_eq, if_pos (by omega), if_pos (by omega), bt_nat t (by omega), List.drop_eq_getElem_cons hlt, ck_step h0 h1 (by omega) (by omega), w64 (by omega) (by omega),
      show ((i : Int) + 1) = ((i + 1 : Nat) : Int) by omega, ih (i + 1) (by omega) _ (by omega) (by omega)]
    rfl
theorem impl_nextCheck_f {c k : Int} (t : ByteArray) (ht : t.size ≤ 1000000) (h0 : 0 ≤ c) (h1 : c ≤ 10000) (h2 : 0 ≤ k) (h3 : k ≤ 255) : impl_nextCheck.fL c k t = some (ckE c k t) := by
  rw [impl_nextCheck.fL_eq, ck_step h0 h1 h2 h3]
  exact impl_nextCheck_l0 k t ht t.size 0 (by omega) _ (by omega) (by omega)
def digs (n : Nat) : List UInt8 := if h : n < 10 then [UInt8.ofNat (48 + n)] else digs (n / 10) ++ [UInt8.ofNat (48 + n % 10)]
termination_by n
decreasing_by omega
theorem digs_small {n : Nat} (h : n < 10) : digs n = [UInt8.ofNat (48 + n)] := by rw [digs, dif_pos h]
theorem digs_big {n : Nat} (h : ¬ n < 10) : digs n = digs (n / 10) ++ [UInt8.ofNat (48 + n % 10)] := by rw [digs, dif_neg h]
theorem digs_len : ∀ (d n : Nat), n < 10 ^ (d + 1) → (digs n).length ≤ d + 1 ∧ 1 ≤ (digs n).length := by
  intro d
  induction d with
  | zero => intro n hn; rw [digs_small (by simpa using hn)]; simp
  | succ d ih =>
    intro n hn
    by_cases h : n < 10
    · rw [digs_small h]; simp
    · rw [digs_big h]
      have := ih (n / 10) (by rw [Nat.pow_succ] at hn; omega)
      simp; omega
def decB (n : Int) : ByteArray := ob (if n < 0 then 45 :: digs (-n).toNat else digs n.toNat)
theorem decB_nat (n : Nat) : decB (n : Int) = ob (digs n) := by unfold decB; rw [if_neg (by omega), Int.toNat_natCast]
theorem strOf_dig {x : Nat} (h : x < 10) : strOfNums [(wrap64 (48 + (x : Int))) % 256] = ob [UInt8.ofNat (48 + x)] := by
  rw [strOfNums_ob, w64 (by omega) (by omega)]
  simp only [List.map_cons, List.map_nil]
  congr 3; omega
theorem tmod10 (x : Nat) : Int.tmod (x : Int) 10 = ((x % 10 : Nat) : Int) := (Int.ofNat_tmod x 10).symm
theorem tdiv10 (x : Nat) : Int.tdiv (x : Int) 10 = ((x / 10 : Nat) : Int) := (Int.ofNat_tdiv x 10).symm
theorem spec_l01Dec_nat : ∀ (d n : Nat), d ≤ 20 → n < 10 ^ (d + 1) → n ≤ 1000000000000000000 → spec_l01Dec.fL (n : Int) = some (ob (digs n)) := by
  intro d
  induction d with
  | zero =>
    intro n _ hn _
    have hn' : n < 10 := by simpa using hn
    rw [spec_l01Dec.fL_eq, if_pos (by omega), strOf_dig hn', digs_small hn']
  | succ d ih =>
    intro n hd hn hm
    by_cases h : n < 10
    · rw [spec_l01Dec.fL_eq, if_pos (by omega), strOf_dig h, digs_small h]
    · have hn' : n / 10 < 10 ^ (d + 1) := by rw [Nat.pow_succ] at hn; omega
      have hl := digs_len d (n / 10) hn'
      rw [spec_l01Dec.fL_eq, if_neg (by omega), tdiv10, tmod10, w64 (by omega) (by omega), ih (n / 10) (by omega) hn' (by omega)]
      simp only [Option.bind_some]
      rw [strOf_dig (by omega), if_pos (by rw [ob_size, ob_size]; simp; omega), ob_append, digs_big h]
theorem spec_l01Dec_f {n : Int} (h0 : 0 ≤ n) (h : n ≤ 1000000000000000000) : spec_l01Dec.fL n = some (decB n) := by
  obtain ⟨m, rfl⟩ : ∃ m : Nat, n = m := ⟨n.toNat, by omega⟩
  rw [decB_nat]
  exact spec_l01Dec_nat 18 m (by omega) (by have : (10 : Nat) ^ (18 + 1) = 10000000000000000000 := by decide
                                            omega) (by omega)
theorem impl_decimal_l0 : ∀ (d n : Nat), n < 10 ^ (d + 1) → n ≤ 1000000000000000000 → ∀ acc : List UInt8, acc.length + d ≤ 1000 → impl_decimal.l0L (n : Int) (ob acc) = some (ob (digs n ++ acc)) := by
  intro d
  induction d with
  | zero =>
    intro n hn _ acc ha
    have hn' : n < 10 := by simpa using hn
    rw [impl_decimal.l0L_eq, tdiv10, tmod10, w64 (x := ((n / 10 : Nat) : Int)) (by omega) (by omega)]
    simp only [Option.bind_some]
    rw [strOf_dig (by omega), if_pos (by rw [ob_size, ob_size]; simp; omega), if_pos (by omega), ob_append, digs_small hn', Nat.mod_eq_of_lt hn']
  | succ d ih =>
    intro n hn hm acc ha
    rw [impl_decimal.l0L_eq, tdiv10, tmod10, w64 (x := ((n / 10 : Nat) : Int)) (by omega) (by omega)]
    simp only [Option.bind_some]
    rw [strOf_dig (by omega), if_pos (by rw [ob_size, ob_size]; simp; omega), ob_append]
    by_cases h : n < 10
    · rw [if_pos (by omega), digs_small h, Nat.mod_eq_of_lt h]
    · have hn' : n / 10 < 10 ^ (d + 1) := by rw [Nat.pow_succ] at hn; omega
      rw [if_neg (by omega), ih (n / 10) hn' (by omega) _ (by simp; omega), digs_big h, List.append_assoc]
theorem impl_decimal_nn {n : Int} (h0 : 0 ≤ n) (h : n ≤ 1000000000000000000) : impl_decimal.fL n = some (decB n) := by
  obtain ⟨m, rfl⟩ : ∃ m : Nat, n = m := ⟨n.toNat, by omega⟩
  rw [decB_nat, impl_decimal.fL_eq, if_neg (by omega), show (⟨#[]⟩ : ByteArray) = ob [] from rfl,
    impl_decimal_l0 18 m (by have : (10 : Nat) ^ (18 + 1) = 10000000000000000000 := by decide
                             omega) (by omega) [] (by simp), List.append_nil]
theorem impl_decimal_f {n : Int} (h0 : -1000000000000000000 ≤ n) (h : n ≤ 1000000000000000000) : impl_decimal.fL n = some (decB n) := by
  by_cases hn : 0 ≤ n
  · exact impl_decimal_nn hn h
  · rw [impl_decimal.fL_eq, if_pos (by omega), w64 (by omega) (by omega), impl_decimal_nn (by omega) (by omega)]
    have hl := digs_len 18 (-n).toNat (by have : (10 : Nat) ^ (18 + 1) = 10000000000000000000 := by decide
                                          omega)
    have e : decB (-n) = ob (digs (-n).toNat) := by unfold decB; rw [if_neg (by omega)]
    simp only [Option.bind_some]
    rw [e, if_pos (by rw [ob_size]; omega), show (⟨#[45]⟩ : ByteArray) = ob [45] from rfl, ob_append]
    unfold decB; rw [if_pos (by omega)]; rfl
def lnB (k : Int) (t : ByteArray) (c : Int) : ByteArray := strOfNums [k] ++ ob [32] ++ t ++ ob [32] ++ decB c ++ ob [10]
theorem strOf1_size (k : Int) : (strOfNums [k]).size = 1 := by rw [strOfNums_ob, ob_size]; rfl
theorem ba_size_append (a b : ByteArray) : (a ++ b).size = a.size + b.size := ByteArray.size_append
theorem decB_size {n : Int} (h0 : 0 ≤ n) (h : n ≤ 1000000000000000000) : (decB n).size ≤ 20 := by
  have hl := digs_len 18 n.toNat (by have : (10 : Nat) ^ (18 + 1) = 10000000000000000000 := by decide
                                     omega)
  unfold decB; rw [if_neg (by omega), ob_size]; omega
theorem spec_l33Line_f (k : Int) (t : ByteArray) {c : Int} (ht : t.size ≤ 1000000) (h0 : 0 ≤ c) (h1 : c ≤ 10000) : spec_l33Line.fL k t c = some (lnB k t c) := by
  have hd := decB_size h0 (show c ≤ 1000000000000000000 by omega)
  rw [spec_l33Line.fL_eq]
  simp only [Option.bind_some]
  rw [show (⟨#[32]⟩ : ByteArray) = ob [32] from rfl, show (⟨#[10]⟩ : ByteArray) = ob [10] from rfl]
  simp only [ba_size_append, strOf1_size, ob_size, List.length_cons, List.length_nil]
  rw [if_pos (by omega), if_pos (by omega), if_pos (by omega), spec_l01Dec_f h0 (by omega)]
  simp only [Option.bind_some]
  rw [if_pos (by omega), if_pos (by omega)]; rfl
theorem impl_entryLine_f (k : Int) (t : ByteArray) {c : Int} (ht : t.size ≤ 1000000) (h0 : 0 ≤ c) (h1 : c ≤ 10000) : impl_entryLine.fL k t c = some (lnB k t c) := by
  have hd := decB_size h0 (show c ≤ 1000000000000000000 by omega)
  rw [impl_entryLine.fL_eq]
  simp only [Option.bind_some]
  rw [show (⟨#[32]⟩ : ByteArray) = ob [32] from rfl, show (⟨#[10]⟩ : ByteArray) = ob [10] from rfl]
  simp only [ba_size_append, strOf1_size, ob_size, List.length_cons, List.length_nil]
  rw [if_pos (by omega), if_pos (by omega), if_pos (by omega), impl_decimal_nn h0 (by omega)]
  simp only [Option.bind_some]
  rw [if_pos (by omega), if_pos (by omega)]; rfl
theorem ext_snoc (s : ByteArray) {f i : Nat} (hf : f ≤ i) (h : i < s.size) : ((bl s).take (i + 1)).drop f = ((bl s).take i).drop f ++ [(bl s)[i]'(by rw [bl_length]; exact h)] := by
  have h' : i < (bl s).length := by rw [bl_length]; exact h
  rw [List.take_succ_eq_append_getElem h', List.drop_append_of_le_length (by rw [List.length_take]; omega)]
theorem drop_cons (s : ByteArray) {i : Nat} (h : i < s.size) : (bl s).drop i = (bl s)[i]'(by rw [bl_length]; exact h) :: (bl s).drop (i + 1) :=
  List.drop_eq_getElem_cons (by rw [bl_length]; exact h)
theorem ext_ob (s : ByteArray) (f i : Nat) : s.extract f i = ob (((bl s).take i).drop f) := by
  apply bl_inj; rw [bl_extract, bl_ob]
theorem take_all (s : ByteArray) : (bl s).take s.size = bl s := List.take_of_length_le (by rw [bl_length]; omega)
theorem drop_all (s : ByteArray) : (bl s).drop s.size = [] := List.drop_of_length_le (by rw [bl_length]; omega)
theorem drop_take_self (l : List UInt8) (i : Nat) : (l.take i).drop i = [] := List.drop_of_length_le (by rw [List.length_take]; omega)
theorem u8_ne10 {a : UInt8} (h : a ≠ 10) : ¬ ((a.toNat : Int) = 10) := fun e => h ((u8_eq (n := 10) (by omega)).mp (by omega))
theorem u8_ne32 {a : UInt8} (h : a ≠ 32) : ¬ ((a.toNat : Int) = 32) := fun e => h ((u8_eq (n := 32) (by omega)).mp (by omega))
def lb : List UInt8 → Int → Int → Int
  | [], _, b => b
  | c :: r, i, b => lb r (i + 1) (if c = 32 then i else b)
def nlL : List UInt8 → Nat
  | [] => 0
  | c :: r => if c = 10 then 0 else nlL r + 1
theorem nlL_le (l : List UInt8) : nlL l ≤ l.length := by
  induction l with
  | nil => simp [nlL]
  | cons c r ih => simp only [nlL, List.length_cons]; split <;> omega
theorem lb_range : ∀ (l : List UInt8) (i b : Int), b < i → b ≤ lb l i b ∧ lb l i b < i + l.length := by
  intro l
  induction l with
  | nil => intro i b h; simp [lb]; omega
  | cons c r ih =>
    intro i b h
    simp only [lb, List.length_cons]
    by_cases hc : c = 32
    · rw [if_pos hc]; have := ih (i + 1) i (by omega); omega
    · rw [if_neg hc]; have := ih (i + 1) b (by omega); omega
theorem lb_two : ∀ (l : List UInt8) (i b b' : Int), b < i → b' < i → (lb l i b = lb l i b' ∧ i ≤ lb l i b) ∨ (lb l i b = b ∧ lb l i b' = b') := by
  intro l
  induction l with
  | nil => intro i b b' h h'; exact .inr ⟨rfl, rfl⟩
  | cons c r ih =>
    intro i b b' h h'
    simp only [lb]
    by_cases hc : c = 32
    · rw [if_pos hc, if_pos hc]; have := lb_range r (i + 1) i (by omega); exact .inl ⟨rfl, by omega⟩
    · rw [if_neg hc, if_neg hc]
      rcases ih (i + 1) b b' (by omega) (by omega) with ⟨h1, h2⟩ | h1
      · exact .inl ⟨h1, by omega⟩
      · exact .inr h1
/-- the first newline's place -/
def eol (s : ByteArray) : Nat := nlL (bl s)
theorem eol_le (s : ByteArray) : eol s ≤ s.size := by have := nlL_le (bl s); rw [bl_length] at this; exact this
def blank (s : ByteArray) : Int := lb ((bl s).take (eol s)) 0 0
theorem impl_readJournal_l1 (s : ByteArray) (hs : s.size ≤ 1000000) (out : List S69) (c : Int) : ∀ (d i : Nat), i + d = s.size →
    impl_readJournal.l1L s out c (i : Int) = impl_readJournal.j2L s out c ((i + nlL ((bl s).drop i) : Nat) : Int) := by
  intro d
  induction d with
  | zero => intro i hi; rw [impl_readJournal.l1L_eq, if_neg (by omega), List.drop_of_length_le (by rw [bl_length]; omega)]; simp [nlL]
  | succ d ih =>
    intro i hi
    have hlt : i < (bl s).length := by rw [bl_length]; omega
    rw [impl_readJournal.l1L_eq, if_pos (by omega), if_pos (by omega), bt_nat s (by omega), List.drop_eq_getElem_cons hlt, w64 (by omega) (by omega)]
    by_cases hc : (bl s)[i] = 10
    · rw [if_pos (by rw [hc]; rfl)]; simp only [nlL]; rw [if_pos hc]; rfl
    · rw [if_neg (u8_ne10 hc), show ((i : Int) + 1) = ((i + 1 : Nat) : Int) by omega, ih (i + 1) (by omega)]
      simp only [nlL]; rw [if_neg hc]
      congr 1; omega
theorem spec_l33Next_l0 (s : ByteArray) (hs : s.size ≤ 1000000) (c : Int) : ∀ (d i : Nat), i + d = s.size → ∀ b : Int,
    spec_l33Next.l0L s c (i : Int) b = spec_l33Next.j1L s c ((i + nlL ((bl s).drop i) : Nat) : Int) (lb (((bl s).drop i).take (nlL ((bl s).drop i))) i b) false := by
  intro d
  induction d with
  | zero =>
    intro i hi b
    rw [spec_l33Next.l0L_eq, if_neg (by omega), List.drop_of_length_le (by rw [bl_length]; omega)]; simp [nlL, lb]
  | succ d ih =>
    intro i hi b
    have hlt : i < (bl s).length := by rw [bl_length]; omega
    rw [spec_l33Next.l0L_eq, if_pos (by omega), if_pos (by omega), List.drop_eq_getElem_cons hlt]
    have hb := bt_nat s (show i < s.size by omega)
    by_cases hc : (bl s)[i] = 10
    · have h10 : bt s (i : Int) = 10 := by rw [hb, hc]; rfl
      rw [h10]; simp only [nlL]; rw [if_pos hc]; simp [lb]
    · have h10 : ¬ bt s (i : Int) = 10 := by rw [hb]; exact u8_ne10 hc
      have h10' : (bt s (i : Int) != 10) = true := by simpa using h10
      rw [h10', spec_l33Next.j1L_eq, if_pos rfl, if_pos (by omega), if_pos (by omega), hb, w64 (by omega) (by omega), show ((i : Int) + 1) = ((i + 1 : Nat) : Int) by omega]
      simp only [nlL]; rw [if_neg hc, List.take_succ_cons]
      simp only [lb]
      by_cases h32 : (bl s)[i] = 32
      · rw [if_pos (by rw [h32]; rfl), if_pos h32, ih (i + 1) (by omega), show i + 1 + nlL ((bl s).drop (i + 1)) = i + (nlL ((bl s).drop (i + 1)) + 1) by omega, show ((i : Int) + 1) = ((i + 1 : Nat) : Int) by omega]
      · rw [if_neg (u8_ne32 h32), if_neg h32, ih (i + 1) (by omega), show i + 1 + nlL ((bl s).drop (i + 1)) = i + (nlL ((bl s).drop (i + 1)) + 1) by omega, show ((i : Int) + 1) = ((i + 1 : Nat) : Int) by omega]
theorem impl_readEntry_l0 (s : ByteArray) (hs : s.size ≤ 1000000) : ∀ (d i : Nat), i + d = s.size → ∀ b : Int,
    impl_readEntry.l0L s b (i : Int) = impl_readEntry.l0L s (lb ((bl s).drop i) i b) (s.size : Int) := by
  intro d
  induction d with
  | zero =>
    intro i hi b
    obtain rfl : i = s.size := by omega
    rw [drop_all]; rfl
  | succ d ih =>
    intro i hi b
    have hlt : i < (bl s).length := by rw [bl_length]; omega
    rw [impl_readEntry.l0L_eq, if_pos (by omega), if_pos (by omega), bt_nat s (by omega), List.drop_eq_getElem_cons hlt, w64 (by omega) (by omega), show ((i : Int) + 1) = ((i + 1 : Nat) : Int) by omega]
    simp only [lb]
    by_cases h32 : (bl s)[i] = 32
    · rw [if_pos (by rw [h32]; rfl), if_pos h32, ih (i + 1) (by omega), show ((i : Int) + 1) = ((i + 1 : Nat) : Int) by omega]
    · rw [if_neg (u8_ne32 h32), if_neg h32, ih (i + 1) (by omega), show ((i : Int) + 1) = ((i + 1 : Nat) : Int) by omega]
theorem extract_extract0 (s : ByteArray) {e b : Nat} (h : b ≤ e) : (s.extract 0 e).extract 2 b = s.extract 2 b := by
  apply bl_inj; rw [bl_extract, bl_extract, bl_extract, List.drop_zero, List.take_take, Nat.min_eq_left h]
theorem bt_extract0 (s : ByteArray) {e : Nat} (h : 0 < e) (he : e ≤ s.size) : bt (s.extract 0 e) 0 = bt s 0 := by
  have h1 : (s.extract 0 e).size = e := by rw [← bl_length, bl_extract]; simp [bl_length]; omega
  have := bt_nat (s.extract 0 e) (i := 0) (by omega)
  rw [cast0] at this
  have h2 := bt_nat s (i := 0) (by omega)
  rw [cast0] at h2
  rw [this, h2]
  simp [bl_extract]
theorem size_extract0 (s : ByteArray) {e : Nat} (he : e ≤ s.size) : (s.extract 0 e).size = e := by rw [← bl_length, bl_extract]; simp [bl_length]; omega
theorem size_extract_le (s : ByteArray) (i j : Nat) : (s.extract i j).size ≤ s.size := by rw [← bl_length, bl_extract]; simp [bl_length]; omega
/-- the line's last blank behind its first two bytes, and the whole line's -/
theorem blank_two (s : ByteArray) : (lb (((bl s).take (eol s)).drop 2) 2 (-1) = -1 ∧ blank s < 2) ∨ (lb (((bl s).take (eol s)).drop 2) 2 (-1) = blank s ∧ 2 ≤ blank s ∧ blank s < eol s) := by
  have hl : ((bl s).take (eol s)).length = eol s := by rw [List.length_take, bl_length]; have := eol_le s; omega
  unfold blank
  match h : (bl s).take (eol s) with
  | [] => left; simp [lb]
  | [x] => left; simp only [List.drop_succ_cons, List.drop_nil, lb]; refine ⟨by trivial, ?_⟩; split <;> omega
  | x :: y :: r =>
    rw [h] at hl; simp only [List.length_cons] at hl
    simp only [List.drop_succ_cons, List.drop_zero, lb]
    have hb : (if y = 32 then (0 + 1 : Int) else if x = 32 then 0 else 0) < 2 := by split <;> (try split) <;> omega
    have h1 := lb_range r (0 + 1 + 1) (if y = 32 then (0 + 1 : Int) else if x = 32 then 0 else 0) (by omega)
    rcases lb_two r 2 (-1) (if y = 32 then (0 + 1 : Int) else if x = 32 then 0 else 0) (by omega) hb with ⟨h2, h3⟩ | ⟨h2, h3⟩
    · right
      rw [show (0 + 1 + 1 : Int) = 2 from rfl] at h1 ⊢
      rw [← h2]
      rw [← h2] at h1
      exact ⟨rfl, h3, by omega⟩
    · left
      rw [show (0 + 1 + 1 : Int) = 2 from rfl, h3]
      exact ⟨h2, hb⟩
/-- what both readers do with the next line -/
def stops (s : ByteArray) (c : Int) : Prop := eol s = s.size ∨ blank s < 2 ∨ entryOk (bt s 0) (s.extract 2 (blank s).toNat) = false ∨ lnB (bt s 0) (s.extract 2 (blank s).toNat) (ckE c (bt s 0) (s.extract 2 (blank s).toNat)) ≠ s.extract 0 (eol s + 1)
theorem bt_byte (s : ByteArray) (i : Int) : 0 ≤ bt s i ∧ bt s i ≤ 255 := bt_range s i
open Classical in
theorem spec_l33Next_f (s : ByteArray) (hs : s.size ≤ 1000000) {c : Int} (h0 : 0 ≤ c) (h1 : c ≤ 10000) :
    spec_l33Next.fL s c = some (if stops s c then (0, ⟨#[]⟩, 0, 0) else (bt s 0, s.extract 2 (blank s).toNat, ckE c (bt s 0) (s.extract 2 (blank s).toNat), (eol s : Int) + 1)) := by
  have he := eol_le s
  have hl := spec_l33Next_l0 s hs c s.size 0 (by omega) 0
  rw [cast0, List.drop_zero, Nat.zero_add] at hl
  rw [spec_l33Next.fL_eq, hl, spec_l33Next.j1L_eq, if_neg (by simp)]
  rw [show nlL (bl s) = eol s from rfl, show lb ((bl s).take (eol s)) 0 0 = blank s from rfl]
  unfold stops
  by_cases e1 : eol s = s.size
  · rw [if_pos (by omega), spec_l33Next.j2L_eq, if_pos rfl, if_pos (.inl e1)]
  · rw [if_neg (by omega), spec_l33Next.j2L_eq]
    by_cases e2 : blank s < 2
    · rw [if_pos (decide_eq_true e2), if_pos (.inr (.inl e2))]
    · have hbb := blank_two s
      have hbr : 2 ≤ blank s ∧ blank s < eol s := by rcases hbb with h | h <;> omega
      have hbt := bt_byte s 0
      have hsz := size_extract_le s 2 (blank s).toNat
      rw [if_neg (by simpa using e2), if_pos (by omega), if_pos (by omega), if_pos (by omega), spec_l33Check_f _ (by omega) h0 h1 hbt.1 hbt.2, spec_l33Is_f _ _ (by omega)]
      simp only [Option.bind_some]
      by_cases e3 : entryOk (bt s 0) (s.extract 2 (blank s).toNat) = true
      · have hr := @ckE_range c (bt s 0) (s.extract 2 (blank s).toNat)
        rw [if_pos e3, spec_l33Line_f _ _ (by omega) hr.1 (by omega), w64 (by omega) (by omega)]
        simp only [Option.bind_some]
        rw [if_pos (by omega), if_pos (by omega), show ((eol s : Int) + 1).toNat = eol s + 1 by omega]
        simp only [ba_toList]
        by_cases e4 : lnB (bt s 0) (s.extract 2 (blank s).toNat) (ckE c (bt s 0) (s.extract 2 (blank s).toNat)) = s.extract 0 (eol s + 1)
        · rw [if_pos e4, if_neg]
          rintro (h | h | h | h)
          · exact e1 h
          · exact e2 h
          · rw [e3] at h; cases h
          · exact h e4
        · rw [if_neg e4, if_pos (.inr (.inr (.inr e4)))]
      · rw [if_neg e3, if_pos (.inr (.inr (.inl (by simpa using e3))))]
theorem impl_readEntry_f (s : ByteArray) (hs : s.size ≤ 1000000) (he : eol s < s.size) :
    impl_readEntry.fL (s.extract 0 (eol s)) = some (if blank s < 2 then (0, ⟨#[]⟩, false) else (bt s 0, s.extract 2 (blank s).toNat, entryOk (bt s 0) (s.extract 2 (blank s).toNat))) := by
  have hz := size_extract0 s (show eol s ≤ s.size by omega)
  have hbl : bl (s.extract 0 (eol s)) = (bl s).take (eol s) := by rw [bl_extract, List.drop_zero]
  rw [impl_readEntry.fL_eq]
  by_cases h2 : 2 ≤ eol s
  · have := impl_readEntry_l0 (s.extract 0 (eol s)) (by omega) (eol s - 2) 2 (by omega) (-1)
    rw [show ((2 : Nat) : Int) = 2 from rfl] at this
    rw [this, hbl, impl_readEntry.l0L_eq, if_neg (by omega)]
    rcases blank_two s with ⟨h, h'⟩ | ⟨h, h', h''⟩
    · rw [h, if_pos (by omega), if_pos h']
    · have hsz := size_extract_le s 2 (blank s).toNat
      rw [h, if_neg (by omega), hz, if_pos (by omega), if_pos (by omega), if_pos (by omega), bt_extract0 s (by omega) (by omega), extract_extract0 s (by omega), impl_isEntry_f _ _ (by omega), if_neg (by omega)]
      rfl
  · rw [impl_readEntry.l0L_eq, if_neg (by omega), if_pos (by omega)]
    rcases blank_two s with ⟨h, h'⟩ | ⟨h, h', h''⟩
    · rw [if_pos h']
    · omega
theorem readers_same : ∀ (d : Nat) (s : ByteArray), s.size ≤ 1000000 → ∀ (out : List S69) (c : Int), 0 ≤ c → c ≤ 10000 → out.length + d = 20 →
    ∃ r n, impl_readJournal.l0L s out c = some (r, n) ∧ spec_l33Read.l0L s out c = some (r, n) ∧ 0 ≤ n ∧ n ≤ s.size ∧ r.length ≤ 20 ∧ out <+: r ∧ ((∀ x ∈ out, entryOk x.f0 x.f1 = true) → ∀ x ∈ r, entryOk x.f0 x.f1 = true) := by
  intro d
  induction d with
  | zero =>
    intro s hs out c h0 h1 hd
    refine ⟨out, s.size, ?_, ?_, by omega, by omega, by omega, List.prefix_refl _, fun h => h⟩
    · rw [impl_readJournal.l0L_eq, if_neg (by omega)]
    · rw [spec_l33Read.l0L_eq, if_neg (by omega)]
  | succ d ih =>
    intro s hs out c h0 h1 hd
    have he := eol_le s
    have hl := impl_readJournal_l1 s hs out c s.size 0 (by omega)
    rw [cast0, List.drop_zero, Nat.zero_add, show nlL (bl s) = eol s from rfl] at hl
    rw [impl_readJournal.l0L_eq, if_pos (by omega), hl, spec_l33Read.l0L_eq, if_pos (by omega), spec_l33Next_f s hs h0 h1, impl_readJournal.j2L_eq]
    simp only [Option.bind_some]
    by_cases hst : stops s c
    · rw [if_pos hst]
      refine ⟨out, s.size, ?_, by simp, by omega, by omega, by omega, List.prefix_refl _, fun h => h⟩
      by_cases e1 : eol s = s.size
      · rw [if_pos (by omega)]
      · rw [if_neg (by omega), if_pos (by omega), if_pos (by omega), Int.toNat_natCast, impl_readEntry_f s hs (by omega)]
        simp only [Option.bind_some]
        by_cases e2 : blank s < 2
        · rw [if_pos e2]; simp
        · rw [if_neg e2]
          dsimp only
          by_cases e3 : entryOk (bt s 0) (s.extract 2 (blank s).toNat) = true
          · have e4 : lnB (bt s 0) (s.extract 2 (blank s).toNat) (ckE c (bt s 0) (s.extract 2 (blank s).toNat)) ≠ s.extract 0 (eol s + 1) := by
              rcases hst with h | h | h | h
              · exact absurd h e1
              · exact absurd h e2
              · rw [e3] at h; cases h
              · exact h
            have hr := @ckE_range c (bt s 0) (s.extract 2 (blank s).toNat)
            have hbt := bt_byte s 0
            have hsz := size_extract_le s 2 (blank s).toNat
            rw [if_pos e3, impl_nextCheck_f _ (by omega) h0 h1 hbt.1 hbt.2]
            simp only [Option.bind_some]
            rw [impl_entryLine_f _ _ (by omega) hr.1 (by omega), w64 (by omega) (by omega)]
            simp only [Option.bind_some]
            rw [if_pos (by omega), if_pos (by omega), show ((eol s : Int) + 1).toNat = eol s + 1 by omega, if_neg (by rw [ba_toList]; exact e4)]
          · rw [if_neg e3]
    · have e1 : ¬ eol s = s.size := fun h => hst (.inl h)
      have e2 : ¬ blank s < 2 := fun h => hst (.inr (.inl h))
      have e3 : entryOk (bt s 0) (s.extract 2 (blank s).toNat) = true := by
        cases h : entryOk (bt s 0) (s.extract 2 (blank s).toNat) with
        | true => rfl
        | false => exact absurd (.inr (.inr (.inl h))) hst
      have e4 : lnB (bt s 0) (s.extract 2 (blank s).toNat) (ckE c (bt s 0) (s.extract 2 (blank s).toNat)) = s.extract 0 (eol s + 1) := Classical.byContradiction fun h => hst (.inr (.inr (.inr h)))
      have hr := @ckE_range c (bt s 0) (s.extract 2 (blank s).toNat)
      have hbt := bt_byte s 0
      have hsz := size_extract_le s 2 (blank s).toNat
      have hsz2 := size_extract_le s (eol s + 1) s.size
      obtain ⟨r, n, i1, i2, i3, i4, i5, i6, i7⟩ := ih (s.extract (eol s + 1) s.size) (by omega) (out ++ [⟨bt s 0, s.extract 2 (blank s).toNat⟩]) (ckE c (bt s 0) (s.extract 2 (blank s).toNat)) hr.1 (by omega) (by simp; omega)
      refine ⟨r, n, ?_, ?_, i3, by omega, i5, (List.prefix_append _ _).trans i6, fun h => i7 (by
        intro x hx
        rcases List.mem_append.mp hx with hx | hx
        · exact h x hx
        · rw [List.mem_singleton] at hx; subst hx; exact e3)⟩
      · rw [if_neg (by omega), if_pos (by omega), if_pos (by omega), Int.toNat_natCast, impl_readEntry_f s hs (by omega)]
        simp only [Option.bind_some]
        rw [if_neg e2]
        dsimp only
        rw [if_pos e3, impl_nextCheck_f _ (by omega) h0 h1 hbt.1 hbt.2]
        simp only [Option.bind_some]
        rw [impl_entryLine_f _ _ (by omega) hr.1 (by omega), w64 (by omega) (by omega)]
        simp only [Option.bind_some]
        rw [if_pos (by omega), if_pos (by omega), show ((eol s : Int) + 1).toNat = eol s + 1 by omega, if_pos (by rw [ba_toList]; exact e4), if_pos (by omega)]
        exact i1
      · rw [if_neg hst]
        dsimp only
        rw [if_neg (by omega), if_pos (by omega), if_pos (by omega), if_pos (by omega), show ((eol s : Int) + 1).toNat = eol s + 1 by omega]
        exact i2
theorem journal_same (s : ByteArray) (hs : s.size ≤ 1000000) : ∃ r n, impl_readJournal.fL s = some (r, n) ∧ spec_l33Read.fL s = some (r, n) ∧ 0 ≤ n ∧ n ≤ (s.size : Int) ∧ r.length ≤ 20 ∧ ∀ x ∈ r, entryOk x.f0 x.f1 = true := by
  obtain ⟨r, n, h1, h2, h3, h4, h5, _, h7⟩ := readers_same 20 s hs [] 1 (by omega) (by omega) (by simp)
  exact ⟨r, n, by rw [impl_readJournal.fL_eq]; exact h1, by rw [spec_l33Read.fL_eq]; exact h2, h3, h4, h5, h7 (by simp)⟩
theorem rd_T_nat {l : List S69} {i : Nat} (h : i < l.length) : rd_T69 l (i : Int) = l[i] := by
  unfold rd_T69
  rw [Int.toNat_natCast, List.getD_eq_getElem?_getD, List.getElem?_eq_getElem h]; rfl
def mkOf {α : Type} (f : Int → α) (s : Int) : Int → Nat → List α
  | _, 0 => []
  | k, n + 1 => f k :: mkOf f s (k + s) n
theorem mkOf_length {α : Type} (f : Int → α) (s k : Int) (n : Nat) : (mkOf f s k n).length = n := by
  induction n generalizing k with
  | zero => rfl
  | succ n ih => simp [mkOf, ih]
theorem mark_gen {α : Type} {L : List α → Int → Int → Option (Int × List α)} {f : Int → α} {s : Int} (h0 : 0 ≤ s) (h9 : s ≤ 100)
    (he : ∀ (l : List α) (k : Int), L l k (l.length : Int) = some (k, l))
    (hs : ∀ (p r : List α) (x : α) (k : Int), (p.length : Int) + r.length ≤ 1000000 → 0 ≤ k → k ≤ 1000000000000 → L (p ++ x :: r) k (p.length : Int) = L (p ++ f k :: r) (k + s) ((p.length : Int) + 1)) :
    ∀ (l p : List α) (k : Int), (p.length : Int) + l.length ≤ 1000000 → 0 ≤ k → k + 100 * l.length ≤ 1000000000 → L (p ++ l) k (p.length : Int) = some (k + s * l.length, p ++ mkOf f s k l.length) := by
  intro l
  induction l with
  | nil => intro p k _ _ _; rw [List.append_nil, he]; simp [mkOf]
  | cons x r ih =>
    intro p k hp hk hk2
    simp only [List.length_cons] at hp hk2
    rw [hs p r x k (by omega) hk (by omega)]
    have := ih (p ++ [f k]) (k + s) (by simp; omega) (by omega) (by omega)
    rw [List.append_assoc, List.length_append] at this
    simp only [List.cons_append, List.nil_append, List.length_cons, List.length_nil] at this
    rw [show (p.length : Int) + 1 = ((p.length + (0 + 1) : Nat) : Int) by omega, this]
    simp only [mkOf, List.length_cons, List.append_assoc, List.cons_append, List.nil_append]
    have e : k + s + s * (r.length : Int) = k + s * ((r.length + 1 : Nat) : Int) := by
      rw [Int.natCast_add, Int.mul_add]; simp; omega
    rw [e]
theorem held_gen {α : Type} {L : List α → Int → Int → Option Int} {f : Int → α} {s : Int} (h0 : 0 ≤ s) (h9 : s ≤ 100)
    (he : ∀ (l : List α) (k : Int), L l k (l.length : Int) = some k)
    (hs : ∀ (p r : List α) (k : Int), (p.length : Int) + r.length ≤ 1000000 → 0 ≤ k → k ≤ 1000000000000 → L (p ++ f k :: r) k (p.length : Int) = L (p ++ f k :: r) (k + s) ((p.length : Int) + 1)) :
    ∀ (n : Nat) (p : List α) (k : Int), (p.length : Int) + n ≤ 1000000 → 0 ≤ k → k + 100 * n ≤ 1000000000 → L (p ++ mkOf f s k n) k (p.length : Int) = some (k + s * n) := by
  intro n
  induction n with
  | zero => intro p k _ _ _; simp only [mkOf]; rw [List.append_nil, he]; simp
  | succ n ih =>
    intro p k hp hk hk2
    simp only [mkOf]
    rw [hs p (mkOf f s (k + s) n) k (by rw [mkOf_length]; omega) hk (by omega)]
    have := ih (p ++ [f k]) (k + s) (by simp; omega) (by omega) (by omega)
    rw [List.append_assoc, List.length_append] at this
    simp only [List.cons_append, List.nil_append, List.length_cons, List.length_nil] at this
    rw [show (p.length : Int) + 1 = ((p.length + (0 + 1) : Nat) : Int) by omega, this]
    have e : k + s + s * (n : Int) = k + s * ((n + 1 : Nat) : Int) := by
      rw [Int.natCast_add, Int.mul_add]; simp; omega
    rw [e]
theorem eq_gen {α : Type} {L : List α → List α → Int → Option Bool} (l : List α)
    (he : L l l (l.length : Int) = some true) (hs : ∀ i : Int, 0 ≤ i → i < (l.length : Int) → L l l i = L l l (i + 1)) : L l l 0 = some true :=
  up_ind (P := fun i => L l l i = some true) (l.length : Int) he (fun i h0 h1 ih => (hs i h0 h1).trans ih) 0 (by omega) (by omega)
theorem set_mid {α : Type} (p r : List α) (x y : α) : (p ++ x :: r).set (p.length : Int).toNat y = p ++ y :: r := by
  rw [Int.toNat_natCast, List.set_append_right _ _ (Nat.le_refl _)]; simp
theorem rdOf_mid {α : Type} (d : α) (p r : List α) (x : α) : rdOf d (p ++ x :: r) (p.length : Int) = x := by
  rw [rdOf_nat (by simp)]; simp
theorem mid_len {α : Type} (p r : List α) (x : α) : ((p ++ x :: r).length : Int) = (p.length : Int) + r.length + 1 := by simp; omega
theorem markText_l0 : ∀ (d n : Nat), n < 10 ^ d → n ≤ 1000000000000000000 → ∀ acc : ByteArray, acc.size + d ≤ 1000 → ∃ r, laws_markText.l0L (n : Int) acc = some r := by
  intro d
  induction d with
  | zero =>
    intro n hn _ acc ha
    rw [laws_markText.l0L_eq, if_neg (by simp at hn; omega), if_pos (by omega)]
    exact ⟨_, rfl⟩
  | succ d ih =>
    intro n hn hm acc ha
    rw [laws_markText.l0L_eq]
    by_cases h : (n : Int) > 0
    · rw [if_pos h, tdiv10, tmod10, w64 (x := ((n / 10 : Nat) : Int)) (by omega) (by omega)]
      simp only [Option.bind_some]
      rw [strOf_dig (by omega), if_pos (by rw [ob_size]; simp; omega)]
      exact ih (n / 10) (by rw [Nat.pow_succ] at hn; omega) (by omega) _ (by rw [ByteArray.size_append, ob_size]; simp; omega)
    · rw [if_neg h, if_pos (by omega)]
      exact ⟨_, rfl⟩
theorem markText_some {k : Int} (h : k ≤ 1000000000000000000) : ∃ r, laws_markText.fL k = some r := by
  rw [laws_markText.fL_eq]
  by_cases h0 : k ≤ 0
  · rw [if_pos h0]; exact ⟨_, rfl⟩
  · rw [if_neg h0]
    obtain ⟨n, rfl⟩ : ∃ n : Nat, k = n := ⟨k.toNat, by omega⟩
    exact markText_l0 19 n (by have : (10 : Nat) ^ 19 = 10000000000000000000 := by decide
                               omega) (by omega) _ (by decide)
noncomputable def mt (k : Int) : ByteArray := (laws_markText.fL k).getD ⟨#[]⟩
theorem markText_f {k : Int} (h : k ≤ 1000000000000000000) : laws_markText.fL k = some (mt k) := by
  obtain ⟨r, hr⟩ := markText_some h
  unfold mt; rw [hr]; rfl
theorem laws_eqStringS_f (l : List ByteArray) (hl : l.length ≤ 1000000000) : laws_eqStringS.fL l l = some true := by
  rw [laws_eqStringS.fL_eq, if_pos rfl]
  refine eq_gen (L := laws_eqStringS.l0L) l ?_ ?_
  · rw [laws_eqStringS.l0L_eq, if_neg (by omega)]
  · intro i h0 h1
    rw [laws_eqStringS.l0L_eq, if_pos h1, if_pos h0, if_pos h1, if_pos rfl, w64 (by omega) (by omega)]
theorem laws_markStringS_f (l : List ByteArray) (hl : l.length ≤ 1000000) : laws_markStringS.fL l 101 = some (101 + 1 * (l.length : Int), mkOf mt 1 101 l.length) := by
  rw [laws_markStringS.fL_eq]
  refine mark_gen (L := laws_markStringS.l0L) (f := mt) (s := 1) (by omega) (by omega) ?_ ?_ l [] 101 (by simp; omega) (by omega) (by omega)
  · intro l k; rw [laws_markStringS.l0L_eq, if_neg (by omega)]
  · intro p r x k h1 h2 h3
    rw [laws_markStringS.l0L_eq, if_pos (by rw [mid_len]; omega), markText_f (by omega)]
    simp only [Option.bind_some]
    rw [if_pos (by omega), set_mid, w64 (by omega) (by omega), w64 (by omega) (by omega)]
theorem laws_heldStringS_f (n : Nat) (hl : n ≤ 1000000) : laws_heldStringS.fL (mkOf mt 1 101 n) 101 = some (101 + 1 * (n : Int)) := by
  rw [laws_heldStringS.fL_eq]
  refine held_gen (L := laws_heldStringS.l0L) (f := mt) (s := 1) (by omega) (by omega) ?_ ?_ n [] 101 (by simp; omega) (by omega) (by omega)
  · intro l k; rw [laws_heldStringS.l0L_eq, if_neg (by omega)]
  · intro p r k h1 h2 h3
    rw [laws_heldStringS.l0L_eq, if_pos (by rw [mid_len]; omega), if_pos (by omega), markText_f (by omega)]
    simp only [Option.bind_some]
    rw [rdOf_mid, if_pos rfl, w64 (by omega) (by omega), w64 (by omega) (by omega)]
theorem entriesOf_same (l : List S69) (hl : l.length ≤ 20) (kd : Int) : ∀ (d i : Nat), i + d = l.length → ∀ acc : List ByteArray, acc.length ≤ i →
    ∃ r, impl_EntriesOf.l0L kd acc l (l.length : Int) (i : Int) = some r ∧ spec_EntriesOf.l0L kd l acc (i : Int) = some r ∧ r.length ≤ l.length := by
  intro d
  induction d with
  | zero =>
    intro i hi acc ha
    exact ⟨acc, by rw [impl_EntriesOf.l0L_eq, if_neg (by omega)], by rw [spec_EntriesOf.l0L_eq, if_neg (by omega)], by omega⟩
  | succ d ih =>
    intro i hi acc ha
    have e1 : ((i : Int) + 1) = ((i + 1 : Nat) : Int) := by omega
    by_cases h : l[i].f0 = kd
    · have ei : impl_EntriesOf.l0L kd acc l (l.length : Int) (i : Int) = impl_EntriesOf.l0L kd (acc ++ [l[i].f1]) l (l.length : Int) ((i + 1 : Nat) : Int) := by
        rw [impl_EntriesOf.l0L_eq, if_pos (by omega), if_pos (by omega), if_pos (by omega), rd_T_nat (show i < l.length by omega), if_pos h, if_pos (by omega), w64 (by omega) (by omega), e1]
      have es : spec_EntriesOf.l0L kd l acc (i : Int) = spec_EntriesOf.l0L kd l (acc ++ [l[i].f1]) ((i + 1 : Nat) : Int) := by
        rw [spec_EntriesOf.l0L_eq, if_pos (by omega), if_pos (by omega), rd_T_nat (show i < l.length by omega), if_pos h, if_pos (by omega), w64 (by omega) (by omega), e1]
      rw [ei, es]
      exact ih (i + 1) (by omega) _ (by simp; omega)
    · have ei : impl_EntriesOf.l0L kd acc l (l.length : Int) (i : Int) = impl_EntriesOf.l0L kd acc l (l.length : Int) ((i + 1 : Nat) : Int) := by
        rw [impl_EntriesOf.l0L_eq, if_pos (by omega), if_pos (by omega), if_pos (by omega), rd_T_nat (show i < l.length by omega), if_neg h, w64 (by omega) (by omega), e1]
      have es : spec_EntriesOf.l0L kd l acc (i : Int) = spec_EntriesOf.l0L kd l acc ((i + 1 : Nat) : Int) := by
        rw [spec_EntriesOf.l0L_eq, if_pos (by omega), if_pos (by omega), rd_T_nat (show i < l.length by omega), if_neg h, w64 (by omega) (by omega), e1]
      rw [ei, es]
      exact ih (i + 1) (by omega) _ (by omega)
theorem FnExactEntriesOf_fL (s : ByteArray) (kd : Int) : laws_FnExactEntriesOf.fL s kd = some true := by
  rw [laws_FnExactEntriesOf.fL_eq]
  by_cases h : (s.size : Int) > 1000000
  · rw [if_pos h]
  · obtain ⟨l, n, h1, h2, _, _, h5, _⟩ := journal_same s (by omega)
    obtain ⟨r, k1, k2, k3⟩ := entriesOf_same l h5 kd l.length 0 (by omega) [] (by simp)
    rw [cast0] at k1 k2
    have e1 : impl_EntriesOf.fL s kd = some r := by rw [impl_EntriesOf.fL_eq, h1]; exact k1
    have e2 : spec_EntriesOf.fL s kd = some r := by rw [spec_EntriesOf.fL_eq, h2]; exact k2
    rw [if_neg h, e1, e2]
    simp only [Option.bind_some]
    rw [laws_eqStringS_f r (by omega)]
    simp only [Option.bind_some, if_true]
    rw [laws_markStringS_f r (by omega)]
    simp only [Option.bind_some]
    rw [laws_heldStringS_f r.length (by omega)]
    simp only [Option.bind_some]
    rw [if_neg (by omega)]
    simp only [if_true]
    rw [if_neg (by omega)]
theorem FnExactEntriesOf : laws_FnExactEntriesOf.Pure := by
  intro a0 a1 h0 h1
  exact of_Lim (FnExactEntriesOf_fL a0 a1)
end Go.Proofs.Ytppfdipgaifhiaa.Pure
