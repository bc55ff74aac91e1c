/- FnGridTexts: for every code, a grid that has a text is read from it again, a text that is read is written again, and the program agrees with the reference on both. -/
import Derived.Test.YtppfdipgaifhiabFFnGridTexts
import Derived.Laws.Strings
namespace Go.Proofs.Ytppfdipgaifhiab.Pure
open Go.RowKit Go.Proofs.Ytppfdipgaifhiab.Q Go.Proofs.YtppfdipgaifhiabW.PrintWords Go.Proofs.YtppfdipgaifhiabW.PrintLast Go.Proofs.YtppfdipgaifhiabW.PrintMore
set_option linter.unusedVariables false
set_option linter.unusedSimpArgs false
theorem w64 {x : Int} (h : -9223372036854775808 ≤ x) (h' : x ≤ 9223372036854775807) : wrap64 x = x := by unfold wrap64; omega
theorem of_wf64 {x : Int} (h : (Lit.int .i64 x).wf = true) : -9223372036854775808 ≤ x ∧ x ≤ 9223372036854775807 := by
  simp only [Lit.wf, Bool.and_eq_true, decide_eq_true_eq] at h
  have e1 : IntKind.i64.min = -9223372036854775808 := by decide
  have e2 : IntKind.i64.max = 9223372036854775807 := by decide
  omega
/-- Upwards through a row. -/
theorem up_ind {P : Int → Prop} (n : Int) (he : P n) (hs : ∀ i, 0 ≤ i → i < n → P (i + 1) → P i) : ∀ i, 0 ≤ i → i ≤ n → P i := by
  have key : ∀ (d : Nat) (i : Int), 0 ≤ i → i ≤ n → n - i = d → P i := by
    intro d
    induction d with
    | zero => intro i h0 h1 h2; have : i = n := by omega
              rw [this]; exact he
    | succ d ih => intro i h0 h1 h2; exact hs i h0 (by omega) (ih (i + 1) (by omega) (by omega) (by omega))
  intro i h0 h1
  exact key (n - i).toNat i h0 h1 (by omega)
theorem ba_toList {a b : ByteArray} : a.toList = b.toList ↔ a = b := by
  rw [ByteArray.toList_eq, ByteArray.toList_eq]
  exact ⟨fun h => ByteArray.ext (Array.toList_inj.mp h), fun h => by rw [h]⟩
theorem rdOf_lt {α : Type} {d : α} {xs : List α} {i : Int} (h0 : 0 ≤ i) (h : i < (xs.length : Int)) : rdOf d xs i = xs[i.toNat]'(by omega) := by
  unfold rdOf; rw [List.getD_eq_getElem?_getD, List.getElem?_eq_getElem (by omega)]; rfl
theorem rd_lt {xs : List Int} {i : Int} (h0 : 0 ≤ i) (h : i < (xs.length : Int)) : rd xs i = xs[i.toNat]'(by omega) := by
  unfold rd; rw [List.getD_eq_getElem?_getD, List.getElem?_eq_getElem (by omega)]; rfl
theorem bt_lt {s : ByteArray} {i : Int} (h : i.toNat < s.size) : bt s i = ((s[i.toNat]'h).toNat : Int) := by
  unfold bt; rw [dif_pos h]
theorem rdOf_nat {α : Type} {d : α} {xs : List α} {i : Nat} (h : i < xs.length) : rdOf d xs (i : Int) = xs[i] := by
  unfold rdOf; rw [List.getD_eq_getElem?_getD, Int.toNat_natCast, List.getElem?_eq_getElem h]; rfl
/-! bytes as lists -/
def bl (s : ByteArray) : List UInt8 := s.data.toList
def ob (l : List UInt8) : ByteArray := ⟨l.toArray⟩
theorem bl_ob (l : List UInt8) : bl (ob l) = l := by simp [bl, ob]
theorem ob_bl (s : ByteArray) : ob (bl s) = s := by simp [bl, ob]
theorem bl_inj {a b : ByteArray} (h : bl a = bl b) : a = b := by rw [← ob_bl a, h, ob_bl]
theorem bl_length (s : ByteArray) : (bl s).length = s.size := by simp only [bl, Array.length_toList]; rfl
theorem ob_size (l : List UInt8) : (ob l).size = l.length := by rw [← bl_length, bl_ob]
theorem bl_append (a b : ByteArray) : bl (a ++ b) = bl a ++ bl b := by simp [bl]
theorem ob_append (a b : List UInt8) : ob a ++ ob b = ob (a ++ b) := by apply bl_inj; rw [bl_append, bl_ob, bl_ob, bl_ob]
theorem bl_lit (a : Array UInt8) : bl (⟨a⟩ : ByteArray) = a.toList := rfl
theorem bl_extract (s : ByteArray) (i j : Nat) : bl (s.extract i j) = ((bl s).take j).drop i := by
  simp only [bl, ByteArray.data_extract, Array.toList_extract, List.extract]
  rw [List.drop_take]
theorem bt_bl (s : ByteArray) {i : Int} (h0 : 0 ≤ i) (h : i < (s.size : Int)) : bt s i = ((((bl s)[i.toNat]'(by rw [bl_length]; omega)).toNat : Nat) : Int) := by
  rw [bt_lt (by omega)]; rfl
theorem bt_nat (s : ByteArray) {i : Nat} (h : i < s.size) : bt s (i : Int) = ((((bl s)[i]'(by rw [bl_length]; omega)).toNat : Nat) : Int) := by
  rw [bt_bl s (by omega) (by omega)]; rfl
theorem u8_eq {a : UInt8} {n : Nat} (h : n < 256) : ((a.toNat : Int) = (n : Int)) ↔ a = UInt8.ofNat n := by
  constructor
  · intro e
    apply UInt8.toNat_inj.mp
    rw [UInt8.toNat_ofNat']; omega
  · rintro rfl
    rw [UInt8.toNat_ofNat']; omega
theorem strOfNums_ob (l : List Int) : strOfNums l = ob (l.map fun n => UInt8.ofNat n.toNat) := rfl
/-! splitting at a byte, and putting together -/
def glue (p : List UInt8) : List (List UInt8) → List (List UInt8)
  | [] => [p]
  | x :: xs => (p ++ x) :: xs
def splitL (b : UInt8) : List UInt8 → List (List UInt8)
  | [] => [[]]
  | c :: r => if c = b then [] :: splitL b r else glue [c] (splitL b r)
def joinL (sep : List UInt8) : List (List UInt8) → List UInt8
  | [] => []
  | [x] => x
  | x :: y :: r => x ++ sep ++ joinL sep (y :: r)
theorem splitL_ne (b : UInt8) (l : List UInt8) : splitL b l ≠ [] := by
  cases l with
  | nil => simp [splitL]
  | cons c r => simp only [splitL]; split
                · simp
                · cases splitL b r <;> simp [glue]
theorem glue_nil {x : List (List UInt8)} (h : x ≠ []) : glue [] x = x := by
  cases x with
  | nil => exact absurd rfl h
  | cons => rfl
theorem glue_glue (p q : List UInt8) (x : List (List UInt8)) : glue p (glue q x) = glue (p ++ q) x := by
  cases x <;> simp [glue]
theorem joinL_glue (sep p : List UInt8) (x : List (List UInt8)) : joinL sep (glue p x) = p ++ joinL sep x := by
  cases x with
  | nil => simp [glue, joinL]
  | cons y ys => cases ys <;> simp [glue, joinL]
theorem joinL_cons (sep : List UInt8) (x : List UInt8) {r : List (List UInt8)} (h : r ≠ []) : joinL sep (x :: r) = x ++ sep ++ joinL sep r := by
  cases r with
  | nil => exact absurd rfl h
  | cons => rfl
theorem joinL_splitL (b : UInt8) (l : List UInt8) : joinL [b] (splitL b l) = l := by
  induction l with
  | nil => rfl
  | cons c r ih =>
    simp only [splitL]
    split
    · rename_i h; rw [joinL_cons _ _ (splitL_ne b r), ih, h]; rfl
    · rw [joinL_glue, ih]; rfl
theorem splitL_mem (b : UInt8) (l : List UInt8) : ∀ x ∈ splitL b l, b ∉ x := by
  induction l with
  | nil => simp [splitL]
  | cons c r ih =>
    simp only [splitL]
    split
    · intro x hx
      rcases List.mem_cons.mp hx with rfl | hx
      · simp
      · exact ih x hx
    · rename_i h
      intro x hx
      cases e : splitL b r with
      | nil => exact absurd e (splitL_ne b r)
      | cons y ys =>
        rw [e] at hx ih
        rcases List.mem_cons.mp hx with rfl | hx
        · have := ih y (by simp)
          simp only [List.cons_append, List.nil_append, List.mem_cons, not_or]
          exact ⟨fun e => h e.symm, this⟩
        · exact ih x (by simp [hx])
theorem splitL_app (b : UInt8) (p r : List UInt8) (h : b ∉ p) : splitL b (p ++ r) = glue p (splitL b r) := by
  induction p with
  | nil => rw [List.nil_append, glue_nil (splitL_ne b r)]
  | cons c p ih =>
    simp only [List.mem_cons, not_or] at h
    simp only [List.cons_append, splitL]
    rw [if_neg (fun e => h.1 e.symm), ih h.2, glue_glue]; rfl
theorem splitL_joinL (b : UInt8) (rows : List (List UInt8)) (h0 : rows ≠ []) (h : ∀ x ∈ rows, b ∉ x) : splitL b (joinL [b] rows) = rows := by
  induction rows with
  | nil => exact absurd rfl h0
  | cons x r ih =>
    cases r with
    | nil =>
      have := splitL_app b x [] (h x (by simp))
      simp only [List.append_nil] at this
      simp [joinL, this, splitL, glue]
    | cons y ys =>
      rw [joinL_cons _ _ (by simp), List.append_assoc, splitL_app b x _ (h x (by simp))]
      simp only [List.cons_append, List.nil_append, splitL, if_true]
      rw [ih (by simp) (fun z hz => h z (by simp [hz]))]
      simp [glue]
theorem splitL_length (b : UInt8) (l : List UInt8) : (splitL b l).length ≤ l.length + 1 := by
  induction l with
  | nil => simp [splitL]
  | cons c r ih =>
    simp only [splitL]
    split
    · simp; omega
    · cases e : splitL b r with
      | nil => simp [glue]
      | cons y ys => rw [e] at ih; simp [glue] at ih ⊢; omega
theorem some_iff {b c : Bool} (h : b = true ↔ c = true) : some b = some c := by
  congr 1; exact Bool.eq_iff_iff.mpr h
theorem cast0 : ((0 : Nat) : Int) = 0 := rfl
theorem ext_snoc (s : ByteArray) {f i : Nat} (hf : f ≤ i) (h : i < s.size) : ((bl s).take (i + 1)).drop f = ((bl s).take i).drop f ++ [(bl s)[i]'(by rw [bl_length]; exact h)] := by
  have h' : i < (bl s).length := by rw [bl_length]; exact h
  rw [List.take_succ_eq_append_getElem h', List.drop_append_of_le_length (by rw [List.length_take]; omega)]
theorem drop_cons (s : ByteArray) {i : Nat} (h : i < s.size) : (bl s).drop i = (bl s)[i]'(by rw [bl_length]; exact h) :: (bl s).drop (i + 1) :=
  List.drop_eq_getElem_cons (by rw [bl_length]; exact h)
theorem ext_ob (s : ByteArray) (f i : Nat) : s.extract f i = ob (((bl s).take i).drop f) := by
  apply bl_inj; rw [bl_extract, bl_ob]
theorem take_all (s : ByteArray) : (bl s).take s.size = bl s := List.take_of_length_le (by rw [bl_length]; omega)
theorem drop_all (s : ByteArray) : (bl s).drop s.size = [] := List.drop_of_length_le (by rw [bl_length]; omega)
theorem drop_take_self (l : List UInt8) (i : Nat) : (l.take i).drop i = [] := List.drop_of_length_le (by rw [List.length_take]; omega)
theorem u8_ne10 {a : UInt8} (h : a ≠ 10) : ¬ ((a.toNat : Int) = 10) := fun e => h ((u8_eq (n := 10) (by omega)).mp (by omega))
theorem u8_ne32 {a : UInt8} (h : a ≠ 32) : ¬ ((a.toNat : Int) = 32) := fun e => h ((u8_eq (n := 32) (by omega)).mp (by omega))
theorem size_extract_le' (s : ByteArray) (i j : Nat) : (s.extract i j).size ≤ s.size := by rw [← bl_length, bl_extract]; simp [bl_length]; omega
theorem rdOf_ob {ws : List (List UInt8)} {i : Nat} (h : i < ws.length) : rdOf ByteArray.empty (ws.map ob) (i : Int) = ob ws[i] := by
  rw [rdOf_nat (by simpa using h)]; simp
theorem impl_splitAt_l0 (s : ByteArray) (b : UInt8) (hs : s.size ≤ 1000000) : ∀ i : Int, 0 ≤ i → i ≤ (s.size : Int) → ∀ (f : Int) (out : List ByteArray), 0 ≤ f → f ≤ i → (out.length : Int) ≤ i →
    impl_splitAt.l0L s (b.toNat : Int) out f i = some (out ++ (glue (((bl s).take i.toNat).drop f.toNat) (splitL b ((bl s).drop i.toNat))).map ob) := by
  apply up_ind
  · intro f out h0 h1 h2
    rw [impl_splitAt.l0L_eq, if_neg (by omega), if_pos h0, if_pos h1, if_pos (by omega)]
    rw [Int.toNat_natCast, take_all, drop_all]
    simp only [splitL, glue, List.append_nil, List.map_cons, List.map_nil]
    rw [ext_ob, take_all]
  · intro i h0 hi ih f out hf0 hf hl
    have hb := bt_bl s h0 hi
    have hin : i.toNat < s.size := by omega
    have e1 : (i + 1).toNat = i.toNat + 1 := by omega
    have ew : wrap64 (i + 1) = i + 1 := w64 (by omega) (by omega)
    rw [impl_splitAt.l0L_eq, if_pos hi, if_pos h0, hb, drop_cons s hin]
    by_cases hc : (bl s)[i.toNat]'(by rw [bl_length]; exact hin) = b
    · rw [if_pos (by rw [hc]), if_pos hf0, if_pos hf, if_pos (by omega), if_pos (by omega), ew, ih _ _ (by omega) (by omega) (by simp; omega), e1, drop_take_self, glue_nil (splitL_ne _ _)]
      simp only [splitL, hc, if_true, glue, List.append_nil, List.map_cons, List.append_assoc, List.cons_append, List.nil_append]
      rw [ext_ob]
    · rw [if_neg (by intro e; exact hc (UInt8.toNat_inj.mp (by omega))), ew, ih _ _ (by omega) (by omega) (by omega), e1, ext_snoc s (by omega) hin]
      simp only [splitL, if_neg hc]
      rw [glue_glue]
theorem impl_splitAt_f (s : ByteArray) (b : UInt8) (hs : s.size ≤ 1000000) : impl_splitAt.fL s (b.toNat : Int) = some ((splitL b (bl s)).map ob) := by
  rw [impl_splitAt.fL_eq, impl_splitAt_l0 s b hs 0 (by omega) (by omega) 0 [] (by omega) (by omega) (by simp)]
  simp [glue_nil (splitL_ne _ _)]
theorem spec_l01Split_l0 (s : ByteArray) (b : UInt8) (hs : s.size ≤ 1000000) : ∀ i : Int, 0 ≤ i → i ≤ (s.size : Int) → ∀ (f : Int) (out : List ByteArray), 0 ≤ f → f ≤ i → (out.length : Int) ≤ i →
    spec_l01Split.l0L s (b.toNat : Int) out f i = some (out ++ (glue (((bl s).take i.toNat).drop f.toNat) (splitL b ((bl s).drop i.toNat))).map ob) := by
  apply up_ind
  · intro f out h0 h1 h2
    rw [spec_l01Split.l0L_eq, if_pos (by omega), if_pos rfl, if_pos h0, if_pos h1, if_pos (by omega), w64 (by omega) (by omega), spec_l01Split.l0L_eq, if_neg (by omega)]
    rw [Int.toNat_natCast, take_all, drop_all]
    simp only [splitL, glue, List.append_nil, List.map_cons, List.map_nil]
    rw [ext_ob, take_all]
  · intro i h0 hi ih f out hf0 hf hl
    have hb := bt_bl s h0 hi
    have hin : i.toNat < s.size := by omega
    have e1 : (i + 1).toNat = i.toNat + 1 := by omega
    have ew : wrap64 (i + 1) = i + 1 := w64 (by omega) (by omega)
    rw [spec_l01Split.l0L_eq, if_pos (by omega), if_neg (by omega), if_pos h0, if_pos hi, hb, drop_cons s hin]
    by_cases hc : (bl s)[i.toNat]'(by rw [bl_length]; exact hin) = b
    · rw [if_pos (by rw [hc]), if_pos hf0, if_pos hf, if_pos (by omega), ew, ih _ _ (by omega) (by omega) (by simp; omega), e1, drop_take_self, glue_nil (splitL_ne _ _)]
      simp only [splitL, hc, if_true, glue, List.append_nil, List.map_cons, List.append_assoc, List.cons_append, List.nil_append]
      rw [ext_ob]
    · rw [if_neg (by intro e; exact hc (UInt8.toNat_inj.mp (by omega))), ew, ih _ _ (by omega) (by omega) (by omega), e1, ext_snoc s (by omega) hin]
      simp only [splitL, if_neg hc]
      rw [glue_glue]
theorem spec_l01Split_f (s : ByteArray) (b : UInt8) (hs : s.size ≤ 1000000) : spec_l01Split.fL s (b.toNat : Int) = some ((splitL b (bl s)).map ob) := by
  rw [spec_l01Split.fL_eq, spec_l01Split_l0 s b hs 0 (by omega) (by omega) 0 [] (by omega) (by omega) (by simp)]
  simp [glue_nil (splitL_ne _ _)]
def tailJ (sep : List UInt8) (l : List (List UInt8)) : List UInt8 := l.flatMap (fun w => sep ++ w)
theorem joinL_tailJ (sep x : List UInt8) (r : List (List UInt8)) : joinL sep (x :: r) = x ++ tailJ sep r := by
  induction r generalizing x with
  | nil => simp [joinL, tailJ]
  | cons y ys ih => rw [joinL_cons _ _ (by simp), ih]; simp [tailJ, List.append_assoc]
theorem spec_l01Words_l0 (ws : List (List UInt8)) (sep : List UInt8) (hw : ws.length ≤ 1000000000) : ∀ (d i : Nat), 0 < i → i + d = ws.length → ∀ acc : List UInt8, acc.length + (tailJ sep (ws.drop i)).length ≤ 1000000000000 →
    spec_l01Words.l0L (ws.map ob) (ob sep) (ob acc) (i : Int) = some (ob (acc ++ tailJ sep (ws.drop i))) := by
  intro d
  induction d with
  | zero =>
    intro i hi hd acc hl
    rw [spec_l01Words.l0L_eq, if_neg (by simp; omega), List.drop_of_length_le (by omega)]
    simp [tailJ]
  | succ d ih =>
    intro i hi hd acc hl
    have hlt : i < ws.length := by omega
    rw [List.drop_eq_getElem_cons hlt] at hl ⊢
    simp only [tailJ, List.flatMap_cons, List.length_append] at hl
    rw [spec_l01Words.l0L_eq, if_pos (by simp; omega), if_pos (by omega), rdOf_ob hlt, ob_append, ob_append]
    simp only [ob_size, List.length_append]
    rw [if_pos (by omega), if_pos (by omega), if_pos (by omega), w64 (by omega) (by omega)]
    have := ih (i + 1) (by omega) (by omega) (acc ++ sep ++ ws[i]) (by simp only [List.length_append, tailJ]; omega)
    rw [show ((i : Int) + 1) = ((i + 1 : Nat) : Int) by omega, this]
    simp only [tailJ, List.flatMap_cons, List.append_assoc]
theorem spec_l01Words_f (ws : List (List UInt8)) (sep : List UInt8) (hw : ws.length ≤ 1000000000) (hl : (joinL sep ws).length ≤ 1000000000000) :
    spec_l01Words.fL (ws.map ob) (ob sep) = some (ob (joinL sep ws)) := by
  rw [spec_l01Words.fL_eq, show (⟨#[]⟩ : ByteArray) = ob [] from rfl]
  cases ws with
  | nil => rw [spec_l01Words.l0L_eq]; simp [joinL]
  | cons x r =>
    rw [joinL_tailJ] at hl ⊢
    simp only [List.length_append] at hl
    have h0 := rdOf_ob (ws := x :: r) (i := 0) (by simp)
    rw [spec_l01Words.l0L_eq, if_pos (by rw [List.length_map, List.length_cons]; omega), if_neg (by omega), if_pos (by omega)]
    rw [show (0 : Int) = ((0 : Nat) : Int) from rfl, h0]
    simp only [ob_size, List.getElem_cons_zero, ob_append, List.nil_append, List.length_nil]
    rw [if_pos (by omega), w64 (by omega) (by omega)]
    have := spec_l01Words_l0 (x :: r) sep hw r.length 1 (by omega) (by simp; omega) x (by simp; omega)
    rw [show (((0 : Nat) : Int) + 1) = ((1 : Nat) : Int) by omega, this]
    simp
def gridOk (w h : Int) (l : List Bool) : Prop := 1 ≤ w ∧ w ≤ 12 ∧ 1 ≤ h ∧ h ≤ 12 ∧ (l.length : Int) = w * h
instance (w h : Int) (l : List Bool) : Decidable (gridOk w h l) := by unfold gridOk; exact inferInstance
theorem mul12 {w h : Int} (h1 : 1 ≤ w) (h2 : w ≤ 12) (h3 : 1 ≤ h) (h4 : h ≤ 12) : 1 ≤ w * h ∧ w * h ≤ 144 := by
  constructor
  · have := Int.mul_le_mul h1 h3 (by omega) (by omega); omega
  · have := Int.mul_le_mul h2 h4 (by omega) (by omega); omega
def chB (b : Bool) : UInt8 := if b then 35 else 46
def rowB (w : Nat) (l : List Bool) (y : Nat) : List UInt8 := ((l.drop (y * w)).take w).map chB
def rowsB (w h : Nat) (l : List Bool) : List (List UInt8) := (List.range h).map (rowB w l)
theorem row_in {w h y : Nat} (hy : y < h) : y * w + w ≤ h * w := by
  have : (y + 1) * w ≤ h * w := Nat.mul_le_mul_right w (by omega)
  rw [Nat.add_mul] at this; omega
theorem rowB_length {w h : Nat} {l : List Bool} (hl : l.length = w * h) {y : Nat} (hy : y < h) : (rowB w l y).length = w := by
  have := row_in (w := w) hy
  rw [Nat.mul_comm h w] at this
  simp [rowB]; omega
theorem rowsB_range (w h : Nat) (l : List Bool) (y : Nat) (hy : y < h) : (List.range (y + 1)).map (rowB w l) = (List.range y).map (rowB w l) ++ [rowB w l y] := by
  rw [List.range_succ, List.map_append]; rfl
theorem cell_w {w y x : Nat} (h : y * w + x ≤ 1000000) : wrap64 (wrap64 ((y : Int) * (w : Int)) + (x : Int)) = ((y * w + x : Nat) : Int) := by
  have hyw : ((y : Int) * (w : Int)) = ((y * w : Nat) : Int) := by rw [Int.natCast_mul]
  rw [hyw, w64 (x := ((y * w : Nat) : Int)) (by omega) (by omega), w64 (by omega) (by omega)]; omega
theorem row_w {w y : Nat} (h : y * w ≤ 1000000) : wrap64 ((y : Int) * (w : Int)) = ((y * w : Nat) : Int) := by
  have hyw : ((y : Int) * (w : Int)) = ((y * w : Nat) : Int) := by rw [Int.natCast_mul]
  rw [hyw, w64 (by omega) (by omega)]
theorem row_w2 {w y : Nat} (h : y * w + w ≤ 1000000) (hy : y ≤ 1000000) : wrap64 (wrap64 ((y : Int) + 1) * (w : Int)) = ((y * w + w : Nat) : Int) := by
  have hyw : (((y : Int) + 1) * (w : Int)) = ((y * w + w : Nat) : Int) := by rw [Int.add_mul, Int.natCast_add, Int.natCast_mul]; omega
  rw [w64 (x := (y : Int) + 1) (by omega) (by omega), hyw, w64 (by omega) (by omega)]
theorem spec_l31Text_l1 (w h : Nat) (l : List Bool) (hw : w ≤ 12) (hh : h ≤ 12) (hl : l.length = w * h) (y : Nat) (hy : y < h) (acc : List ByteArray) (ha : acc.length ≤ 12) :
    ∀ (d x : Nat), x + d = w → ∀ cur : List UInt8, cur.length ≤ x →
    spec_l31Text.l1L acc (y : Int) (ob cur) (x : Int) (w : Int) (h : Int) l = spec_l31Text.l0L (acc ++ [ob (cur ++ (((l.drop (y * w + x)).take (w - x)).map chB))]) ((y + 1 : Nat) : Int) (w : Int) (h : Int) l := by
  have hwh : h * w ≤ 144 := Nat.mul_le_mul hh hw
  have hr := row_in (w := w) hy
  intro d
  induction d with
  | zero =>
    intro x hx cur hc
    rw [spec_l31Text.l1L_eq, if_neg (by omega), if_pos (by omega), w64 (by omega) (by omega)]
    rw [show w - x = 0 by omega]
    simp
  | succ d ih =>
    intro x hx cur hc
    rw [Nat.mul_comm h w] at hr hwh
    have hlt : y * w + x < l.length := by omega
    rw [spec_l31Text.l1L_eq, if_pos (by omega), cell_w (by omega), if_pos (by omega), if_pos (by omega), rdOf_nat hlt, w64 (by omega) (by omega)]
    rw [List.drop_eq_getElem_cons hlt, show w - x = (w - (x + 1)) + 1 by omega, List.take_succ_cons]
    have e2 : ((x : Int) + 1) = ((x + 1 : Nat) : Int) := by omega
    by_cases hb : l[y * w + x] = true
    · rw [if_pos hb, if_pos (by rw [ob_size]; omega), show (⟨#[35]⟩ : ByteArray) = ob [35] from rfl, ob_append, e2, ih (x + 1) (by omega) _ (by simp; omega)]
      simp only [List.map_cons, hb, chB, if_true, List.append_assoc, List.cons_append, List.nil_append]
      rfl
    · rw [if_neg hb, if_pos (by rw [ob_size]; omega), show (⟨#[46]⟩ : ByteArray) = ob [46] from rfl, ob_append, e2, ih (x + 1) (by omega) _ (by simp; omega)]
      simp only [List.map_cons, hb, chB, List.append_assoc, List.cons_append, List.nil_append]
      rfl
theorem joinL_len (rows : List (List UInt8)) (n : Nat) (h : ∀ r ∈ rows, r.length ≤ n) (sep : List UInt8) : (joinL sep rows).length ≤ rows.length * (n + sep.length) := by
  induction rows with
  | nil => simp [joinL]
  | cons x r ih =>
    cases r with
    | nil =>
      have := h x (by simp)
      simp [joinL]; omega
    | cons y ys =>
      have h1 := h x (by simp)
      have h2 := ih (fun r hr => h r (by simp [hr]))
      rw [joinL_cons _ _ (by simp), List.length_append, List.length_append]
      have h3 : ((y :: ys).length + 1) * (n + sep.length) = (y :: ys).length * (n + sep.length) + (n + sep.length) := Nat.succ_mul _ _
      rw [List.length_cons, h3]; omega
theorem rowsB_len (w h : Nat) (l : List Bool) : (rowsB w h l).length = h := by simp [rowsB]
theorem rowB_le (w : Nat) (l : List Bool) (y : Nat) : (rowB w l y).length ≤ w := by simp [rowB]; omega
theorem gridText_len (w h : Nat) (l : List Bool) (hw : w ≤ 12) (hh : h ≤ 12) : (joinL [47] (rowsB w h l)).length ≤ 1000 := by
  have h1 := joinL_len (rowsB w h l) 12 (by
    intro r hr
    simp only [rowsB, List.mem_map] at hr
    obtain ⟨y, _, rfl⟩ := hr
    have := rowB_le w l y; omega) [47]
  rw [rowsB_len] at h1
  simp only [List.length_cons, List.length_nil] at h1
  omega
theorem spec_l31Text_l0 (w h : Nat) (l : List Bool) (hw : w ≤ 12) (hh : h ≤ 12) (hl : l.length = w * h) : ∀ (d y : Nat), y + d = h →
    spec_l31Text.l0L (((List.range y).map (rowB w l)).map ob) (y : Int) (w : Int) (h : Int) l = some (ob (joinL [47] (rowsB w h l))) := by
  intro d
  induction d with
  | zero =>
    intro y hy
    obtain rfl : y = h := by omega
    rw [spec_l31Text.l0L_eq, if_neg (by omega), show (⟨#[47]⟩ : ByteArray) = ob [47] from rfl]
    have := spec_l01Words_f (rowsB w y l) [47] (by rw [rowsB_len]; omega) (by have := gridText_len w y l hw hh; omega)
    unfold rowsB at this
    rw [this]; rfl
  | succ d ih =>
    intro y hy
    rw [spec_l31Text.l0L_eq, if_pos (by omega), show (⟨#[]⟩ : ByteArray) = ob [] from rfl]
    have := spec_l31Text_l1 w h l hw hh hl y (by omega) (((List.range y).map (rowB w l)).map ob) (by simp; omega) w 0 (by omega) [] (by simp)
    rw [show (0 : Int) = ((0 : Nat) : Int) from rfl, this]
    simp only [List.nil_append, Nat.add_zero, Nat.sub_zero]
    have h2 := ih (y + 1) (by omega)
    rw [rowsB_range w h l y (by omega), List.map_append] at h2
    exact h2
theorem spec_l31Text_f (w h : Nat) (l : List Bool) (hw : w ≤ 12) (hh : h ≤ 12) (hl : l.length = w * h) : spec_l31Text.fL (w : Int) (h : Int) l = some (ob (joinL [47] (rowsB w h l))) := by
  rw [spec_l31Text.fL_eq]
  exact spec_l31Text_l0 w h l hw hh hl h 0 (by omega)
theorem nat_of_gridOk {w h : Int} {l : List Bool} (hg : gridOk w h l) : ∃ (w' h' : Nat), w = (w' : Int) ∧ h = (h' : Int) ∧ 1 ≤ w' ∧ w' ≤ 12 ∧ 1 ≤ h' ∧ h' ≤ 12 ∧ l.length = w' * h' := by
  obtain ⟨h1, h2, h3, h4, h5⟩ := hg
  refine ⟨w.toNat, h.toNat, by omega, by omega, by omega, by omega, by omega, by omega, ?_⟩
  have e1 : (w.toNat : Int) = w := by omega
  have e2 : (h.toNat : Int) = h := by omega
  have : ((w.toNat * h.toNat : Nat) : Int) = w * h := by rw [Int.natCast_mul, e1, e2]
  omega
def gridTxt (w h : Int) (l : List Bool) : ByteArray := ob (joinL [47] (rowsB w.toNat h.toNat l))
theorem impl_within_f (a b c : Int) : impl_within.f a b c = some (decide (b ≤ a ∧ a ≤ c)) := by
  unfold impl_within.f
  by_cases h : b ≤ a
  · rw [if_pos h]; congr 1; simp [h]
  · rw [if_neg h]; simp [h]
theorem spec_l01In_f (a b c : Int) : spec_l01In.f a b c = some (decide (b ≤ a ∧ a ≤ c)) := by
  unfold spec_l01In.f
  by_cases h : b ≤ a
  · rw [if_pos h]; congr 1; simp [h]
  · rw [if_neg h]; simp [h]
theorem spec_IsGrid_f (w h : Int) (l : List Bool) : spec_IsGrid.f w h l = some (decide (gridOk w h l)) := by
  unfold spec_IsGrid.f
  rw [spec_l01In_f, spec_l01In_f]
  simp only [Option.bind_some, decide_eq_true_eq]
  by_cases h1 : 1 ≤ w ∧ w ≤ 12
  · rw [if_pos h1]
    by_cases h2 : 1 ≤ h ∧ h ≤ 12
    · have hm := mul12 h1.1 h1.2 h2.1 h2.2
      rw [if_pos h2, w64 (by omega) (by omega)]
      apply some_iff
      rw [decide_eq_true_eq, beq_iff_eq]
      exact ⟨fun e => ⟨h1.1, h1.2, h2.1, h2.2, e⟩, fun e => e.2.2.2.2⟩
    · rw [if_neg h2]; congr 1; exact (decide_eq_false (fun hc => h2 ⟨hc.2.2.1, hc.2.2.2.1⟩)).symm
  · rw [if_neg h1]; congr 1; exact (decide_eq_false (fun hc => h1 ⟨hc.1, hc.2.1⟩)).symm
def isCh (c : UInt8) : Bool := c == 35 || c == 46
def rowsOk (w : Nat) (rows : List (List UInt8)) : Bool := rows.all fun r => r.length == w && r.all isCh
theorem bt_ob {r : List UInt8} {j : Nat} (h : j < r.length) : bt (ob r) (j : Int) = ((r[j].toNat : Nat) : Int) := by
  rw [bt_nat (ob r) (by rw [ob_size]; exact h)]
  simp only [bl_ob]
theorem u8_ofInt (c : UInt8) (n : Nat) (hn : n < 256) : ((c.toNat : Int) = (n : Int)) ↔ c = UInt8.ofNat n := u8_eq hn
theorem impl_ReadGrid_l1 (rows : List ByteArray) (n w h : Int) (i : Nat) (hi : i < 12) (row : List UInt8) (hr : row.length ≤ 12) :
    ∀ (d j : Nat), j + d = row.length → ∀ acc : List Bool, acc.length ≤ 12 * i + j →
    impl_ReadGrid.l1L (ob row) (j : Int) rows n (i : Int) w h acc = if (row.drop j).all isCh then impl_ReadGrid.l0L rows n ((i + 1 : Nat) : Int) w h (acc ++ (row.drop j).map (· == 35)) else some (0, 0, [], 6) := by
  intro d
  induction d with
  | zero =>
    intro j hj acc ha
    rw [impl_ReadGrid.l1L_eq, if_neg (by rw [ob_size]; omega), List.drop_of_length_le (by omega), w64 (by omega) (by omega)]
    simp
  | succ d ih =>
    intro j hj acc ha
    have hlt : j < row.length := by omega
    rw [impl_ReadGrid.l1L_eq, if_pos (by rw [ob_size]; omega), if_pos (by omega), bt_ob hlt, List.drop_eq_getElem_cons hlt, w64 (by omega) (by omega)]
    have e2 : ((j : Int) + 1) = ((j + 1 : Nat) : Int) := by omega
    by_cases h1 : row[j] = 35
    · have h1' : (((row[j].toNat : Nat) : Int) = 35) := by rw [h1]; rfl
      rw [if_pos h1', if_pos (by omega), e2, ih (j + 1) (by omega) _ (by simp; omega)]
      have h3 : (((row[j].toNat : Nat) : Int) == 35) = true := by simpa using h1'
      have h4 : (row[j] == 35) = true := by simpa using h1
      simp only [List.all_cons, List.map_cons, h3, h4, isCh, Bool.true_or, Bool.true_and, List.append_assoc, List.cons_append, List.nil_append]
    · have h1' : ¬ (((row[j].toNat : Nat) : Int) = 35) := fun e => h1 ((u8_ofInt _ 35 (by omega)).mp e)
      rw [if_neg h1']
      by_cases h2 : row[j] = 46
      · have h2' : (((row[j].toNat : Nat) : Int) = 46) := by rw [h2]; rfl
        rw [if_pos h2', if_pos (by omega), e2, ih (j + 1) (by omega) _ (by simp; omega)]
        have h3 : (((row[j].toNat : Nat) : Int) == 35) = false := by simpa using h1'
        have h4 : (row[j] == 35) = false := by simpa using h1
        have h5 : (row[j] == 46) = true := by simpa using h2
        simp only [List.all_cons, List.map_cons, h3, h4, h5, isCh, Bool.or_true, Bool.true_and, List.append_assoc, List.cons_append, List.nil_append]
      · have h2' : ¬ (((row[j].toNat : Nat) : Int) = 46) := fun e => h2 ((u8_ofInt _ 46 (by omega)).mp e)
        have h4 : (row[j] == 35) = false := by simpa using h1
        have h5 : (row[j] == 46) = false := by simpa using h2
        rw [if_neg h2', if_neg]
        simp only [List.all_cons, isCh, h4, h5, Bool.or_self, Bool.false_and]
        simp
theorem impl_ReadGrid_l0 (rows : List (List UInt8)) (hn : rows.length ≤ 12) (w : Nat) (hw : w ≤ 12) (h : Int) : ∀ (d i : Nat), i + d = rows.length → ∀ acc : List Bool, acc.length ≤ 12 * i →
    impl_ReadGrid.l0L (rows.map ob) (rows.length : Int) (i : Int) (w : Int) h acc = some (if rowsOk w (rows.drop i) then ((w : Int), h, acc ++ ((rows.drop i).flatten.map (· == 35)), 0) else (0, 0, [], 6)) := by
  intro d
  induction d with
  | zero =>
    intro i hi acc ha
    rw [impl_ReadGrid.l0L_eq, if_neg (by omega), List.drop_of_length_le (by omega)]
    simp [rowsOk]
  | succ d ih =>
    intro i hi acc ha
    have hlt : i < rows.length := by omega
    rw [impl_ReadGrid.l0L_eq, if_pos (by omega), if_pos (by omega), if_pos (by rw [List.length_map]; omega), rdOf_ob hlt, ob_size, List.drop_eq_getElem_cons hlt]
    by_cases h1 : rows[i].length = w
    · rw [if_pos (by omega)]
      have := impl_ReadGrid_l1 (rows.map ob) (rows.length : Int) (w : Int) h i (by omega) rows[i] (by omega) rows[i].length 0 (by omega) acc (by omega)
      rw [cast0] at this
      rw [this]
      simp only [List.drop_zero]
      by_cases h2 : rows[i].all isCh = true
      · rw [if_pos h2, ih (i + 1) (by omega) _ (by simp; omega)]
        simp only [rowsOk, List.all_cons, h1, h2, beq_self_eq_true, Bool.true_and, List.flatten_cons, List.map_append, List.append_assoc]
      · rw [if_neg h2]
        have h2' : rows[i].all isCh = false := by simpa using h2
        simp only [rowsOk, List.all_cons, h2', Bool.and_false, Bool.false_and]
        rfl
    · rw [if_neg (by omega)]
      have h1' : (rows[i].length == w) = false := by simpa using h1
      simp only [rowsOk, List.all_cons, h1', Bool.false_and]
      rfl
def rows47 (s : ByteArray) : List (List UInt8) := splitL 47 (bl s)
theorem rows47_cons (s : ByteArray) : ∃ r rs, rows47 s = r :: rs := by
  cases e : rows47 s with
  | nil => exact absurd e (splitL_ne 47 (bl s))
  | cons r rs => exact ⟨r, rs, rfl⟩
def gw (s : ByteArray) : Nat := ((rows47 s).head?.getD []).length
def readOk (s : ByteArray) : Bool := decide (1 ≤ gw s ∧ gw s ≤ 12 ∧ (rows47 s).length ≤ 12) && rowsOk (gw s) (rows47 s)
def readG (s : ByteArray) : Int × Int × List Bool × Int := if readOk s then ((gw s : Int), ((rows47 s).length : Int), (rows47 s).flatten.map (· == 35), 0) else (0, 0, [], 6)
theorem impl_ReadGrid_f (s : ByteArray) (hs : s.size ≤ 1000000) : impl_ReadGrid.fL s = some (readG s) := by
  have h47 : (47 : Int) = (((47 : UInt8).toNat : Nat) : Int) := by decide
  rw [impl_ReadGrid.fL_eq, h47, impl_splitAt_f s 47 hs]
  simp only [Option.bind_some]
  rw [show splitL 47 (bl s) = rows47 s from rfl]
  obtain ⟨r, rs, e⟩ := rows47_cons s
  have e1 : rdOf ByteArray.empty ((rows47 s).map ob) 0 = ob r := by
    rw [show (0 : Int) = ((0 : Nat) : Int) from rfl, rdOf_ob (by rw [e]; simp)]; simp [e]
  have e2 : gw s = r.length := by unfold gw; rw [e]; simp
  rw [if_pos (by rw [e]; simp), e1, ob_size, List.length_map, impl_within_f, impl_within_f, ← e2]
  simp only [Option.bind_some, decide_eq_true_eq]
  have hl1 : 1 ≤ (rows47 s).length := by rw [e]; simp
  unfold readG readOk
  by_cases h1 : 1 ≤ gw s ∧ gw s ≤ 12
  · rw [if_pos (by omega)]
    by_cases h2 : (rows47 s).length ≤ 12
    · have : decide (1 ≤ ((rows47 s).length : Int) ∧ ((rows47 s).length : Int) ≤ 12) = true := decide_eq_true (by omega)
      have h3 : decide (1 ≤ gw s ∧ gw s ≤ 12 ∧ (rows47 s).length ≤ 12) = true := decide_eq_true ⟨h1.1, h1.2, h2⟩
      rw [this, h3, impl_ReadGrid.j0L_eq, if_neg (by simp), List.length_map]
      have := impl_ReadGrid_l0 (rows47 s) h2 (gw s) h1.2 ((rows47 s).length : Int) (rows47 s).length 0 (by omega) [] (by simp)
      rw [cast0] at this
      rw [this]
      simp
    · have : decide (1 ≤ ((rows47 s).length : Int) ∧ ((rows47 s).length : Int) ≤ 12) = false := decide_eq_false (by omega)
      have h3 : decide (1 ≤ gw s ∧ gw s ≤ 12 ∧ (rows47 s).length ≤ 12) = false := decide_eq_false (fun h => h2 h.2.2)
      rw [this, h3, impl_ReadGrid.j0L_eq, if_pos (by simp)]
      simp
  · have h3 : decide (1 ≤ gw s ∧ gw s ≤ 12 ∧ (rows47 s).length ≤ 12) = false := decide_eq_false (fun h => h1 ⟨h.1, h.2.1⟩)
    rw [if_neg (by omega), impl_ReadGrid.j0L_eq, if_pos rfl, h3]
    simp
theorem spec_ReadGrid_l0 (s : ByteArray) (hs : s.size ≤ 1000000) (w h : Int) : ∀ (d i : Nat), i + d = s.size → ∀ acc : List Bool, acc.length ≤ i →
    spec_ReadGrid.l0L s (i : Int) w h acc = spec_ReadGrid.l0L s (s.size : Int) w h (acc ++ (((bl s).drop i).filter (· != 47)).map (· == 35)) := by
  intro d
  induction d with
  | zero =>
    intro i hi acc ha
    obtain rfl : i = s.size := by omega
    rw [drop_all]; simp
  | succ d ih =>
    intro i hi acc ha
    have hlt : i < s.size := by omega
    have hlt' : i < (bl s).length := by rw [bl_length]; exact hlt
    rw [spec_ReadGrid.l0L_eq, if_pos (by omega), if_pos (by omega), bt_nat s hlt, drop_cons s hlt, w64 (by omega) (by omega)]
    have e2 : ((i : Int) + 1) = ((i + 1 : Nat) : Int) := by omega
    by_cases h1 : (bl s)[i] = 47
    · have h1' : ((((bl s)[i].toNat : Nat) : Int) = 47) := by rw [h1]; rfl
      rw [if_pos h1', e2, ih (i + 1) (by omega) _ (by omega), List.filter_cons, if_neg (by simp [h1])]
    · have h1' : ¬ ((((bl s)[i].toNat : Nat) : Int) = 47) := fun e => h1 ((u8_ofInt _ 47 (by omega)).mp e)
      rw [if_neg h1', if_pos (by omega), e2, ih (i + 1) (by omega) _ (by simp; omega), List.filter_cons, if_pos (by simpa using h1), List.map_cons, List.append_assoc]
      have : ((((bl s)[i].toNat : Nat) : Int) == 35) = ((bl s)[i] == 35) := by
        rw [Bool.eq_iff_iff, beq_iff_eq, beq_iff_eq]
        exact u8_ofInt _ 35 (by omega)
      rw [this]; rfl
theorem filter_split (b : UInt8) (l : List UInt8) : l.filter (· != b) = (splitL b l).flatten := by
  induction l with
  | nil => simp [splitL]
  | cons c r ih =>
    simp only [splitL, List.filter_cons]
    by_cases h : c = b
    · rw [if_neg (by simp [h]), if_pos h, ih]; simp
    · rw [if_pos (by simpa using h), if_neg h, ih]
      cases e : splitL b r with
      | nil => exact absurd e (splitL_ne b r)
      | cons y ys => simp [glue]
theorem spec_ReadGrid_mid (s : ByteArray) (hs : s.size ≤ 1000000) : spec_ReadGrid.fL s = some (if gridOk (gw s) (rows47 s).length ((rows47 s).flatten.map (· == 35)) ∧ gridTxt (gw s) (rows47 s).length ((rows47 s).flatten.map (· == 35)) = s
    then ((gw s : Int), ((rows47 s).length : Int), (rows47 s).flatten.map (· == 35), 0) else (0, 0, [], 6)) := by
  have h47 : (47 : Int) = (((47 : UInt8).toNat : Nat) : Int) := by decide
  rw [spec_ReadGrid.fL_eq, h47, spec_l01Split_f s 47 hs]
  simp only [Option.bind_some]
  rw [show splitL 47 (bl s) = rows47 s from rfl]
  obtain ⟨r, rs, e⟩ := rows47_cons s
  have e1 : rdOf ByteArray.empty ((rows47 s).map ob) 0 = ob r := by
    rw [show (0 : Int) = ((0 : Nat) : Int) from rfl, rdOf_ob (by rw [e]; simp)]; simp [e]
  have e2 : gw s = r.length := by unfold gw; rw [e]; simp
  rw [if_pos (by rw [e]; simp), e1, ob_size, List.length_map, ← e2]
  have := spec_ReadGrid_l0 s hs (gw s : Int) ((rows47 s).length : Int) s.size 0 (by omega) [] (by simp)
  rw [cast0] at this
  rw [this, List.drop_zero, List.nil_append, filter_split, show splitL 47 (bl s) = rows47 s from rfl]
  rw [spec_ReadGrid.l0L_eq, if_neg (by omega), spec_IsGrid_f]
  simp only [Option.bind_some, decide_eq_true_eq]
  by_cases hg : gridOk (gw s) (rows47 s).length ((rows47 s).flatten.map (· == 35))
  · rw [if_pos hg]
    have hg' := hg
    obtain ⟨h1, h2, h3, h4, h5⟩ := hg'
    have hl : ((rows47 s).flatten.map (· == 35)).length = gw s * (rows47 s).length := by
      have : ((gw s * (rows47 s).length : Nat) : Int) = (gw s : Int) * ((rows47 s).length : Int) := Int.natCast_mul _ _
      omega
    rw [spec_l31Text_f (gw s) (rows47 s).length _ (by omega) (by omega) hl]
    simp only [Option.bind_some, ba_toList]
    have et : gridTxt (gw s) (rows47 s).length ((rows47 s).flatten.map (· == 35)) = ob (joinL [47] (rowsB (gw s) (rows47 s).length ((rows47 s).flatten.map (· == 35)))) := by
      unfold gridTxt; rw [Int.toNat_natCast, Int.toNat_natCast]
    by_cases hs2 : ob (joinL [47] (rowsB (gw s) (rows47 s).length ((rows47 s).flatten.map (· == 35)))) = s
    · rw [if_pos hs2, if_pos ⟨hg, by rw [et]; exact hs2⟩]
    · rw [if_neg hs2, if_neg (fun h => hs2 (by rw [← et]; exact h.2))]
  · rw [if_neg hg, if_neg (fun h => hg h.1)]
theorem flat_row : ∀ (rows : List (List UInt8)) (w : Nat), (∀ r ∈ rows, r.length = w) → ∀ y (hy : y < rows.length), (rows.flatten.drop (y * w)).take w = rows[y] := by
  intro rows w
  induction rows with
  | nil => intro _ y hy; simp at hy
  | cons r rs ih =>
    intro h y hy
    have hr := h r (by simp)
    cases y with
    | zero => simp [← hr]
    | succ y =>
      have e : (r ++ rs.flatten).drop ((y + 1) * w) = rs.flatten.drop (y * w) := by
        rw [Nat.add_mul, Nat.one_mul, Nat.add_comm, ← List.drop_drop, List.drop_append_of_le_length (by omega), show r.drop w = [] from List.drop_of_length_le (by omega), List.nil_append]
      have := ih (fun r hr => h r (by simp [hr])) y (by simpa using hy)
      rw [List.flatten_cons, e, this]; simp
theorem flat_len (rows : List (List UInt8)) (w : Nat) (h : ∀ r ∈ rows, r.length = w) : rows.flatten.length = w * rows.length := by
  induction rows with
  | nil => simp
  | cons r rs ih => rw [List.flatten_cons, List.length_append, ih (fun x hx => h x (by simp [hx])), h r (by simp), List.length_cons, Nat.mul_add]; omega
theorem chB_isCh {c : UInt8} (h : isCh c = true) : chB (c == 35) = c := by
  unfold isCh at h
  unfold chB
  by_cases h1 : c = 35
  · simp [h1]
  · have h2 : c = 46 := by simpa [h1] using h
    rw [h2]; rfl
theorem isCh_chB (b : Bool) : isCh (chB b) = true := by cases b <;> rfl
theorem rowsB_of (rows : List (List UInt8)) (w : Nat) (h : rowsOk w rows = true) : rowsB w rows.length (rows.flatten.map (· == 35)) = rows := by
  unfold rowsOk at h
  rw [List.all_eq_true] at h
  have hlen : ∀ r ∈ rows, r.length = w := fun r hr => by have := h r hr; simp at this; exact this.1
  apply List.ext_getElem
  · rw [rowsB_len]
  · intro y h1 h2
    simp only [rowsB, List.getElem_map, List.getElem_range, rowB]
    rw [← List.map_drop, ← List.map_take, flat_row rows w hlen y h2, List.map_map]
    have hc := h rows[y] (List.getElem_mem h2)
    simp only [Bool.and_eq_true, List.all_eq_true] at hc
    apply List.ext_getElem
    · simp
    · intro j h3 h4
      simp only [List.getElem_map, Function.comp]
      exact chB_isCh (hc.2 _ (List.getElem_mem h4))
theorem rowsB_ok (w h : Nat) (l : List Bool) (hl : l.length = w * h) : rowsOk w (rowsB w h l) = true := by
  unfold rowsOk
  rw [List.all_eq_true]
  intro r hr
  simp only [rowsB, List.mem_map, List.mem_range] at hr
  obtain ⟨y, hy, rfl⟩ := hr
  rw [Bool.and_eq_true, beq_iff_eq]
  refine ⟨rowB_length hl hy, ?_⟩
  rw [List.all_eq_true]
  intro c hc
  simp only [rowB, List.mem_map] at hc
  obtain ⟨b, _, rfl⟩ := hc
  exact isCh_chB b
theorem spec_ReadGrid_f (s : ByteArray) (hs : s.size ≤ 1000000) : spec_ReadGrid.fL s = some (readG s) := by
  rw [spec_ReadGrid_mid s hs]
  unfold readG
  have hl1 : 1 ≤ (rows47 s).length := by obtain ⟨r, rs, e⟩ := rows47_cons s; rw [e]; simp
  congr 1
  have key : (gridOk (gw s) (rows47 s).length ((rows47 s).flatten.map (· == 35)) ∧ gridTxt (gw s) (rows47 s).length ((rows47 s).flatten.map (· == 35)) = s) ↔ readOk s = true := by
    unfold readOk
    rw [Bool.and_eq_true, decide_eq_true_eq]
    constructor
    · rintro ⟨⟨h1, h2, h3, h4, h5⟩, ht⟩
      refine ⟨⟨by omega, by omega, by omega⟩, ?_⟩
      have hl : ((rows47 s).flatten.map (· == 35)).length = gw s * (rows47 s).length := by
        have : ((gw s * (rows47 s).length : Nat) : Int) = (gw s : Int) * ((rows47 s).length : Int) := Int.natCast_mul _ _
        omega
      have e : bl s = joinL [47] (rowsB (gw s) (rows47 s).length ((rows47 s).flatten.map (· == 35))) := by
        rw [← bl_ob (joinL [47] _)]
        congr 1
        unfold gridTxt at ht
        rw [Int.toNat_natCast, Int.toNat_natCast] at ht
        exact ht.symm
      have hok := rowsB_ok (gw s) (rows47 s).length _ hl
      have e2 : rows47 s = rowsB (gw s) (rows47 s).length ((rows47 s).flatten.map (· == 35)) := by
        have : rows47 s = splitL 47 (joinL [47] (rowsB (gw s) (rows47 s).length ((rows47 s).flatten.map (· == 35)))) := by rw [← e]; rfl
        rw [splitL_joinL] at this
        · exact this
        · intro h0
          have hx := rowsB_len (gw s) (rows47 s).length ((rows47 s).flatten.map (· == 35))
          rw [h0, List.length_nil] at hx
          omega
        · intro x hx hc
          unfold rowsOk at hok
          rw [List.all_eq_true] at hok
          have := hok x hx
          rw [Bool.and_eq_true, List.all_eq_true] at this
          have h47 := this.2 _ hc
          simp [isCh] at h47
      rw [← e2] at hok
      exact hok
    · rintro ⟨⟨h1, h2, h3⟩, hok⟩
      have hlen : ∀ r ∈ rows47 s, r.length = gw s := fun r hr => by
        unfold rowsOk at hok
        rw [List.all_eq_true] at hok
        have := hok r hr; simp at this; exact this.1
      have hfl := flat_len _ _ hlen
      refine ⟨⟨by omega, by omega, by omega, by omega, ?_⟩, ?_⟩
      · rw [List.length_map, hfl, Int.natCast_mul]
      · unfold gridTxt
        rw [Int.toNat_natCast, Int.toNat_natCast, rowsB_of _ _ hok]
        rw [show rows47 s = splitL 47 (bl s) from rfl, joinL_splitL, ob_bl]
  by_cases hk : readOk s = true
  · rw [if_pos hk, if_pos (key.mpr hk)]
  · rw [if_neg hk, if_neg (fun h => hk (key.mp h))]
theorem impl_joinWith_l0 (ws : List (List UInt8)) (sep : List UInt8) (hw : ws.length ≤ 1000000000) : ∀ (d i : Nat), 0 < i → i + d = ws.length → ∀ acc : List UInt8, acc.length + (tailJ sep (ws.drop i)).length ≤ 1000000000000 →
    impl_joinWith.l0L (ob sep) (ob acc) (ws.map ob) (ws.length : Int) (i : Int) = some (ob (acc ++ tailJ sep (ws.drop i))) := by
  intro d
  induction d with
  | zero =>
    intro i hi hd acc hl
    rw [impl_joinWith.l0L_eq, if_neg (by omega), List.drop_of_length_le (by omega)]
    simp [tailJ]
  | succ d ih =>
    intro i hi hd acc hl
    have hlt : i < ws.length := by omega
    rw [List.drop_eq_getElem_cons hlt] at hl ⊢
    simp only [tailJ, List.flatMap_cons, List.length_append] at hl
    rw [impl_joinWith.l0L_eq, if_pos (by omega), if_pos (by omega), if_pos (by simp; omega), if_pos (by omega), rdOf_ob hlt, ob_append, ob_append]
    simp only [ob_size, List.length_append]
    rw [if_pos (by omega), if_pos (by omega), w64 (by omega) (by omega)]
    have := ih (i + 1) (by omega) (by omega) (acc ++ sep ++ ws[i]) (by simp only [List.length_append, tailJ]; omega)
    rw [show ((i : Int) + 1) = ((i + 1 : Nat) : Int) by omega, this]
    simp only [tailJ, List.flatMap_cons, List.append_assoc]
theorem impl_joinWith_f (ws : List (List UInt8)) (sep : List UInt8) (hw : ws.length ≤ 1000000000) (hl : (joinL sep ws).length ≤ 1000000000000) :
    impl_joinWith.fL (ws.map ob) (ob sep) = some (ob (joinL sep ws)) := by
  rw [impl_joinWith.fL_eq, show (⟨#[]⟩ : ByteArray) = ob [] from rfl, List.length_map]
  cases ws with
  | nil => rw [impl_joinWith.l0L_eq]; simp [joinL]
  | cons x r =>
    rw [joinL_tailJ] at hl ⊢
    simp only [List.length_append] at hl
    have h0 := rdOf_ob (ws := x :: r) (i := 0) (by simp)
    rw [impl_joinWith.l0L_eq, if_pos (by rw [List.length_cons]; omega), if_pos (by omega), if_pos (by rw [List.length_map, List.length_cons]; omega), if_neg (by omega)]
    rw [show (0 : Int) = ((0 : Nat) : Int) from rfl, h0]
    simp only [ob_size, List.getElem_cons_zero, ob_append, List.nil_append, List.length_nil]
    rw [if_pos (by omega), w64 (by omega) (by omega)]
    have := impl_joinWith_l0 (x :: r) sep hw r.length 1 (by omega) (by simp; omega) x (by simp; omega)
    rw [show (((0 : Nat) : Int) + 1) = ((1 : Nat) : Int) by omega, this]
    simp
theorem impl_IsGrid_f (w h : Int) (l : List Bool) : impl_IsGrid.f w h l = some (decide (gridOk w h l)) := by
  unfold impl_IsGrid.f
  rw [impl_within_f, impl_within_f]
  simp only [Option.bind_some, decide_eq_true_eq]
  by_cases h1 : 1 ≤ w ∧ w ≤ 12
  · rw [if_pos h1]
    by_cases h2 : 1 ≤ h ∧ h ≤ 12
    · have hm := mul12 h1.1 h1.2 h2.1 h2.2
      rw [if_pos h2, w64 (by omega) (by omega)]
      apply some_iff
      rw [decide_eq_true_eq, beq_iff_eq]
      exact ⟨fun e => ⟨h1.1, h1.2, h2.1, h2.2, e⟩, fun e => e.2.2.2.2⟩
    · rw [if_neg h2]; congr 1; exact (decide_eq_false (fun hc => h2 ⟨hc.2.2.1, hc.2.2.2.1⟩)).symm
  · rw [if_neg h1]; congr 1; exact (decide_eq_false (fun hc => h1 ⟨hc.1, hc.2.1⟩)).symm
theorem impl_GridText_l1 (w h : Nat) (l : List Bool) (acc : List ByteArray) (y : Nat) (hy : y < 12) (ha : acc.length ≤ 12) (row : List Bool) (hr : row.length ≤ 12) :
    ∀ (d x : Nat), x + d = row.length → ∀ cur : List UInt8, cur.length ≤ x →
    impl_GridText.l1L acc (y : Int) (ob cur) row (row.length : Int) (x : Int) (w : Int) (h : Int) l = impl_GridText.l0L (acc ++ [ob (cur ++ (row.drop x).map chB)]) ((y + 1 : Nat) : Int) (w : Int) (h : Int) l := by
  intro d
  induction d with
  | zero =>
    intro x hx cur hc
    rw [impl_GridText.l1L_eq, if_neg (by omega), if_pos (by omega), w64 (by omega) (by omega), List.drop_of_length_le (by omega)]
    simp
  | succ d ih =>
    intro x hx cur hc
    have hlt : x < row.length := by omega
    rw [impl_GridText.l1L_eq, if_pos (by omega), if_pos (by omega), if_pos (by omega), rdOf_nat hlt, w64 (by omega) (by omega), List.drop_eq_getElem_cons hlt]
    have e2 : ((x : Int) + 1) = ((x + 1 : Nat) : Int) := by omega
    by_cases hb : row[x] = true
    · rw [if_pos hb, if_pos (by rw [ob_size]; omega), show (⟨#[35]⟩ : ByteArray) = ob [35] from rfl, ob_append, e2, ih (x + 1) (by omega) _ (by simp; omega)]
      simp only [List.map_cons, hb, chB, if_true, List.append_assoc, List.cons_append, List.nil_append]
      try rfl
    · rw [if_neg hb, if_pos (by rw [ob_size]; omega), show (⟨#[46]⟩ : ByteArray) = ob [46] from rfl, ob_append, e2, ih (x + 1) (by omega) _ (by simp; omega)]
      simp only [List.map_cons, hb, chB, List.append_assoc, List.cons_append, List.nil_append]
      try rfl
theorem impl_GridText_l0 (w h : Nat) (l : List Bool) (hw : w ≤ 12) (hh : h ≤ 12) (hl : l.length = w * h) : ∀ (d y : Nat), y + d = h →
    impl_GridText.l0L (((List.range y).map (rowB w l)).map ob) (y : Int) (w : Int) (h : Int) l = some (ob (joinL [47] (rowsB w h l)), 0) := by
  intro d
  induction d with
  | zero =>
    intro y hy
    obtain rfl : y = h := by omega
    rw [impl_GridText.l0L_eq, if_neg (by omega), show (⟨#[47]⟩ : ByteArray) = ob [47] from rfl]
    have := impl_joinWith_f (rowsB w y l) [47] (by rw [rowsB_len]; omega) (by have := gridText_len w y l hw hh; omega)
    unfold rowsB at this
    rw [this]; rfl
  | succ d ih =>
    intro y hy
    have hwh : h * w ≤ 144 := Nat.mul_le_mul hh hw
    have hr := row_in (w := w) (show y < h by omega)
    rw [Nat.mul_comm h w] at hr hwh
    rw [impl_GridText.l0L_eq, if_pos (by omega), row_w (by omega), row_w2 (by omega) (by omega), if_pos (by omega), if_pos (by omega), if_pos (by omega), show (⟨#[]⟩ : ByteArray) = ob [] from rfl]
    simp only [Int.toNat_natCast]
    have hrow : (l.take (y * w + w)).drop (y * w) = (l.drop (y * w)).take w := by rw [List.drop_take]; congr 1; omega
    rw [hrow]
    have hlen : ((l.drop (y * w)).take w).length = w := by simp; omega
    have := impl_GridText_l1 w h l (((List.range y).map (rowB w l)).map ob) y (by omega) (by simp; omega) ((l.drop (y * w)).take w) (by omega) w 0 (by omega) [] (by simp)
    rw [show (0 : Int) = ((0 : Nat) : Int) from rfl, this]
    simp only [List.nil_append, List.drop_zero]
    have h2 := ih (y + 1) (by omega)
    rw [rowsB_range w h l y (by omega), List.map_append] at h2
    exact h2
theorem impl_GridText_f (w h : Int) (l : List Bool) : impl_GridText.fL w h l = some (if gridOk w h l then (gridTxt w h l, 0) else (⟨#[]⟩, 1)) := by
  rw [impl_GridText.fL_eq, impl_IsGrid_f]
  simp only [Option.bind_some, decide_eq_true_eq]
  by_cases hg : gridOk w h l
  · rw [if_pos hg, if_pos hg]
    obtain ⟨w', h', rfl, rfl, h1, h2, h3, h4, h5⟩ := nat_of_gridOk hg
    have := impl_GridText_l0 w' h' l h2 h4 h5 h' 0 (by omega)
    simp only [List.range_zero, List.map_nil] at this
    exact this
  · rw [if_neg hg, if_neg hg]
theorem spec_l31Code_f (w h : Int) (l : List Bool) (x y : Int) : spec_l31Code.f w h l x y = some (if gridOk w h l then (if 0 ≤ x ∧ x ≤ w - 1 ∧ 0 ≤ y ∧ y ≤ h - 1 then 0 else 2) else 1) := by
  unfold spec_l31Code.f
  rw [spec_IsGrid_f, spec_l01In_f, spec_l01In_f]
  simp only [Option.bind_some, decide_eq_true_eq]
  by_cases hg : gridOk w h l
  · have hg' := hg
    obtain ⟨h1, h2, h3, h4, _⟩ := hg'
    rw [if_pos hg, if_pos hg, w64 (x := w - 1) (by omega) (by omega), w64 (x := h - 1) (by omega) (by omega)]
    by_cases hx : 0 ≤ x ∧ x ≤ w - 1
    · rw [if_pos hx]
      by_cases hy : 0 ≤ y ∧ y ≤ h - 1
      · rw [if_pos hy, if_pos ⟨hx.1, hx.2, hy⟩]
      · rw [if_neg hy, if_neg (fun hc => hy hc.2.2)]
    · rw [if_neg hx, if_neg (fun hc => hx ⟨hc.1, hc.2.1⟩)]
  · rw [if_neg hg, if_neg hg]
theorem spec_GridText_f (w h : Int) (l : List Bool) : spec_GridText.fL w h l = some (if gridOk w h l then (gridTxt w h l, 0) else (⟨#[]⟩, 1)) := by
  rw [spec_GridText.fL_eq, spec_l31Code_f]
  simp only [Option.bind_some]
  by_cases hg : gridOk w h l
  · have hg' := hg
    obtain ⟨h1, h2, h3, h4, _⟩ := hg'
    rw [if_pos hg, if_pos hg, if_pos (by omega)]
    obtain ⟨w', h', rfl, rfl, h1, h2, h3, h4, h5⟩ := nat_of_gridOk hg
    rw [spec_l31Text_f w' h' l h2 h4 h5]
    rfl
  · rw [if_neg hg, if_neg hg, if_neg (by omega)]
/-- The source of numbers: its code's bytes, how many of them are used, its seed. -/
def drawI (c : List Int) (a s : Int) : Prop := 0 ≤ a ∧ a ≤ (c.length : Int) ∧ 0 ≤ s ∧ s < 2147483647
def codeOk (c : List Int) : Prop := (∀ x ∈ c, 0 ≤ x ∧ x ≤ 255) ∧ c.length ≤ 1000000
theorem rd_byte {c : List Int} (h : codeOk c) (i : Int) : 0 ≤ rd c i ∧ rd c i ≤ 255 := by
  unfold rd
  rw [List.getD_eq_getElem?_getD]
  by_cases hi : i.toNat < c.length
  · rw [List.getElem?_eq_getElem hi]; exact h.1 _ (List.getElem_mem hi)
  · rw [List.getElem?_eq_none (by omega)]; simp
theorem seed_next {s : Int} (h0 : 0 ≤ s) (h1 : s < 2147483647) : Int.tmod (wrap64 ((wrap64 (s * 48271)) + 29)) 2147483647 = (s * 48271 + 29) % 2147483647 := by
  rw [w64 (x := s * 48271) (by omega) (by omega), w64 (by omega) (by omega), Int.tmod_eq_emod_of_nonneg (by omega)]
theorem next_ok {c : List Int} (hc : codeOk c) {a s : Int} (hI : drawI c a s) (n : Int) : ∃ r a' s', spec_l01Next.f c a s n = some (r, a', s') ∧ drawI c a' s' ∧ 0 ≤ r ∧ (n ≤ 1 → r = 0) ∧ (1 < n → r < n) := by
  obtain ⟨h1, h2, h3, h4⟩ := hI
  have hcl := hc.2
  unfold spec_l01Next.f
  by_cases hn : n ≤ 1
  · rw [if_pos hn]; exact ⟨0, a, s, rfl, ⟨h1, h2, h3, h4⟩, by omega, fun _ => rfl, fun h => by omega⟩
  · rw [if_neg hn, seed_next h3 h4]
    have hs1 : 0 ≤ (s * 48271 + 29) % 2147483647 := Int.emod_nonneg _ (by omega)
    have hs2 : (s * 48271 + 29) % 2147483647 < 2147483647 := Int.emod_lt_of_pos _ (by omega)
    generalize (s * 48271 + 29) % 2147483647 = s2 at hs1 hs2
    have hd : Int.tdiv s2 31 = s2 / 31 := Int.tdiv_eq_ediv_of_nonneg hs1
    have fin : ∀ x : Int, 0 ≤ x → 0 ≤ Int.tmod x n ∧ Int.tmod x n < n := by
      intro x hx
      rw [Int.tmod_eq_emod_of_nonneg hx]
      exact ⟨Int.emod_nonneg _ (by omega), Int.emod_lt_of_pos _ (by omega)⟩
    by_cases ha : a < (c.length : Int)
    · have hb := rd_byte hc a
      have ew : wrap64 (wrap64 (Int.tdiv s2 31) + wrap64 (rd c a)) = s2 / 31 + rd c a := by
        rw [hd, w64 (x := s2 / 31) (by omega) (by omega), w64 (x := rd c a) (by omega) (by omega), w64 (by omega) (by omega)]
      have ea : wrap64 (a + 1) = a + 1 := w64 (by omega) (by omega)
      have ea2 : wrap64 (a + 1 - 1) = a := by rw [w64 (by omega) (by omega)]; omega
      rw [if_pos ha, if_pos h1, ew, ea, ea2]
      have hf := fin (s2 / 31 + rd c a) (by omega)
      by_cases h256 : n ≤ 256
      · rw [if_pos h256]
        by_cases hm : Int.tmod (a + 1) 2 = 0
        · have hw : wrap64 (rd c a) = rd c a := w64 (by omega) (by omega)
          have hf2 := fin (rd c a) hb.1
          rw [if_pos hm, if_pos h1, if_pos ha, if_neg (by omega), hw]
          exact ⟨_, _, _, rfl, ⟨by omega, by omega, hs1, hs2⟩, hf2.1, fun h => by omega, fun _ => hf2.2⟩
        · rw [if_neg hm, if_neg (by omega)]
          exact ⟨_, _, _, rfl, ⟨by omega, by omega, hs1, hs2⟩, hf.1, fun h => by omega, fun _ => hf.2⟩
      · rw [if_neg h256, if_neg (by omega)]
        exact ⟨_, _, _, rfl, ⟨by omega, by omega, hs1, hs2⟩, hf.1, fun h => by omega, fun _ => hf.2⟩
    · have ew : wrap64 (Int.tdiv s2 31) = s2 / 31 := by rw [hd, w64 (by omega) (by omega)]
      have hf := fin (s2 / 31) (by omega)
      rw [if_neg ha, if_neg (by omega), ew]
      exact ⟨_, _, _, rfl, ⟨h1, h2, hs1, hs2⟩, hf.1, fun h => by omega, fun _ => hf.2⟩
theorem from_l0 {c : List Int} (hc : codeOk c) (st : List Int) (at0 : Int) : ∀ (d i : Nat), i + d = c.length → ∀ s : Int, 0 ≤ s → s < 2147483647 → ∃ s', spec_l01From.l0L c (i : Int) st at0 s = some (st, at0, s') ∧ 0 ≤ s' ∧ s' < 2147483647 := by
  have hcl := hc.2
  intro d
  induction d with
  | zero => intro i hi s h0 h1; exact ⟨s, by rw [spec_l01From.l0L_eq, if_neg (by omega)], h0, h1⟩
  | succ d ih =>
    intro i hi s h0 h1
    rw [spec_l01From.l0L_eq, if_pos (by omega)]
    by_cases h : (i : Int) < 64
    · have hb := rd_byte hc (i : Int)
      have e : Int.tmod (wrap64 ((wrap64 (s * 83)) + (wrap64 (rd c (i : Int))))) 2147483647 = (s * 83 + rd c (i : Int)) % 2147483647 := by
        rw [w64 (x := s * 83) (by omega) (by omega), w64 (x := rd c (i : Int)) (by omega) (by omega), w64 (by omega) (by omega), Int.tmod_eq_emod_of_nonneg (by omega)]
      rw [if_pos h, if_pos (by omega), e, w64 (by omega) (by omega), show ((i : Int) + 1) = ((i + 1 : Nat) : Int) by omega]
      exact ih (i + 1) (by omega) _ (Int.emod_nonneg _ (by omega)) (Int.emod_lt_of_pos _ (by omega))
    · rw [if_neg h]; exact ⟨s, rfl, h0, h1⟩
theorem from_ok {c : List Int} (hc : codeOk c) : ∃ s, spec_l01From.fL c = some (c, 0, s) ∧ drawI c 0 s := by
  obtain ⟨s, h1, h2, h3⟩ := from_l0 hc c 0 c.length 0 (by omega) 61043 (by omega) (by omega)
  exact ⟨s, by rw [spec_l01From.fL_eq]; exact h1, by omega, by omega, h2, h3⟩
theorem pick_ok {c : List Int} (hc : codeOk c) {a s : Int} (hI : drawI c a s) (l : List Int) (hl : 1 ≤ l.length) (hl2 : l.length ≤ 1000) : ∃ r a' s', spec_l01Pick.f c a s l = some (r, a', s') ∧ drawI c a' s' ∧ r ∈ l := by
  obtain ⟨r, a', s', h1, h2, h3, h4, h5⟩ := next_ok hc hI (l.length : Int)
  have hr : r < (l.length : Int) := by
    by_cases h : (l.length : Int) ≤ 1
    · rw [h4 h]; omega
    · exact h5 (by omega)
  unfold spec_l01Pick.f
  rw [h1]
  simp only [Option.bind_some]
  rw [if_pos h3, if_pos hr, rd_lt h3 hr]
  exact ⟨_, _, _, rfl, h2, List.getElem_mem _⟩
theorem good_l0 {c : List Int} (hc : codeOk c) (p w h : Int) (hwh : 0 ≤ w * h) (hwh2 : w * h ≤ 1000) : ∀ (d i : Nat), (i : Int) + d = w * h → ∀ (a s : Int) (l : List Bool), drawI c a s → l.length = i →
    ∃ l' a' s', spec_l31Good.l0L p (i : Int) c a s w h l = some (w, h, l', a', s') ∧ drawI c a' s' ∧ (l'.length : Int) = w * h := by
  intro d
  induction d with
  | zero =>
    intro i hi a s l hI hl
    rw [spec_l31Good.l0L_eq, w64 (by omega) (by omega), if_neg (by omega)]
    exact ⟨l, a, s, rfl, hI, by omega⟩
  | succ d ih =>
    intro i hi a s l hI hl
    obtain ⟨r, a', s', h1, h2, _⟩ := next_ok hc hI p
    rw [spec_l31Good.l0L_eq, w64 (x := w * h) (by omega) (by omega), if_pos (by omega), h1]
    simp only [Option.bind_some]
    rw [if_pos (by omega), w64 (by omega) (by omega), show ((i : Int) + 1) = ((i + 1 : Nat) : Int) by omega]
    exact ih (i + 1) (by omega) _ _ _ h2 (by simp; omega)
theorem good_ok {c : List Int} (hc : codeOk c) {a s : Int} (hI : drawI c a s) : ∃ (w h : Int) (l : List Bool) (a' s' : Int), spec_l31Good.fL c a s = some (w, h, l, a', s') ∧ drawI c a' s' ∧ gridOk w h l := by
  obtain ⟨r1, a1, s1, e1, i1, p1, _, q1⟩ := next_ok hc hI 6
  obtain ⟨r2, a2, s2, e2, i2, p2, _, q2⟩ := next_ok hc i1 6
  obtain ⟨r3, a3, s3, e3, i3, _⟩ := pick_ok hc i2 [2, 3, 1, 5] (by simp) (by simp)
  have q1' := q1 (by omega)
  have q2' := q2 (by omega)
  rw [spec_l31Good.fL_eq, e1]
  simp only [Option.bind_some]
  rw [e2]
  simp only [Option.bind_some]
  rw [e3]
  simp only [Option.bind_some]
  rw [w64 (x := 1 + r1) (by omega) (by omega), w64 (x := 1 + r2) (by omega) (by omega)]
  have hm := mul12 (w := 1 + r1) (h := 1 + r2) (by omega) (by omega) (by omega) (by omega)
  obtain ⟨l', a', s', k1, k2, k3⟩ := good_l0 hc r3 (1 + r1) (1 + r2) (by omega) (by omega) ((1 + r1) * (1 + r2)).toNat 0 (by omega) a3 s3 [] i3 rfl
  rw [cast0] at k1
  exact ⟨_, _, _, _, _, k1, k2, by omega, by omega, by omega, by omega, k3⟩
theorem drawGrid_ok {c : List Int} (hc : codeOk c) {a s : Int} (hI : drawI c a s) : ∃ (w h : Int) (l : List Bool) (a' s' : Int), spec_l31Draw.fL c a s = some (w, h, l, a', s') ∧ drawI c a' s' ∧ l.length ≤ 1000 := by
  obtain ⟨r1, a1, s1, e1, i1, p1, _, q1⟩ := next_ok hc hI 24
  rw [spec_l31Draw.fL_eq, e1]
  simp only [Option.bind_some]
  by_cases h0 : r1 = 0
  · obtain ⟨r2, a2, s2, e2, i2, _⟩ := pick_ok hc i1 [0, 1, 12, 13] (by simp) (by simp)
    obtain ⟨r3, a3, s3, e3, i3, m3⟩ := pick_ok hc i2 [0, 1, 12, 13] (by simp) (by simp)
    have hr3 : 0 ≤ r3 ∧ r3 ≤ 13 := by
      simp only [List.mem_cons, List.not_mem_nil, or_false] at m3; omega
    rw [if_pos h0, e2]
    simp only [Option.bind_some]
    rw [e3]
    simp only [Option.bind_some]
    rw [if_pos hr3.1, if_pos (by omega)]
    exact ⟨_, _, _, _, _, rfl, i3, by simp; omega⟩
  · rw [if_neg h0]
    obtain ⟨w, h, l, a', s', k1, k2, k3⟩ := good_ok hc i1
    have hm := mul12 k3.1 k3.2.1 k3.2.2.1 k3.2.2.2.1
    have hl := k3.2.2.2.2
    by_cases h1 : r1 = 1
    · rw [if_pos h1, k1]
      simp only [Option.bind_some]
      rw [if_pos (by omega)]
      exact ⟨_, _, _, _, _, rfl, k2, by simp; omega⟩
    · rw [if_neg h1, k1]
      simp only [Option.bind_some]
      exact ⟨_, _, _, _, _, rfl, k2, by omega⟩
theorem damage_ok {c : List Int} (hc : codeOk c) {a s : Int} (hI : drawI c a s) (t : ByteArray) (ht : t.size ≤ 900000) : ∃ t' a' s', spec_l01Damage.f c a s t = some (t', a', s') ∧ drawI c a' s' ∧ t'.size ≤ t.size + 1 := by
  obtain ⟨k, a1, s1, e1, i1, p1, q1, r1⟩ := next_ok hc hI ((t.size : Int) + 1)
  have hk : k ≤ (t.size : Int) := by
    by_cases h : (t.size : Int) + 1 ≤ 1
    · rw [q1 h]; omega
    · have := r1 (by omega); omega
  obtain ⟨v, a2, s2, e2, i2, p2, _, r2⟩ := next_ok hc i1 8
  obtain ⟨u, a3, s3, e3, i3, p3, _, r3⟩ := next_ok hc i2 8
  have r3' := r3 (by omega)
  have hz1 := size_extract_le' t 0 k.toNat
  have hz : (t.extract 0 k.toNat).size = k.toNat := by rw [← bl_length, bl_extract]; simp [bl_length]; omega
  have hz2 : (t.extract k.toNat t.size).size = t.size - k.toNat := by rw [← bl_length, bl_extract]; simp [bl_length]
  unfold spec_l01Damage.f
  rw [w64 (by omega) (by omega), e1]
  simp only [Option.bind_some]
  rw [e2]
  simp only [Option.bind_some]
  by_cases h0 : v = 0
  · rw [if_pos h0, if_pos p1, if_pos hk]
    exact ⟨_, _, _, rfl, i2, by omega⟩
  · rw [if_neg h0]
    by_cases h1 : v = 1
    · rw [if_pos h1, if_pos p1, if_pos hk, e3]
      simp only [Option.bind_some]
      rw [if_pos p3, if_pos (by simp; omega)]
      have hw : (rdOf ByteArray.empty [(⟨#[48]⟩ : ByteArray), (⟨#[35]⟩ : ByteArray), (⟨#[46]⟩ : ByteArray), (⟨#[47]⟩ : ByteArray), (⟨#[32]⟩ : ByteArray), (⟨#[97]⟩ : ByteArray), (⟨#[45]⟩ : ByteArray), (⟨#[10]⟩ : ByteArray)] u).size = 1 := by
        obtain ⟨n, rfl⟩ : ∃ n : Nat, u = n := ⟨u.toNat, by omega⟩
        rw [rdOf_nat (by simp; omega)]
        have : ∀ x ∈ [(⟨#[48]⟩ : ByteArray), (⟨#[35]⟩ : ByteArray), (⟨#[46]⟩ : ByteArray), (⟨#[47]⟩ : ByteArray), (⟨#[32]⟩ : ByteArray), (⟨#[97]⟩ : ByteArray), (⟨#[45]⟩ : ByteArray), (⟨#[10]⟩ : ByteArray)], x.size = 1 := by
          intro x hx
          simp only [List.mem_cons, List.not_mem_nil, or_false] at hx
          rcases hx with rfl | rfl | rfl | rfl | rfl | rfl | rfl | rfl <;> rfl
        exact this _ (List.getElem_mem _)
      rw [if_pos (by rw [hw]; omega), if_pos (by rw [ByteArray.size_append, hw, hz2]; omega)]
      exact ⟨_, _, _, rfl, i3, by rw [ByteArray.size_append, ByteArray.size_append, hw, hz2]; omega⟩
    · rw [if_neg h1]
      by_cases h2 : v = 2
      · rw [if_pos h2]
        by_cases h3 : k < (t.size : Int)
        · have hz3 := size_extract_le' t (k + 1).toNat t.size
          have hz4 : (t.extract (k + 1).toNat t.size).size = t.size - (k + 1).toNat := by rw [← bl_length, bl_extract]; simp [bl_length]
          rw [if_pos h3, if_pos p1, if_pos hk, w64 (by omega) (by omega), if_pos (by omega), if_pos (by omega), if_pos (by omega)]
          exact ⟨_, _, _, rfl, i2, by rw [ByteArray.size_append]; omega⟩
        · rw [if_neg h3]; exact ⟨_, _, _, rfl, i2, by omega⟩
      · rw [if_neg h2]; exact ⟨_, _, _, rfl, i2, by omega⟩
theorem likeBools_f (l : List Bool) (hl : l.length ≤ 1000000) : laws_likeBools.fL l l = some true := by
  rw [laws_likeBools.fL_eq, if_pos rfl]
  refine up_ind (P := fun i => laws_likeBools.l0L l l i = some true) (l.length : Int) ?_ ?_ 0 (by omega) (by omega)
  · rw [laws_likeBools.l0L_eq, if_neg (by omega)]
  · intro i h0 hi ih
    rw [laws_likeBools.l0L_eq, if_pos hi, if_pos h0, if_pos hi, if_neg (by simp), w64 (by omega) (by omega)]
    exact ih
theorem likeGrid_f (w h : Int) (l : List Bool) (hl : l.length ≤ 1000000) : laws_likeGrid.fL w h l w h l = some true := by
  rw [laws_likeGrid.fL_eq, if_pos rfl, if_pos rfl, likeBools_f l hl]; simp
theorem readG_ok {s : ByteArray} (hs : s.size ≤ 1000000) (h : (readG s).2.2.2 = 0) : gridOk (readG s).1 (readG s).2.1 (readG s).2.2.1 ∧ gridTxt (readG s).1 (readG s).2.1 (readG s).2.2.1 = s := by
  have h1 := spec_ReadGrid_mid s hs
  rw [spec_ReadGrid_f s hs] at h1
  have h2 := Option.some.inj h1
  by_cases hc : gridOk (gw s) (rows47 s).length ((rows47 s).flatten.map (· == 35)) ∧ gridTxt (gw s) (rows47 s).length ((rows47 s).flatten.map (· == 35)) = s
  · rw [if_pos hc] at h2
    rw [h2]; exact hc
  · rw [if_neg hc] at h2
    rw [h2] at h; simp at h
theorem readG_len (s : ByteArray) : (readG s).2.2.1.length ≤ 1000 := by
  unfold readG readOk
  split
  · rename_i h
    simp only [Bool.and_eq_true, decide_eq_true_eq] at h
    obtain ⟨⟨h1, h2, h3⟩, hok⟩ := h
    have hlen : ∀ r ∈ rows47 s, r.length = gw s := fun r hr => by
      unfold rowsOk at hok
      rw [List.all_eq_true] at hok
      have := hok r hr; simp at this; exact this.1
    have := flat_len _ _ hlen
    have h4 : gw s * (rows47 s).length ≤ 12 * 12 := Nat.mul_le_mul h2 h3
    simp only [List.length_map]; omega
  · simp
theorem chB_back (b : Bool) : (chB b == 35) = b := by cases b <;> rfl
theorem readG_txt {w h : Int} {l : List Bool} (hg : gridOk w h l) : readG (gridTxt w h l) = (w, h, l, 0) := by
  obtain ⟨w', h', rfl, rfl, h1, h2, h3, h4, h5⟩ := nat_of_gridOk hg
  have hok := rowsB_ok w' h' l h5
  have hr : rows47 (gridTxt w' h' l) = rowsB w' h' l := by
    unfold rows47 gridTxt
    rw [bl_ob, Int.toNat_natCast, Int.toNat_natCast]
    refine splitL_joinL 47 _ ?_ ?_
    · intro e
      have := rowsB_len w' h' l
      rw [e, List.length_nil] at this; omega
    · intro x hx hc
      unfold rowsOk at hok
      rw [List.all_eq_true] at hok
      have := hok x hx
      rw [Bool.and_eq_true, List.all_eq_true] at this
      have h47 := this.2 _ hc
      simp [isCh] at h47
  have hlen : ∀ r ∈ rowsB w' h' l, r.length = w' := fun r hr => by
    unfold rowsOk at hok
    rw [List.all_eq_true] at hok
    have := hok r hr; simp at this; exact this.1
  have hgw : gw (gridTxt w' h' l) = w' := by
    unfold gw; rw [hr]
    cases e : rowsB w' h' l with
    | nil => have := rowsB_len w' h' l; rw [e, List.length_nil] at this; omega
    | cons r rs => simp only [List.head?_cons, Option.getD_some]; exact hlen r (by rw [e]; simp)
  unfold readG readOk
  rw [hgw, hr, rowsB_len, hok, show decide (1 ≤ w' ∧ w' ≤ 12 ∧ h' ≤ 12) = true from decide_eq_true ⟨h1, h2, h4⟩, Bool.and_self, if_pos rfl]
  have hfl : (rowsB w' h' l).flatten.map (· == 35) = l := by
    apply List.ext_getElem
    · rw [List.length_map, flat_len _ _ hlen, rowsB_len, h5]
    · intro j hj hj2
      rw [List.getElem_map]
      have hw0 : 0 < w' := by omega
      have hjy : j / w' < h' := by
        rw [Nat.div_lt_iff_lt_mul hw0, Nat.mul_comm]; omega
      have hrow := flat_row (rowsB w' h' l) w' hlen (j / w') (by rw [rowsB_len]; exact hjy)
      have hm : j % w' < w' := Nat.mod_lt _ hw0
      have hj3 : j / w' * w' + j % w' = j := by rw [Nat.mul_comm]; exact Nat.div_add_mod j w'
      have hjf : j < (rowsB w' h' l).flatten.length := by rw [flat_len _ _ hlen, rowsB_len]; omega
      have h1 : ((rowsB w' h' l).flatten)[j]'hjf = ((rowsB w' h' l)[j / w']'(by rw [rowsB_len]; exact hjy)).getD (j % w') 0 := by
        rw [← hrow, List.getD_eq_getElem?_getD, List.getElem?_take_of_lt hm, List.getElem?_drop, hj3, List.getElem?_eq_getElem hjf]; rfl
      rw [h1]
      simp only [rowsB, List.getElem_map, List.getElem_range, rowB]
      rw [List.getD_eq_getElem?_getD, List.getElem?_map, List.getElem?_take_of_lt hm, List.getElem?_drop, hj3, List.getElem?_eq_getElem hj2]
      simp only [Option.map_some, Option.getD_some]
      exact chB_back _
  rw [hfl]
theorem drawRead_ok {c : List Int} (hc : codeOk c) : ∃ t, spec_DrawReadGrid.fL c = some t ∧ t.size ≤ 2000 := by
  obtain ⟨s, e1, i1⟩ := from_ok hc
  obtain ⟨w, h, l, a', s', k1, k2, k3⟩ := good_ok hc i1
  obtain ⟨r4, a4, s4, e4, i4, p4, _, q4⟩ := next_ok hc k2 4
  obtain ⟨r6, a6, s6, e6, i6, p6, _, q6⟩ := next_ok hc i4 6
  have q6' := q6 (by omega)
  obtain ⟨w', h', rfl, rfl, g1, g2, g3, g4, g5⟩ := nat_of_gridOk k3
  have hz := gridText_len w' h' l g2 g4
  have hz2 := ob_size (joinL [47] (rowsB w' h' l))
  obtain ⟨td, ad, sd, ed, _, zd⟩ := damage_ok hc i4 (ob (joinL [47] (rowsB w' h' l))) (by omega)
  rw [spec_DrawReadGrid.fL_eq, e1]
  simp only [Option.bind_some]
  rw [k1]
  simp only [Option.bind_some]
  rw [spec_l31Text_f w' h' l g2 g4 g5]
  simp only [Option.bind_some]
  rw [e4]
  simp only [Option.bind_some]
  by_cases h0 : r4 = 0
  · rw [if_pos h0, ed]
    simp only [Option.bind_some]
    exact ⟨_, rfl, by omega⟩
  · rw [if_neg h0]
    by_cases h1 : r4 = 1
    · rw [if_pos h1, e6]
      simp only [Option.bind_some]
      rw [if_pos p6, if_pos (by simp; omega)]
      refine ⟨_, rfl, ?_⟩
      obtain ⟨n, rfl⟩ : ∃ n : Nat, r6 = n := ⟨r6.toNat, by omega⟩
      rw [rdOf_nat (by simp; omega)]
      have : ∀ x ∈ [(⟨#[]⟩ : ByteArray), (⟨#[46, 46, 35, 47, 46, 46]⟩ : ByteArray), (⟨#[35]⟩ : ByteArray), (⟨#[46, 47, 35, 47, 46]⟩ : ByteArray), (⟨#[35, 35, 35, 35, 35, 35, 35, 35, 35, 35, 35, 35]⟩ : ByteArray), (⟨#[35, 35, 35, 35, 35, 35, 35, 35, 35, 35, 35, 35, 35]⟩ : ByteArray)], x.size ≤ 2000 := by
        intro x hx
        simp only [List.mem_cons, List.not_mem_nil, or_false] at hx
        rcases hx with rfl | rfl | rfl | rfl | rfl | rfl <;> decide
      exact this _ (List.getElem_mem _)
    · rw [if_neg h1]; exact ⟨_, rfl, by omega⟩
theorem FnGridTexts_fL (c : List Int) (h0 : c.length ≤ maxLen) (h1 : c.length * 1 ≤ 140737488351232) (h2 : ∀ x ∈ c, (Lit.int .u8 x).wf = true) : laws_FnGridTexts.fL c = some true := by
  rw [laws_FnGridTexts.fL_eq]
  unfold laws_big.f
  simp only [Option.bind_some, decide_eq_true_eq]
  by_cases hb : (c.length : Int) > 4096
  · rw [if_pos hb]
  · rw [if_neg hb]
    have hc : codeOk c := ⟨fun x hx => by
      have := h2 x hx
      simp only [Lit.wf, Bool.and_eq_true, decide_eq_true_eq] at this
      have e1 : IntKind.u8.min = 0 := by decide
      have e2 : IntKind.u8.max = 255 := by decide
      omega, by omega⟩
    obtain ⟨s, e1, i1⟩ := from_ok hc
    obtain ⟨w, h, l, a', s', k1, k2, k3⟩ := drawGrid_ok hc i1
    have hd : spec_DrawGridText.fL c = some (w, h, l) := by
      rw [spec_DrawGridText.fL_eq, e1]
      simp only [Option.bind_some]
      rw [k1]; rfl
    obtain ⟨t, ht, hts⟩ := drawRead_ok hc
    have hl := readG_len t
    rw [hd]
    simp only [Option.bind_some]
    rw [impl_GridText_f, spec_GridText_f]
    simp only [Option.bind_some]
    rw [ht]
    simp only [Option.bind_some]
    rw [impl_ReadGrid_f t (by omega), spec_ReadGrid_f t (by omega)]
    simp only [Option.bind_some, if_true]
    rw [likeGrid_f _ _ _ (by omega)]
    simp only [Option.bind_some, if_true]
    rw [impl_IsGrid_f]
    simp only [Option.bind_some]
    have hx : (decide (gridOk w h l) != ((if gridOk w h l then (gridTxt w h l, (0 : Int)) else (⟨#[]⟩, 1)).2 == 0)) = false := by
      by_cases hg : gridOk w h l
      · rw [if_pos hg, decide_eq_true hg]; rfl
      · rw [if_neg hg, decide_eq_false hg]; rfl
    rw [hx, laws_FnGridTexts.j0L_eq, if_neg (by simp)]
    have hj1 : laws_FnGridTexts.j1L (if gridOk w h l then (gridTxt w h l, (0 : Int)) else (⟨#[]⟩, 1)).1 (if gridOk w h l then (gridTxt w h l, (0 : Int)) else (⟨#[]⟩, 1)).2 w h l = some true := by
      rw [laws_FnGridTexts.j1L_eq]
      by_cases hg : gridOk w h l
      · have hz : (gridTxt w h l).size ≤ 1000000 := by
          obtain ⟨w', h', rfl, rfl, g1, g2, g3, g4, g5⟩ := nat_of_gridOk hg
          have := gridText_len w' h' l g2 g4
          unfold gridTxt; rw [ob_size, Int.toNat_natCast, Int.toNat_natCast]; omega
        rw [if_pos hg]
        simp only [if_true]
        rw [impl_ReadGrid_f _ hz, readG_txt hg]
        simp only [Option.bind_some, if_true]
        rw [likeGrid_f _ _ _ (by omega)]
        simp
      · rw [if_neg hg]
        simp only
        rw [if_neg (by omega)]
    by_cases h10 : (readG t).2.2.2 = 0
    · obtain ⟨hg, hgt⟩ := readG_ok (by omega) h10
      rw [if_pos h10, impl_GridText_f, if_pos hg]
      simp only [Option.bind_some, if_true]
      rw [if_pos (by rw [hgt]), hj1]
    · rw [if_neg h10, hj1]
theorem FnGridTexts : laws_FnGridTexts.Pure := by
  intro l0 h0 h1 h2
  exact of_Lim (FnGridTexts_fL l0 h0 h1 h2)
end Go.Proofs.Ytppfdipgaifhiab.Pure
