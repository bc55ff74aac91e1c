/- Part 2 of what the law FnExactFewestPermits stands on: an evaluator of the model's code, proved sound; the functions as plain texts; their contracts. -/
import Derived.Test.YtbhiijhaiobiiaaEvExactFewestPermits1
namespace Go.Ev.Try
open Go.Proofs Go.Pl
set_option linter.unusedVariables false
noncomputable section
structure HX where
  Is : Value → Bool
  n : Int
  pt : Int → Value
  Ld : Value → Option PH.I
  Fp : PH.I → Bool → Option PD.I
noncomputable def bodyFH (E : Env) {c : Con} (H : Hooks (Tup ((c.rs ++ iosG c.gv c.ps).map (·.2)))) (keep : Nat → List Nat) (n : Nat) (fn : Func) (x : Tup (c.ps.map (·.2))) : Option (Tup ((c.rs ++ iosG c.gv c.ps).map (·.2))) :=
  execH E H keep n (codeOf fn) (kEnd E fn c x) (initSt (kds' c.ps (dats _ x)) (fn.ntmps - c.ps.length))
def TX.g9 (X : HX) (L9 : Value → Int → (List (Int × Int × Int × Int × (List Int × List Int) × Int)) → Option (List (Int × Int × Int × Int × (List Int × List Int) × Int) × List (Int × Int × Int × Int × (List Int × List Int) × Int))) (a0 : Value) (i7 : Int) (out5 : List (Int × Int × Int × Int × (List Int × List Int) × Int)) : Option (List (Int × Int × Int × Int × (List Int × List Int) × Int) × List (Int × Int × Int × Int × (List Int × List Int) × Int)) :=
  if (decide ((i7 : Int) < (out5.length : Int))) = true then
    (laws_fillerPermit.f).bind fun r4 =>
    if (0 : Int) ≤ i7 ∧ (i7 : Int) < out5.length then
      L9 a0 (IntKind.i64.wrap (i7 + 1)) (out5.set (i7 : Int).toNat (r4.1, (r4.2.1, (r4.2.2.1, (r4.2.2.2.1, ((r4.2.2.2.2.1.1, r4.2.2.2.2.1.2), r4.2.2.2.2.2))))))
    else
      none
  else if X.Is a0 = true then
    if (0 : Int) ≤ X.n ∧ (X.n : Int) ≤ out5.length then
      some (out5.take (X.n : Int).toNat, out5.drop (X.n : Int).toNat)
    else
      none
  else
    none
def TX.l9 (X : HX) (n : Nat) : Nat → Value → Int → (List (Int × Int × Int × Int × (List Int × List Int) × Int)) → Option (List (Int × Int × Int × Int × (List Int × List Int) × Int) × List (Int × Int × Int × Int × (List Int × List Int) × Int))
  | 0 => fun _ _ _ => none
  | k + 1 => TX.g9 X (TX.l9 X n k)
def TX.g5 (X : HX) (I9 : Value → Int → (List (Int × Int × Int × Int × (List Int × List Int) × Int)) → Option (List (Int × Int × Int × Int × (List Int × List Int) × Int) × List (Int × Int × Int × Int × (List Int × List Int) × Int))) (L5 : Value → Bool → Int → (List (Int × Int × Int × Int × (List Int × List Int) × Int)) → Option (List (Int × Int × Int × Int × (List Int × List Int) × Int) × List (Int × Int × Int × Int × (List Int × List Int) × Int))) (a0 : Value) (bare1 : Bool) (i6 : Int) (out5 : List (Int × Int × Int × Int × (List Int × List Int) × Int)) : Option (List (Int × Int × Int × Int × (List Int × List Int) × Int) × List (Int × Int × Int × Int × (List Int × List Int) × Int)) :=
  if X.Is a0 = true then
    if (decide ((i6 : Int) < X.n)) = true then
      if X.Is a0 = true then
        if (0 : Int) ≤ i6 ∧ (i6 : Int) < X.n then
          (X.Ld (X.pt i6)).bind fun y =>
          (X.Fp y bare1).bind fun r3 =>
          if (0 : Int) ≤ i6 ∧ (i6 : Int) < out5.length then
            L5 a0 bare1 (IntKind.i64.wrap (i6 + 1)) (out5.set (i6 : Int).toNat (r3.1, (r3.2.1, (r3.2.2.1, (r3.2.2.2.1, ((r3.2.2.2.2.1.1, r3.2.2.2.2.1.2), r3.2.2.2.2.2))))))
          else
            none
        else
          none
      else
        none
    else if X.Is a0 = true then
      I9 a0 X.n out5
    else
      none
  else
    none
def TX.l5 (X : HX) (n : Nat) : Nat → Value → Bool → Int → (List (Int × Int × Int × Int × (List Int × List Int) × Int)) → Option (List (Int × Int × Int × Int × (List Int × List Int) × Int) × List (Int × Int × Int × Int × (List Int × List Int) × Int))
  | 0 => fun _ _ _ _ => none
  | k + 1 => TX.g5 X (TX.l9 X n n) (TX.l5 X n k)
def TX.top (X : HX) (I5 : Value → Bool → Int → (List (Int × Int × Int × Int × (List Int × List Int) × Int)) → Option (List (Int × Int × Int × Int × (List Int × List Int) × Int) × List (Int × Int × Int × Int × (List Int × List Int) × Int))) (a0 : Value) (bare1 : Bool) : Option (List (Int × Int × Int × Int × (List Int × List Int) × Int) × List (Int × Int × Int × Int × (List Int × List Int) × Int)) :=
  if bare1 = true then
    if X.Is a0 = true then
      if ((X.n : Int) == 0) = true then
        some ([], [])
      else if X.Is a0 = true then
        if X.Is a0 = true then
          (laws_roomBehind.f X.n).bind fun r1 =>
          @ite _ ((0 : Int) ≤ (IntKind.i64.wrap (X.n + r1)) ∧ ((IntKind.i64.wrap (X.n + r1)) : Int) < room 64 ∧ ((IntKind.i64.wrap (X.n + r1)) : Int) = (IntKind.i64.wrap (X.n + r1))) (Classical.propDecidable _) (
            I5 a0 bare1 0 (List.replicate ((IntKind.i64.wrap (X.n + r1)) : Int).toNat (0, (0, (0, (0, (([], []), 0))))))
          ) (
            none
          )
        else none
      else none
    else none
  else if X.Is a0 = true then
    if X.Is a0 = true then
      (laws_roomBehind.f X.n).bind fun r1 =>
      @ite _ ((0 : Int) ≤ (IntKind.i64.wrap (X.n + r1)) ∧ ((IntKind.i64.wrap (X.n + r1)) : Int) < room 64 ∧ ((IntKind.i64.wrap (X.n + r1)) : Int) = (IntKind.i64.wrap (X.n + r1))) (Classical.propDecidable _) (
        I5 a0 bare1 0 (List.replicate ((IntKind.i64.wrap (X.n + r1)) : Int).toNat (0, (0, (0, (0, (([], []), 0))))))
      ) (
        none
      )
    else none
  else none
def TX.fn (X : HX) (n : Nat) (a0 : Value) (bare1 : Bool) : Option (List (Int × Int × Int × Int × (List Int × List Int) × Int) × List (Int × Int × Int × Int × (List Int × List Int) × Int)) := TX.top X (TX.l5 X n n) a0 bare1
def TX.f (X : HX) (a0 : Value) (bare1 : Bool) : Option (List (Int × Int × Int × Int × (List Int × List Int) × Int) × List (Int × Int × Int × Int × (List Int × List Int) × Int)) := TX.fn X NN a0 bare1
def TX.st9 (a0 : Value) (i7 : Int) (out5 : List (Int × Int × Int × Int × (List Int × List Int) × Int)) : St := ⟨[.dat .hdr a0, .gone, .gone, .gone, .gone, .ref 0, .gone, .dat (.int .i64) i7, .gone, .gone, .gone, .gone, .gone, .gone, .gone, .gone, .gone, .gone, .gone, .gone, .gone, .gone, .gone, .gone, .gone, .gone, .gone, .gone, .gone, .gone, .gone, .gone, .gone, .gone, .gone, .gone, .gone, .gone, .gone, .gone, .gone, .gone, .gone, .gone, .gone, .gone, .gone, .gone, .gone, .gone, .gone, .gone], [.row 42 (.pair (.int .i64) (.pair (.int .i64) (.pair (.int .i64) (.pair (.int .i64) (.pair (.slb 2 (.int .i64)) (.int .i64)))))) out5 none]⟩
def TX.st5 (a0 : Value) (bare1 : Bool) (i6 : Int) (out5 : List (Int × Int × Int × Int × (List Int × List Int) × Int)) : St := ⟨[.dat .hdr a0, .dat .bool bare1, .gone, .gone, .gone, .ref 0, .dat (.int .i64) i6, .gone, .gone, .gone, .gone, .gone, .gone, .gone, .gone, .gone, .gone, .gone, .gone, .gone, .gone, .gone, .gone, .gone, .gone, .gone, .gone, .gone, .gone, .gone, .gone, .gone, .gone, .gone, .gone, .gone, .gone, .gone, .gone, .gone, .gone, .gone, .gone, .gone, .gone, .gone, .gone, .gone, .gone, .gone, .gone, .gone], [.row 42 (.pair (.int .i64) (.pair (.int .i64) (.pair (.int .i64) (.pair (.int .i64) (.pair (.slb 2 (.int .i64)) (.int .i64)))))) out5 none]⟩
def TX.con (X : HX) : Con := { ps := [(.val, .hdr), (.val, .bool)], rs := [(.own, (.slb 42 (.pair (.int .i64) (.pair (.int .i64) (.pair (.int .i64) (.pair (.int .i64) (.pair (.slb 2 (.int .i64)) (.int .i64))))))))], F := fun x => TX.f X x.1 x.2 }
def TX.cs : List (FuncId × Con) := [(17, laws_roomBehind.con), (19, laws_fillerPermit.con)]
def TX.E : Env := envOf tabD TX.cs 0 true
def TX.keep (i : Nat) : List Nat := if i = 9 then [0, 5, 7] else if i = 5 then [0, 1, 5, 6] else []
def TX.at9 (X : HX) (n : Nat) (x : Value × Bool) : Code × (Ex → St → Option ((List (Int × Int × Int × Int × (List Int × List Int) × Int) × List (Int × Int × Int × Int × (List Int × List Int) × Int)))) := ctxH TX.E (HK X.Is X.n X.pt X.Ld X.Fp) TX.keep n [.snd, .snd, .snd, .snd, .fst, .snd, .blk] (codeOf Try.f6) (kEnd TX.E Try.f6 (TX.con X) x)
def TX.LN9 (X : HX) (n : Nat) (x : Value × Bool) : Nat → St → Option ((List (Int × Int × Int × Int × (List Int × List Int) × Int) × List (Int × Int × Int × Int × (List Int × List Int) × Int))) := loopN (execH TX.E (HK X.Is X.n X.pt X.Ld X.Fp) TX.keep n (bodyOf (TX.at9 X n x).1)) (St.norm 0 (TX.keep 9)) (TX.at9 X n x).2
def TX.at5 (X : HX) (n : Nat) (x : Value × Bool) : Code × (Ex → St → Option ((List (Int × Int × Int × Int × (List Int × List Int) × Int) × List (Int × Int × Int × Int × (List Int × List Int) × Int)))) := ctxH TX.E (HK X.Is X.n X.pt X.Ld X.Fp) TX.keep n [.snd, .snd, .snd, .fst, .snd, .blk] (codeOf Try.f6) (kEnd TX.E Try.f6 (TX.con X) x)
def TX.LN5 (X : HX) (n : Nat) (x : Value × Bool) : Nat → St → Option ((List (Int × Int × Int × Int × (List Int × List Int) × Int) × List (Int × Int × Int × Int × (List Int × List Int) × Int))) := loopN (execH TX.E (HK X.Is X.n X.pt X.Ld X.Fp) TX.keep n (bodyOf (TX.at5 X n x).1)) (St.norm 0 (TX.keep 5)) (TX.at5 X n x).2
set_option maxRecDepth 100000 in
theorem TX.lem9 (X : HX) (n : Nat) (x : Value × Bool) : ∀ (k : Nat) (a0 : Value) (i7 : Int) (out5 : List (Int × Int × Int × Int × (List Int × List Int) × Int)), TX.LN9 X n x k (TX.st9 a0 i7 out5) = TX.l9 X n k a0 i7 out5 := by
  intro k
  induction k with
  | zero => intro a0 i7 out5; rfl
  | succ k ih =>
    intro a0 i7 out5
    have h : TX.LN9 X n x (k + 1) (TX.st9 a0 i7 out5) = TX.g9 X (fun a0 i7 out5 => TX.LN9 X n x k (TX.st9 a0 i7 out5)) a0 i7 out5 := by kernel_rfl
    rw [h]
    simp only [ih]
    rfl
set_option maxRecDepth 100000 in
theorem TX.lem5 (X : HX) (n : Nat) (x : Value × Bool) : ∀ (k : Nat) (a0 : Value) (bare1 : Bool) (i6 : Int) (out5 : List (Int × Int × Int × Int × (List Int × List Int) × Int)), TX.LN5 X n x k (TX.st5 a0 bare1 i6 out5) = TX.l5 X n k a0 bare1 i6 out5 := by
  intro k
  induction k with
  | zero => intro a0 bare1 i6 out5; rfl
  | succ k ih =>
    intro a0 bare1 i6 out5
    have h : TX.LN5 X n x (k + 1) (TX.st5 a0 bare1 i6 out5) = TX.g5 X (fun a0 i7 out5 => TX.LN9 X n x n (TX.st9 a0 i7 out5)) (fun a0 bare1 i6 out5 => TX.LN5 X n x k (TX.st5 a0 bare1 i6 out5)) a0 bare1 i6 out5 := by kernel_rfl
    rw [h]
    simp only [ih, TX.lem9 X]
    rfl
set_option maxRecDepth 100000 in
theorem TX.body (X : HX) (n : Nat) (x : Value × Bool) : bodyFH (c := TX.con X) TX.E (HK X.Is X.n X.pt X.Ld X.Fp) TX.keep n Try.f6 x = TX.fn X n x.1 x.2 := by
  have h : bodyFH (c := TX.con X) TX.E (HK X.Is X.n X.pt X.Ld X.Fp) TX.keep n Try.f6 x = TX.top X (fun a0 bare1 i6 out5 => TX.LN5 X n x n (TX.st5 a0 bare1 i6 out5)) x.1 x.2 := by kernel_rfl
  rw [h]
  simp only [TX.lem5 X]
  rfl
end
end Go.Ev.Try

namespace Go.Ev.Try
open Go.Proofs Go.Pl
set_option linter.unusedVariables false
set_option linter.unusedSimpArgs false
theorem evs_one {s : St} {l : List Operand} {v : V} (h : evs s l = some [v]) : ∃ x, l = [x] ∧ s.ev x = some v := by
  cases l with
  | nil => simp [evs] at h
  | cons x l =>
    simp only [evs] at h
    split at h
    · rename_i v' l' h1 h2
      cases h
      cases l with
      | nil => exact ⟨x, rfl, h1⟩
      | cons y l => simp only [evs] at h2; split at h2 <;> cases h2
    · cases h
theorem evs_two {s : St} {l : List Operand} {v u : V} (h : evs s l = some [v, u]) : ∃ x y, l = [x, y] ∧ s.ev x = some v ∧ s.ev y = some u := by
  cases l with
  | nil => simp [evs] at h
  | cons x l =>
    simp only [evs] at h
    split at h
    · rename_i v' l' h1 h2
      cases h
      obtain ⟨y, rfl, h3⟩ := evs_one h2
      exact ⟨x, y, rfl, h1, h3⟩
    · cases h
theorem VR_hdr {φ : Nat → Value} {hk : Nat → Option Kd} {w : World} {S : Nat → Prop} {u v : Value} (h : VR φ hk w S (.dat .hdr u) v) : v = u := by
  obtain ⟨cs, ⟨h1, _⟩, h2⟩ := h
  unfold Val at h2
  rw [h1] at h2
  have h3 : u = v := by simpa [isAgg] using h2
  exact h3.symm
theorem mk_hdr {φ : Nat → Value} {hk : Nat → Option Kd} {w : World} {S : Nat → Prop} {u : Value} (h : plain u = true) : VR φ hk w S (.dat .hdr u) u := ⟨[u], ⟨rfl, h⟩, by unfold Val; simp [isAgg]⟩
theorem ph_any {w w' : World} {S S' : Nat → Prop} {y : PH.I} {cs : List Value} (h : Rs w S PH y cs) : Rs w' S' PH y cs := Rs_flat _ _ _ (by decide) h
theorem ph_cells {w w' : World} {S S' : Nat → Prop} {y : PH.I} {cs ds : List Value} (h : Rs w S PH y cs) (k : Rs w' S' PH y ds) : cs = ds := by
  obtain ⟨a0, b0, rfl, rfl, a1, b1, rfl, rfl, a2, b2, rfl, rfl, a3, b3, rfl, rfl, a4, b4, rfl, ⟨rfl, _⟩, rfl⟩ := h
  obtain ⟨c0, d0, rfl, rfl, c1, d1, rfl, rfl, c2, d2, rfl, rfl, c3, d3, rfl, rfl, c4, d4, rfl, ⟨rfl, _⟩, rfl⟩ := k
  rfl
structure HF (X : HX) (base : Nat) (W0 : World) (U0 : Value) (ps : List PT.I) (A : Option Addr) (c : Nat) : Prop where
  u : U0 = .slice A ps.length c
  n : X.n = ps.length
  is : ∀ u, X.Is u = true → u = U0
  pt : ∀ i : Int, 0 ≤ i → i < ps.length → ∃ p, A = some p ∧ p.spot = none ∧ X.pt i = .pointer (some ⟨p.block, p.off + i.toNat * 6, none⟩)
  ld : ∀ p y, X.Ld p = some y → ∃ q cs, p = .pointer (some q) ∧ q.spot = none ∧ q.block < base ∧ Rs W0 (fun _ => True) PH y cs ∧ ∀ j u, cs[j]? = some u → W0.cell? ⟨q.block, q.off + j, none⟩ = some u
  fp : ∀ y b r, X.Fp y b = some r → ∃ x cs, laws_toPermit.f x b = some r ∧ Rs W0 (fun _ => True) PH y cs ∧ Rs W0 (fun b => b < base) PT x cs
section
variable {base : Nat} {W0 : World} {IO Old : Nat → Prop} {φ0 : Nat → Value × Kd} {ρ : Type}
theorem hk_ok {X : HX} {U0 : Value} {ps : List PT.I} {A : Option Addr} {c : Nat} (hX : HF X base W0 U0 ps A c) (hIO : ∀ b, ¬ IO b) : HookOk (ρ := ρ) Try.prog TX.E base W0 IO Old φ0 (HK X.Is X.n X.pt X.Ld X.Fp) := by
  have hE : EnvOk Try.prog (envOf tabD [] 0 true) (fun _ => False) Old := envOk (cs := []) tabokD trivial 0 true _ _
  intro o h hH s K r a w hk hr next Q hn
  obtain ⟨ow, φ, hr⟩ := hr
  unfold HK at hH
  split at hH
  · rename_i cl hop
    split at hH
    · rename_i hc
      split at hH
      · rename_i hat
        cases hH
        simp only at hk
        split at hk
        · rename_i u hevs
          split at hk
          · rename_i his
            obtain ⟨x, hx, hev⟩ := evs_one hevs
            have hu := VR_hdr (ev_sound hr hev)
            have hargs : cl.args = #[x] := by apply Array.ext'; exact hx
            obtain ⟨e, hd⟩ : ∃ e, Try.prog.underlying 22 = some (.slice e) := ⟨36, by kernel_rfl⟩
            obtain ⟨v, h1, h2⟩ := yld_len (φ := φ) (hk := kds s.hp) (S := Fz ow w Old base) (n := ps.length) hop hc hargs hat hd (.inr ⟨e, A, c, rfl, by rw [hu, hX.is u his, hX.u]⟩)
            refine wp_reads h1 (hn _ _ _ _ hk ⟨ow, φ, ?_⟩)
            rw [hX.n]
            exact hr.put h2 _
          · cases hk
        · cases hk
      · cases hH
    · rename_i f hc
      split at hH
      · rename_i hf
        subst hf
        cases hH
        simp only at hk
        split at hk
        · rename_i y b hevs
          obtain ⟨x1, x2, hx, hev1, hev2⟩ := evs_two hevs
          rw [Option.bind_eq_some_iff] at hk
          obtain ⟨res, hF, hk⟩ := hk
          obtain ⟨x, cs, hf, hy, hp⟩ := hX.fp y b res hF
          obtain ⟨cs1, k1, k2⟩ := ev_sound hr hev1
          have hcs : cs1 = cs := ph_cells k1 hy
          subst hcs
          have k3 : a.eval x1 = .agg cs1.toArray := by unfold Val at k2; simpa [isAgg] using k2
          have k4 := VR_bool (ev_sound hr hev2)
          refine call_raw (c := laws_toPermit.con) laws_toPermit.good hop hc (by simp [laws_toPermit.con, flatK, Ty.flat2, Ty.flat]) hr (x := (x, b)) (r := res) hf (gs := [[], []]) ?_ rfl fun a' w' h' => hn _ _ _ _ hk h'
          rw [hx]
          refine ⟨_, _, _, _, rfl, rfl, ⟨rfl, cs1, ?_, ?_⟩, _, _, _, _, rfl, rfl, ⟨rfl, [.bool b], rfl, ?_⟩, rfl, rfl⟩
          · refine Rs_move (fun b hb => ⟨Nat.lt_of_lt_of_le hb hr.sz, hr.fr b hb (hIO b)⟩) _ _ _ hp
          · unfold Val; simp only [isAgg, if_true]; exact k3
          · unfold Val; simp [isAgg, k4]
        · cases hk
      · cases hH
    · cases hH
  · rename_i t x i hop
    split at hH
    · rename_i ht
      subst ht
      cases hH
      simp only at hk
      split at hk
      · rename_i u k' i' hev1 hev2
        split at hk
        · rename_i his
          split at hk
          · rename_i hi
            rw [hX.n] at hi
            obtain ⟨q, hA, hq, hpt⟩ := hX.pt i' hi.1 hi.2
            have hu := VR_hdr (ev_sound hr hev1)
            rw [hX.is u his, hX.u, hA] at hu
            have hi2 := VR_int (ev_sound hr hev2)
            have hT := hE.ty 36 _ _ (show (envOf tabD [] 0 true).T 36 = some (PT, 6) by kernel_rfl)
            have hd : Try.prog.underlying 22 = some (.slice 36) := by kernel_rfl
            have hsz : PT.sz = 6 := by decide
            refine wp_reads (v := X.pt i') ⟨fun w' _ => ?_, fun _ w' => ?_⟩ (hn _ _ _ _ hk ⟨ow, φ, hr.put (mk_hdr (by rw [hpt]; rfl)) _⟩)
            all_goals
              rw [hpt]
              simp [execOp, hop, Instr.indexAt, asIntOf, hi2, run_underlying hd, hu, hi, hT.size, hsz, add_none q hq]
          · cases hk
        · cases hk
      · cases hk
    · cases hH
  · rename_i t x hop
    split at hH
    · rename_i ht
      subst ht
      cases hH
      simp only at hk
      split at hk
      · rename_i p hev
        rw [Option.bind_eq_some_iff] at hk
        obtain ⟨y, hld, hk⟩ := hk
        obtain ⟨q, cs, rfl, hq, hb, hy, hcell⟩ := hX.ld _ y hld
        have hu := VR_hdr (ev_sound hr hev)
        have hT := hE.ty 36 _ _ (show (envOf tabD [] 0 true).T 36 = some (PT, 6) by kernel_rfl)
        have hl : cs.length = PT.sz := Rs_len PH _ _ hy
        have key : ∀ w' : World, (∀ b, b < w.heap.size → w'.heap[b]? = w.heap[b]?) → ∀ j u, cs[j]? = some u → w'.cell? ⟨q.block, q.off + j, none⟩ = some u := fun w' hw j u hj =>
          (cell_move (a := ⟨q.block, q.off + j, none⟩) ((hw _ (Nat.lt_of_lt_of_le hb hr.sz)).trans (hr.fr _ hb (hIO _)))).trans (hcell j u hj)
        refine wp_reads (v := .agg cs.toArray) ⟨fun w' hw => ?_, fun hm => by simp [memRead, hop] at hm⟩ (hn _ _ _ _ hk ⟨ow, φ, hr.put ?_ _⟩)
        · obtain ⟨v, h1, h2⟩ := run_loadVar (w := w') hT hq hl (key w' hw)
          have h3 : v = .agg cs.toArray := by unfold Val at h2; simpa [isAgg] using h2
          rw [h3] at h1
          simp only [execOp, hop, Instr.loadAt, hu, Instr.sureAddr, Sem.run_bind, Sem.run_pure, Result.andThen_ok, h1]
        · exact ⟨cs, ph_any hy, by unfold Val; simp [isAgg]⟩
      · cases hk
    · cases hH
  · cases hH
end
end Go.Ev.Try

namespace Go.Ev.Try
open Go.Proofs Go.Pl
set_option linter.unusedVariables false
set_option linter.unusedSimpArgs false
inductive RK where
  | i | b | h | hi
def rkOf (f : FuncId) : Option RK := if f = 4 then some .i else if f = 5 then some .hi else if f = 6 then some .h else if f = 7 then some .hi else if f = 8 then some .b else if f = 9 then some .b else if f = 10 then some .i else if f = 11 then some .i else if f = 12 then some .i else none
theorem rkOf_fn : ∀ f q, rkOf f = some q → ∃ fn, Try.prog.funcs[f]? = some fn ∧ fn.body.isSome = true ∧ fn.name ≠ "runtime.NumGoroutine" := by
  intro f q h
  unfold rkOf at h
  split at h
  · rename_i e; subst e; exact ⟨_, Try.func4, rfl, by decide⟩
  split at h
  · rename_i e; subst e; exact ⟨_, Try.func5, rfl, by decide⟩
  split at h
  · rename_i e; subst e; exact ⟨_, Try.func6, rfl, by decide⟩
  split at h
  · rename_i e; subst e; exact ⟨_, Try.func7, rfl, by decide⟩
  split at h
  · rename_i e; subst e; exact ⟨_, Try.func8, rfl, by decide⟩
  split at h
  · rename_i e; subst e; exact ⟨_, Try.func9, rfl, by decide⟩
  split at h
  · rename_i e; subst e; exact ⟨_, Try.func10, rfl, by decide⟩
  split at h
  · rename_i e; subst e; exact ⟨_, Try.func11, rfl, by decide⟩
  split at h
  · rename_i e; subst e; exact ⟨_, Try.func12, rfl, by decide⟩
  cases h
def cI (f : FuncId) (us : List Value) (K : Int → Option WP) : Option WP := some fun W => Calls Try.prog f us.toArray W fun e W' => ∃ n, e = .returned (.int .i64 n) ∧ ∃ r, K n = some r ∧ r W'
def cB (f : FuncId) (us : List Value) (K : Bool → Option WP) : Option WP := some fun W => Calls Try.prog f us.toArray W fun e W' => ∃ n, e = .returned (.bool n) ∧ ∃ r, K n = some r ∧ r W'
def cH (f : FuncId) (us : List Value) (K : Value → Option WP) : Option WP := some fun W => Calls Try.prog f us.toArray W fun e W' => ∃ u, plain u = true ∧ e = .returned u ∧ ∃ r, K u = some r ∧ r W'
def cHI (f : FuncId) (us : List Value) (K : Value → Int → Option WP) : Option WP := some fun W => Calls Try.prog f us.toArray W fun e W' => ∃ u n, plain u = true ∧ e = .returned (.tuple #[u, .int .i64 n]) ∧ ∃ r, K u n = some r ∧ r W'
def ldW : Value → (Value → Option WP) → Option WP
  | .pointer (some ⟨b, o, none⟩), K => some fun W => ∃ u, W.cell? ⟨b, o, none⟩ = some u ∧ plain u = true ∧ ∃ r, K u = some r ∧ r W
  | _, _ => none
def stW : Value → Int → Option WP → Option WP
  | .pointer (some ⟨b, o, none⟩), m, k => k.map fun r W => (∃ u, W.cell? ⟨b, o, none⟩ = some u) ∧ W.frozen? ⟨b, o, none⟩ = false ∧ r (W.setCell ⟨b, o, none⟩ (.int .i64 m))
  | _, _, _ => none
def lenV : Value → Option Int
  | .slice _ n _ => some n
  | _ => none
def ixV : Value → Int → Nat → Option Value
  | .slice (some ⟨b, o, none⟩) n _, i, sz => if 0 ≤ i ∧ i < n then some (.pointer (some ⟨b, o + i.toNat * sz, none⟩)) else none
  | _, _, _ => none
def fdV : Value → Nat → Option Value
  | .pointer (some ⟨b, o, none⟩), f => if f < 6 then some (.pointer (some ⟨b, o + f, none⟩)) else none
  | _, _ => none
def valV : V → Option Value
  | .dat (.int k) n => some (.int k n)
  | .dat .bool b => some (.bool b)
  | .dat .hdr u => some u
  | _ => none
def valsV : List V → Option (List Value)
  | [] => some []
  | v :: l => match valV v, valsV l with
    | some u, some us => some (u :: us)
    | _, _ => none
def HW : HooksW := fun o => match o.op with
  | .call c => match c.callee with
    | .builtin .len => if c.argTypes[0]? = some 27 ∨ c.argTypes[0]? = some 24 then some fun s K => match evs s c.args.toList with
        | some [.dat .hdr u] => (lenV u).bind fun n => K (.dat (.int .i64) n)
        | _ => none
      else none
    | .value (.func f) => match rkOf f with
      | none => none
      | some q => some fun s K => match evs s c.args.toList with
        | some vs => match valsV vs with
          | some us => match q with
            | .i => cI f us fun n => K (.dat (.int .i64) n)
            | .b => cB f us fun n => K (.dat .bool n)
            | .h => cH f us fun u => K (.dat .hdr u)
            | .hi => cHI f us fun u n => K (.tp (.dat .hdr u) (.tp (.dat (.int .i64) n) .gone))
          | none => none
        | none => none
    | _ => none
  | .indexAddr t x i => if t = 27 then some fun s K => match s.ev x, s.ev i with
      | some (.dat .hdr u), some (.dat (.int _) i) => (ixV u i 6).bind fun p => K (.dat .hdr p)
      | _, _ => none
    else if t = 24 then some fun s K => match s.ev x, s.ev i with
      | some (.dat .hdr u), some (.dat (.int _) i) => (ixV u i 1).bind fun p => K (.dat .hdr p)
      | _, _ => none
    else none
  | .fieldAddr t x f => if t = 42 then some fun s K => match s.ev x with
      | some (.dat .hdr p) => (fdV p f).bind fun q => K (.dat .hdr q)
      | _ => none
    else none
  | .load t x => if t = 24 then some fun s K => match s.ev x with
      | some (.dat .hdr p) => ldW p fun u => K (.dat .hdr u)
      | _ => none
    else none
  | .store t x y => if t = 2 then some fun s K => match s.ev x, s.ev y with
      | some (.dat .hdr p), some (.dat (.int .i64) m) => stW p m (K .gone)
      | _, _ => none
    else none
  | _ => none
section
variable {s : St} {a : Act} {w : World}
theorem valV_sound {φ hk S} {v : V} {u x : Value} (h : valV v = some u) (k : VR φ hk w S v x) : x = u := by
  unfold valV at h
  split at h <;> cases h
  · exact VR_int k
  · exact VR_bool k
  · exact VR_hdr k
theorem valsV_sound (hr : RelW s a w) : ∀ (l : List Operand) (vs : List V) (us : List Value), evs s l = some vs → valsV vs = some us → l.map a.eval = us := by
  obtain ⟨ow, φ, hr⟩ := hr
  intro l
  induction l with
  | nil => intro vs us h k; simp [evs] at h; subst h; simp [valsV] at k; simp [k]
  | cons x l ih =>
    intro vs us h k
    simp only [evs] at h
    split at h
    · rename_i v vs' h1 h2
      cases h
      simp only [valsV] at k
      split at k
      · rename_i u us' k1 k2
        cases k
        rw [List.map_cons, ih _ _ h2 k2, valV_sound k1 (ev_sound hr h1)]
      · cases k
    · cases h
end
end Go.Ev.Try

namespace Go.Ev.Try
open Go.Proofs Go.Pl
set_option linter.unusedVariables false
set_option linter.unusedSimpArgs false
theorem run_store_any {w : World} {b o : Nat} {m : Int} {u : Value} (hc : w.cell? ⟨b, o, none⟩ = some u) (hf : w.frozen? ⟨b, o, none⟩ = false) : (store ⟨b, o, none⟩ (.int .i64 m)).run Try.prog w = .ok () (w.setCell ⟨b, o, none⟩ (.int .i64 m)) := by
  rw [run_store Try.prog w _ _ .plain rfl]
  simp [hc, hf]
theorem hw_ok : HookWOk Try.prog HW := by
  have hE : EnvOk Try.prog (envOf tab [] 0 true) (fun _ => False) (fun _ => False) := envOk (cs := []) tabok trivial 0 true _ _
  have call : ∀ {o : Oper} {a : Act} {w : World} {cl : Call} {f : FuncId} {q : RK} {us : List Value} {next : Act → World → Prop} {Q : Exit → Act → World → Prop}, o.op = .call cl → cl.callee = .value (.func f) → rkOf f = some q → cl.args.toList.map a.eval = us →
      Calls Try.prog f us.toArray w (fun e w' => ∃ v, e = .returned v ∧ next (a.put o.dst v) w') → o.wp Try.prog a w next Q := by
    intro o a w cl f q us next Q ho hc hf hus hcall
    obtain ⟨fn, hfn, hbody, hname⟩ := rkOf_fn f q hf
    have hrun : (execOp a.eval o).run Try.prog w = .ok (.enter f us.toArray) w := by
      have hbn : fn.body.isNone = false := by cases hb : fn.body <;> simp_all
      have e1 : us.toArray = cl.args.map a.eval := by rw [← hus, ← Array.toList_map]
      rw [e1]
      simp [execOp, ho, resolve, hc, Act.eval, Deferred.ofValue, invoke, callFunc, hfn, hname, hbn]
      intro hb
      rw [hb] at hbody
      simp at hbody
    unfold Oper.wp
    rw [hrun, Oper.upon_enter]
    refine hcall.mono fun e w' hpost => ?_
    obtain ⟨v, rfl, h⟩ := hpost
    exact h
  intro o h hH s K r a w hk hw hr next Q hn
  unfold HW at hH
  split at hH
  · rename_i cl hop
    split at hH
    · -- len
      rename_i hc
      split at hH
      · rename_i hat
        cases hH
        simp only at hk
        split at hk
        · rename_i u hevs
          rw [Option.bind_eq_some_iff] at hk
          obtain ⟨n, hl, hk⟩ := hk
          obtain ⟨x, hx, hev⟩ := evs_one hevs
          obtain ⟨ow, φ, hr'⟩ := hr
          have hu := VR_hdr (ev_sound hr' hev)
          have hargs : cl.args = #[x] := by apply Array.ext'; exact hx
          unfold lenV at hl
          split at hl
          · rename_i A m c
            cases hl
            obtain ⟨tx, e, hat', hd⟩ : ∃ tx e, cl.argTypes[0]? = some tx ∧ Try.prog.underlying tx = some (.slice e) := by
              rcases hat with h | h
              · exact ⟨27, 42, h, by kernel_rfl⟩
              · exact ⟨24, 2, h, by kernel_rfl⟩
            obtain ⟨v, h1, h2⟩ := yld_len (φ := φ) (hk := kds s.hp) (S := fun _ => True) (n := m) hop hc hargs hat' hd (.inr ⟨e, A, c, rfl, hu⟩)
            exact wp_reads h1 (hn _ _ _ _ hk hw (FVR_of rfl h2))
          · cases hl
        · cases hk
      · cases hH
    · rename_i f hc
      split at hH
      · cases hH
      · rename_i q hq
        cases hH
        simp only at hk
        split at hk
        · rename_i vs hevs
          split at hk
          · rename_i us hus
            have he := valsV_sound hr _ _ _ hevs hus
            split at hk
            · cases hk
              refine call hop hc hq he (Calls.mono hw fun e w' hp => ?_)
              obtain ⟨n, rfl, r', h1, h2⟩ := hp
              exact ⟨_, rfl, hn _ _ _ _ h1 h2 fun _ _ _ _ => mk_int n⟩
            · cases hk
              refine call hop hc hq he (Calls.mono hw fun e w' hp => ?_)
              obtain ⟨n, rfl, r', h1, h2⟩ := hp
              exact ⟨_, rfl, hn _ _ _ _ h1 h2 fun _ _ _ _ => mk_bool n⟩
            · cases hk
              refine call hop hc hq he (Calls.mono hw fun e w' hp => ?_)
              obtain ⟨u, hu, rfl, r', h1, h2⟩ := hp
              exact ⟨_, rfl, hn _ _ _ _ h1 h2 fun _ _ _ _ => mk_hdr hu⟩
            · cases hk
              refine call hop hc hq he (Calls.mono hw fun e w' hp => ?_)
              obtain ⟨u, n, hu, rfl, r', h1, h2⟩ := hp
              exact ⟨_, rfl, hn _ _ _ _ h1 h2 fun _ _ _ _ => ⟨u, [.int .i64 n], rfl, mk_hdr hu, _, _, rfl, mk_int n, rfl⟩⟩
          · cases hk
        · cases hk
    · cases hH
  · -- indexAddr
    rename_i t x i hop
    have key : ∀ (e sz : Nat) (ty : Ty) (nf : Nat), Try.prog.underlying t = some (.slice e) → (envOf tab [] 0 true).T e = some (ty, nf) → ty.sz = sz → ∀ u k i', s.ev x = some (.dat .hdr u) → s.ev i = some (.dat (.int k) i') → (ixV u i' sz).bind (fun p => K (.dat .hdr p)) = some r → o.wp Try.prog a w next Q := by
      intro e sz ty nf hd hT hsz u k i' h1 h2 hk
      rw [Option.bind_eq_some_iff] at hk
      obtain ⟨p, hp, hk⟩ := hk
      obtain ⟨ow, φ, hr'⟩ := hr
      have hu := VR_hdr (ev_sound hr' h1)
      have hi := VR_int (ev_sound hr' h2)
      have hTo := hE.ty _ _ _ hT
      unfold ixV at hp
      split at hp
      · rename_i b o' n c
        split at hp
        · rename_i hlt
          cases hp
          refine wp_reads (v := .pointer (some ⟨b, o' + i'.toNat * sz, none⟩)) ⟨fun w' _ => ?_, fun _ w' => ?_⟩ (hn _ _ _ _ hk hw fun _ _ _ _ => mk_hdr rfl)
          all_goals
            simp [execOp, hop, Instr.indexAt, asIntOf, hi, run_underlying hd, hu, hlt, hTo.size, hsz, add_none]
        · cases hp
      · cases hp
    split at hH
    · rename_i ht
      subst ht
      cases hH
      simp only at hk
      split at hk
      · rename_i u k i' h1 h2
        exact key 42 6 PT 6 (by kernel_rfl) (by kernel_rfl) (by decide) u k i' h1 h2 hk
      · cases hk
    · split at hH
      · rename_i ht
        subst ht
        cases hH
        simp only at hk
        split at hk
        · rename_i u k i' h1 h2
          exact key 2 1 (.int .i64) 0 (by kernel_rfl) (by kernel_rfl) (by decide) u k i' h1 h2 hk
        · cases hk
      · cases hH
  · -- fieldAddr
    rename_i t x f hop
    split at hH
    · rename_i ht
      subst ht
      cases hH
      simp only at hk
      split at hk
      · rename_i p h1
        rw [Option.bind_eq_some_iff] at hk
        obtain ⟨q, hq, hk⟩ := hk
        obtain ⟨ow, φ, hr'⟩ := hr
        have hu := VR_hdr (ev_sound hr' h1)
        unfold fdV at hq
        split at hq
        · rename_i b o'
          split at hq
          · rename_i hf
            cases hq
            have hT := hE.ty 42 _ _ (show (envOf tab [] 0 true).T 42 = some (PT, 6) by kernel_rfl)
            obtain ⟨fs, g1, g2, g3⟩ := hT.desc
            have hlt : f < fs.size := by omega
            obtain ⟨h4, tf, m, h5, tf1, h6, hle, h7⟩ := g3 f fs[f] (Array.getElem?_eq_getElem hlt)
            obtain ⟨i, h8, h9, _⟩ := (hE.ty _ _ _ h5).info
            have hoff : fs[f].offset = f := by
              rw [h4]
              have : f = 0 ∨ f = 1 ∨ f = 2 ∨ f = 3 ∨ f = 4 ∨ f = 5 := by omega
              rcases this with rfl | rfl | rfl | rfl | rfl | rfl <;> rfl
            refine wp_reads (v := .pointer (some ⟨b, o' + f, none⟩)) ⟨fun w' _ => ?_, fun _ w' => ?_⟩ (hn _ _ _ _ hk hw fun _ _ _ _ => mk_hdr rfl)
            all_goals
              simp [execOp, hop, Instr.fieldAt, run_underlying g1, Array.getElem?_eq_getElem hlt, hu, Instr.sureAddr, fieldPlace, run_sizeOf h8, h9, h7, hoff, add_none]
          · cases hq
        · cases hq
      · cases hk
    · cases hH
  · -- load
    rename_i t x hop
    split at hH
    · rename_i ht
      subst ht
      cases hH
      simp only at hk
      split at hk
      · rename_i p h1
        unfold ldW at hk
        split at hk
        · rename_i b o'
          cases hk
          obtain ⟨u, hc, hp, r', h2, h3⟩ := hw
          obtain ⟨ow, φ, hr'⟩ := hr
          have hu := VR_hdr (ev_sound hr' h1)
          have hT := hE.ty 24 _ _ (show (envOf tab [] 0 true).T 24 = some (.sl 2 (.int .i64), 0) by kernel_rfl)
          refine wp_reads (v := u) ⟨fun w' hw' => ?_, fun hm => by simp [memRead, hop] at hm⟩ (hn _ _ _ _ h2 h3 fun _ _ _ _ => mk_hdr hp)
          have hcell : ∀ j v, [u][j]? = some v → w'.cell? ⟨b, o' + j, none⟩ = some v := fun j v hj => by
            cases j with
            | zero =>
              simp at hj; subst hj
              exact (cell_move (a := ⟨b, o', none⟩) (hw' b (cell_lt hc))).trans hc
            | succ j => simp at hj
          obtain ⟨v, k1, k2⟩ := run_loadVar (w := w') hT (p := ⟨b, o', none⟩) rfl (cs := [u]) rfl hcell
          have k3 : v = u := by unfold Val at k2; simpa [isAgg] using k2.symm
          rw [k3] at k1
          simp only [execOp, hop, Instr.loadAt, hu, Instr.sureAddr, Sem.run_bind, Sem.run_pure, Result.andThen_ok, k1]
        · cases hk
      · cases hk
    · cases hH
  · -- store
    rename_i t x y hop
    split at hH
    · rename_i ht
      subst ht
      cases hH
      simp only at hk
      split at hk
      · rename_i p m h1 h2
        unfold stW at hk
        split at hk
        · rename_i b o'
          simp only [Option.map_eq_some_iff] at hk
          obtain ⟨r', hk, rfl⟩ := hk
          obtain ⟨⟨u, hc⟩, hf, hw⟩ := hw
          obtain ⟨ow, φ, hr'⟩ := hr
          have hu := VR_hdr (ev_sound hr' h1)
          have hm := VR_int (ev_sound hr' h2)
          have hT := hE.ty 2 _ _ (show (envOf tab [] 0 true).T 2 = some (.int .i64, 0) by kernel_rfl)
          have hsz : Ty.sz (.int .i64) = 1 := rfl
          refine wp_skip' ?_ (hn _ undef _ _ hk hw fun _ _ _ _ => trivial)
          simp [execOp, hop, Instr.storeAt, Instr.sureAddr, hu, hm, storeVar, hT.size, hsz, Value.cells, storeCells, add_none, run_store_any hc hf]
        · cases hk
      · cases hk
    · cases hH
  · cases hH
end Go.Ev.Try

namespace Go.Ev.Try
open Go.Proofs Go.Pl
def EW : Env := envOf tab [] 0 false
end Go.Ev.Try

namespace Go.Ev.Try
open Go.Proofs Go.Pl
set_option linter.unusedVariables false
def WmarkInt64S.st2 (a0 : Value) (k1 : Int) (i5 : Int) : St := ⟨[.dat .hdr a0, .dat (.int .i64) k1, .gone, .gone, .gone, .dat (.int .i64) i5, .gone, .gone, .gone, .gone, .gone, .gone, .gone, .gone, .gone, .gone, .gone, .gone, .gone], []⟩
def WmarkInt64S.g2 (post : List V → WP) (L2 : Value → Int → Int → Option WP) (a0 : Value) (k1 : Int) (i5 : Int) : Option WP :=
  (lenV a0).bind fun n1 =>
  if (decide ((i5 : Int) < n1)) = true then
    (ixV a0 i5 1).bind fun p2 =>
    stW p2 k1 (
      L2 a0 (IntKind.i64.wrap (k1 + 1)) (IntKind.i64.wrap (i5 + 1))
    )
  else
    some (post [.dat (.int .i64) k1])
def WmarkInt64S.l2 (post : List V → WP) (n : Nat) : Nat → Value → Int → Int → Option WP
  | 0 => fun _ _ _ => none
  | k + 1 => WmarkInt64S.g2 post (WmarkInt64S.l2 post n k)
def WmarkInt64S.top (post : List V → WP) (I2 : Value → Int → Int → Option WP) (a0 : Value) (k1 : Int) : Option WP :=
  I2 a0 k1 0
def WmarkInt64S.fn (post : List V → WP) (n : Nat) (a0 : Value) (k1 : Int) : Option WP := WmarkInt64S.top post (WmarkInt64S.l2 post n n) a0 k1
def WmarkInt64S.keep (i : Nat) : List Nat := if i = 2 then [0, 1, 5] else []
noncomputable def WmarkInt64S.at2 (post : List V → WP) (n : Nat) : Code × (Ex → St → Option WP) := ctxW EW HW WmarkInt64S.keep n [.snd, .fst, .snd, .blk] (codeOf Try.f11) (kEndW EW Try.f11 post)
noncomputable def WmarkInt64S.LN2 (post : List V → WP) (n : Nat) : Nat → St → Option WP := loopN (execW EW HW WmarkInt64S.keep n (bodyOf (WmarkInt64S.at2 post n).1)) (St.norm 0 (WmarkInt64S.keep 2)) (WmarkInt64S.at2 post n).2
set_option maxRecDepth 100000 in
theorem WmarkInt64S.lem2 (post : List V → WP) (n : Nat) : ∀ (k : Nat) (a0 : Value) (k1 : Int) (i5 : Int), WmarkInt64S.LN2 post n k (WmarkInt64S.st2 a0 k1 i5) = WmarkInt64S.l2 post n k a0 k1 i5 := by
  intro k
  induction k with
  | zero => intro a0 k1 i5; rfl
  | succ k ih =>
    intro a0 k1 i5
    have h : WmarkInt64S.LN2 post n (k + 1) (WmarkInt64S.st2 a0 k1 i5) = WmarkInt64S.g2 post (fun a0 k1 i5 => WmarkInt64S.LN2 post n k (WmarkInt64S.st2 a0 k1 i5)) a0 k1 i5 := by kernel_rfl
    rw [h]
    simp only [ih]
    rfl
set_option maxRecDepth 100000 in
theorem WmarkInt64S.body (post : List V → WP) (n : Nat) (a0 : Value) (k1 : Int) : execW EW HW WmarkInt64S.keep n (codeOf Try.f11) (kEndW EW Try.f11 post) ⟨[.dat .hdr a0, .dat (.int .i64) k1] ++ List.replicate (Try.f11.ntmps - 2) .gone, []⟩ = WmarkInt64S.fn post n a0 k1 := by
  have h : execW EW HW WmarkInt64S.keep n (codeOf Try.f11) (kEndW EW Try.f11 post) ⟨[.dat .hdr a0, .dat (.int .i64) k1] ++ List.replicate (Try.f11.ntmps - 2) .gone, []⟩ = WmarkInt64S.top post (fun a0 k1 i5 => WmarkInt64S.LN2 post n n (WmarkInt64S.st2 a0 k1 i5)) a0 k1 := by kernel_rfl
  rw [h]
  simp only [WmarkInt64S.lem2 post]
  rfl
end Go.Ev.Try

namespace Go.Ev.Try
open Go.Proofs Go.Pl Go.RowKit
set_option linter.unusedVariables false
set_option linter.unusedSimpArgs false
structure IntsOnly (D : Nat → Prop) (W W' : World) : Prop where
  os : W'.os = W.os
  tape : W'.tape = W.tape
  output : W'.output = W.output
  size : W'.heap.size = W.heap.size
  block : ∀ b, ¬ D b → W'.heap[b]? = W.heap[b]?
  fz : ∀ a, W'.frozen? a = W.frozen? a
  int : ∀ a n, W.cell? a = some (.int .i64 n) → ∃ m, W'.cell? a = some (.int .i64 m)
  rest : ∀ a u, W.cell? a = some u → (∀ n, u ≠ .int .i64 n) → W'.cell? a = some u
theorem IntsOnly.refl (D : Nat → Prop) (W : World) : IntsOnly D W W := ⟨rfl, rfl, rfl, rfl, fun _ _ => rfl, fun _ => rfl, fun _ n h => ⟨n, h⟩, fun _ _ h _ => h⟩
theorem IntsOnly.trans {D : Nat → Prop} {A B C : World} (h : IntsOnly D A B) (k : IntsOnly D B C) : IntsOnly D A C where
  os := k.os.trans h.os
  tape := k.tape.trans h.tape
  output := k.output.trans h.output
  size := k.size.trans h.size
  block := fun b hb => (k.block b hb).trans (h.block b hb)
  fz := fun a => (k.fz a).trans (h.fz a)
  int := fun a n hn => let ⟨m, hm⟩ := h.int a n hn; k.int a m hm
  rest := fun a u hu hn => k.rest a u (h.rest a u hu hn) hn
theorem IntsOnly.mono {D D' : Nat → Prop} {A B : World} (h : IntsOnly D A B) (k : ∀ b, D b → D' b) : IntsOnly D' A B := { h with block := fun b hb => h.block b fun hd => hb (k b hd) }
theorem cells_of {W : World} {b o : Nat} {u : Value} (h : W.cell? ⟨b, o, none⟩ = some u) : ∃ c e fr, W.heap[b]? = some (.cells c e fr) ∧ c[o]? = some u := by
  unfold World.cell? at h
  split at h
  · rename_i c e fr hc; exact ⟨c, e, fr, hc, by simpa using h⟩
  · cases h
theorem set_heap {W : World} {b o : Nat} {v : Value} {c : Array Value} {e : TypeId} {fr : Nat × Nat} (h : W.heap[b]? = some (.cells c e fr)) : (W.setCell ⟨b, o, none⟩ v).heap[b]? = some (.cells (c.setIfInBounds o v) e fr) := by
  simp only [World.setCell, Array.getElem?_modify, if_pos, h]
  rfl
theorem set_self {W : World} {b o : Nat} {u v : Value} (h : W.cell? ⟨b, o, none⟩ = some u) : (W.setCell ⟨b, o, none⟩ v).cell? ⟨b, o, none⟩ = some v := by
  obtain ⟨c, e, fr, h1, h2⟩ := cells_of h
  rw [cell_of (set_heap h1), Array.getElem?_setIfInBounds_self_of_lt (Array.getElem?_eq_some_iff.1 h2).1]
theorem set_ne {W : World} {b o : Nat} {u v : Value} (h : W.cell? ⟨b, o, none⟩ = some u) {a : Addr} (ha : a.spot = none) (hne : a.block ≠ b ∨ a.off ≠ o) : (W.setCell ⟨b, o, none⟩ v).cell? a = W.cell? a := by
  obtain ⟨ab, ao, asp⟩ := a
  simp only at ha hne
  subst ha
  by_cases hb : ab = b
  · subst hb
    obtain ⟨c, e, fr, h1, h2⟩ := cells_of h
    have ho : o ≠ ao := fun e => (hne.resolve_left fun h => h rfl) e.symm
    rw [cell_of (set_heap h1), cell_of h1, Array.getElem?_setIfInBounds_ne ho]
  · exact cell_move (a := ⟨ab, ao, none⟩) (Below.heap_setCell W ⟨b, o, none⟩ v ab hb)
theorem spot_cell {W : World} {a : Addr} {u : Value} (h : W.cell? a = some u) : a.spot = none := by
  unfold World.cell? at h
  split at h
  · split at h
    · cases h
    · rename_i hs; simpa using hs
  · cases h
theorem set_fz {W : World} {b o : Nat} {v : Value} (a : Addr) : (W.setCell ⟨b, o, none⟩ v).frozen? a = W.frozen? a := by
  obtain ⟨ab, ao, asp⟩ := a
  by_cases hb : ab = b
  · subst hb
    unfold World.frozen?
    simp only [World.setCell, Array.getElem?_modify, if_pos]
    cases h : W.heap[ab]? with
    | none => rfl
    | some x => cases x <;> rfl
  · unfold World.frozen?
    rw [Below.heap_setCell W ⟨b, o, none⟩ v ab hb]
theorem IntsOnly.set {D : Nat → Prop} {W : World} {b o : Nat} {n m : Int} (h : W.cell? ⟨b, o, none⟩ = some (.int .i64 n)) (hD : D b) : IntsOnly D W (W.setCell ⟨b, o, none⟩ (.int .i64 m)) where
  os := rfl
  tape := rfl
  output := rfl
  size := by simp [World.setCell]
  block := fun b' hb => Below.heap_setCell W ⟨b, o, none⟩ _ b' fun e => hb (e ▸ hD)
  fz := set_fz
  int := fun a n' ha => by
    have hs := spot_cell ha
    by_cases hne : a.block ≠ b ∨ a.off ≠ o
    · exact ⟨n', (set_ne h hs hne).trans ha⟩
    · obtain ⟨ab, ao, asp⟩ := a
      simp only [ne_eq, not_or, Decidable.not_not] at hne hs
      obtain ⟨rfl, rfl⟩ := hne
      subst hs
      exact ⟨m, set_self h⟩
  rest := fun a u ha hn => by
    have hs := spot_cell ha
    by_cases hne : a.block ≠ b ∨ a.off ≠ o
    · exact (set_ne h hs hne).trans ha
    · obtain ⟨ab, ao, asp⟩ := a
      simp only [ne_eq, not_or, Decidable.not_not] at hne hs
      obtain ⟨rfl, rfl⟩ := hne
      subst hs
      rw [h] at ha
      cases ha
      exact absurd rfl (hn n)
end Go.Ev.Try

namespace Go.Ev.Try
open Go.Proofs Go.Pl Go.RowKit
set_option linter.unusedVariables false
set_option linter.unusedSimpArgs false
def IntRow (W : World) (A : Option Addr) (n : Nat) : Prop := ∀ j, j < n → ∃ b o x, A = some ⟨b, o, none⟩ ∧ W.cell? ⟨b, o + j, none⟩ = some (.int .i64 x) ∧ W.frozen? ⟨b, o + j, none⟩ = false
theorem IntRow.move {D : Nat → Prop} {W W' : World} {A : Option Addr} {n : Nat} (h : IntRow W A n) (k : IntsOnly D W W') : IntRow W' A n := fun j hj => by
  obtain ⟨b, o, x, e, h1, h2⟩ := h j hj
  obtain ⟨m, h3⟩ := k.int _ _ h1
  exact ⟨b, o, m, e, h3, (k.fz _).trans h2⟩
theorem mark_loop {D : Nat → Prop} {W0 : World} {A : Option Addr} {n c : Nat} {k : Int} {post : List V → WP} (hD : 0 < n → ∀ b o, A = some ⟨b, o, none⟩ → D b) (hrow : IntRow W0 A n) (hk : 0 ≤ k) (hkn : k + n ≤ 4611686018427387904)
    (hpost : ∀ W', IntsOnly D W0 W' → (∀ j b o, j < n → A = some ⟨b, o, none⟩ → W'.cell? ⟨b, o + j, none⟩ = some (.int .i64 (k + j))) → post [.dat (.int .i64) (k + n)] W') :
    ∀ (d i m : Nat) (W : World), i + d = n → d < m → IntsOnly D W0 W → (∀ j b o, j < i → A = some ⟨b, o, none⟩ → W.cell? ⟨b, o + j, none⟩ = some (.int .i64 (k + j))) →
      ∃ r, WmarkInt64S.l2 post NN m (.slice A n c) (k + i) i = some r ∧ r W := by
  intro d
  induction d with
  | zero =>
    intro i m W hi hm hW hc
    obtain ⟨m, rfl⟩ : ∃ m', m = m' + 1 := ⟨m - 1, by omega⟩
    have hin : i = n := by omega
    subst hin
    simp only [WmarkInt64S.l2, WmarkInt64S.g2, lenV, Option.bind_some]
    rw [if_neg (by simp)]
    exact ⟨_, rfl, hpost W hW hc⟩
  | succ d ih =>
    intro i m W hi hm hW hc
    obtain ⟨m, rfl⟩ : ∃ m', m = m' + 1 := ⟨m - 1, by omega⟩
    have hin : i < n := by omega
    obtain ⟨b, o, x, rfl, h1, h2⟩ := (hrow.move hW) i hin
    have hs := IntsOnly.set (m := k + i) h1 (hD (by omega) b o rfl)
    obtain ⟨r, h3, h4⟩ := ih (i + 1) m (W.setCell ⟨b, o + i, none⟩ (.int .i64 (k + i))) (by omega) (by omega) (hW.trans hs) (fun j b' o' hj e => by
      cases e
      by_cases hji : j = i
      · subst hji; exact set_self h1
      · exact (set_ne h1 rfl (.inr (by simp only; omega))).trans (hc j b o (by omega) rfl))
    simp only [WmarkInt64S.l2, WmarkInt64S.g2, lenV, Option.bind_some]
    rw [if_pos (by simpa using hin), ixV, if_pos (by omega), Option.bind_some]
    rw [w64 (by omega) (by omega), w64 (by omega) (by omega)]
    have e1 : k + (i : Int) + 1 = k + ((i + 1 : Nat) : Int) := by omega
    have e2 : (i : Int) + 1 = ((i + 1 : Nat) : Int) := by omega
    rw [e1, e2, h3]
    have e3 : o + (i : Int).toNat * 1 = o + i := by omega
    rw [e3]
    exact ⟨_, rfl, ⟨_, h1⟩, h2, h4⟩
theorem markInt_at {D : Nat → Prop} {W : World} {A : Option Addr} {n c : Nat} {k : Int} (hD : 0 < n → ∀ b o, A = some ⟨b, o, none⟩ → D b) (hrow : IntRow W A n) (hk : 0 ≤ k) (hkn : k + n ≤ 4611686018427387904) (hn : n < 1152921504606846976) :
    Calls Try.prog 11 #[.slice A n c, .int .i64 k] W fun e W' => e = .returned (.int .i64 (k + n)) ∧ IntsOnly D W W' ∧ ∀ j b o, j < n → A = some ⟨b, o, none⟩ → W'.cell? ⟨b, o + j, none⟩ = some (.int .i64 (k + j)) := by
  let post : List V → WP := fun l W' => l = [.dat (.int .i64) (k + n)] ∧ IntsOnly D W W' ∧ ∀ j b o, j < n → A = some ⟨b, o, none⟩ → W'.cell? ⟨b, o + j, none⟩ = some (.int .i64 (k + j))
  have hNN := NN_eq
  obtain ⟨r, h1, h2⟩ := mark_loop (c := c) (post := post) hD hrow hk hkn (fun W' h k => ⟨rfl, h, k⟩) n 0 NN W (by omega) (by rw [hNN]; omega) (.refl D W) (fun j b o hj => absurd hj (Nat.not_lt_zero j))
  have h3 : WmarkInt64S.fn post NN (.slice A n c) k = some r := by
    unfold WmarkInt64S.fn WmarkInt64S.top
    have e1 : k + ((0 : Nat) : Int) = k := by omega
    rw [e1] at h1
    exact h1
  obtain ⟨code, hcode⟩ := Option.isSome_iff_exists.1 (show Try.f11.body.isSome = true by kernel_rfl)
  have hcd : codeOf Try.f11 = code := by unfold codeOf; rw [hcode]
  have hb := WmarkInt64S.body post NN (.slice A n c) k
  rw [hcd, h3] at hb
  have hE : EnvOk Try.prog EW (fun _ => False) (fun _ => False) := envOk (cs := []) tabok trivial 0 false _ _
  refine (calls_of_execW hE rfl hw_ok Try.func11 hcode WmarkInt64S.keep (ss := [.dat .hdr (.slice A n c), .dat (.int .i64) k]) (vs := [.slice A n c, .int .i64 k]) (.cons (fun _ _ _ _ => mk_hdr rfl) (.cons (fun _ _ _ _ => mk_int k) .nil)) hb h2).mono fun e W' hp => ?_
  obtain ⟨rv, us, ⟨rfl, h4, h5⟩, h6, rfl⟩ := hp
  cases h6 with
  | cons h7 h8 =>
    cases h8
    have h9 := VR_int (h7 (fun _ => .bool false) (fun _ => none) W (fun _ => True))
    subst h9
    exact ⟨rfl, h4, h5⟩
end Go.Ev.Try

namespace Go.Ev.Try
open Go.Proofs Go.Pl
set_option linter.unusedVariables false
def WmarkPermitS.st2 (a0 : Value) (k1 : Int) (i5 : Int) : St := ⟨[.dat .hdr a0, .dat (.int .i64) k1, .gone, .gone, .gone, .dat (.int .i64) i5, .gone, .gone, .gone, .gone, .gone, .gone, .gone, .gone, .gone, .gone, .gone, .gone, .gone, .gone, .gone, .gone, .gone, .gone, .gone, .gone, .gone, .gone, .gone, .gone, .gone, .gone, .gone, .gone, .gone, .gone, .gone, .gone, .gone, .gone, .gone, .gone, .gone, .gone, .gone, .gone, .gone, .gone, .gone, .gone, .gone, .gone, .gone, .gone, .gone], []⟩
def WmarkPermitS.g2 (post : List V → WP) (L2 : Value → Int → Int → Option WP) (a0 : Value) (k1 : Int) (i5 : Int) : Option WP :=
  (lenV a0).bind fun n1 =>
  if (decide ((i5 : Int) < n1)) = true then
    (ixV a0 i5 6).bind fun p2 =>
    (fdV p2 0).bind fun p3 =>
    stW p3 k1 (
      (ixV a0 i5 6).bind fun p4 =>
      (fdV p4 1).bind fun p5 =>
      stW p5 (IntKind.i64.wrap (k1 + 1)) (
        (ixV a0 i5 6).bind fun p6 =>
        (fdV p6 2).bind fun p7 =>
        stW p7 (IntKind.i64.wrap ((IntKind.i64.wrap (k1 + 1)) + 1)) (
          (ixV a0 i5 6).bind fun p8 =>
          (fdV p8 3).bind fun p9 =>
          stW p9 (IntKind.i64.wrap ((IntKind.i64.wrap ((IntKind.i64.wrap (k1 + 1)) + 1)) + 1)) (
            (ixV a0 i5 6).bind fun p10 =>
            (fdV p10 4).bind fun p11 =>
            ldW p11 fun u12 =>
            cI 11 [u12, .int .i64 (IntKind.i64.wrap ((IntKind.i64.wrap ((IntKind.i64.wrap ((IntKind.i64.wrap (k1 + 1)) + 1)) + 1)) + 1))] fun n13 =>
            (ixV a0 i5 6).bind fun p14 =>
            (fdV p14 5).bind fun p15 =>
            stW p15 n13 (
              L2 a0 (IntKind.i64.wrap (n13 + 1)) (IntKind.i64.wrap (i5 + 1))
            )
          )
        )
      )
    )
  else
    some (post [.dat (.int .i64) k1])
def WmarkPermitS.l2 (post : List V → WP) (n : Nat) : Nat → Value → Int → Int → Option WP
  | 0 => fun _ _ _ => none
  | k + 1 => WmarkPermitS.g2 post (WmarkPermitS.l2 post n k)
def WmarkPermitS.top (post : List V → WP) (I2 : Value → Int → Int → Option WP) (a0 : Value) (k1 : Int) : Option WP :=
  I2 a0 k1 0
def WmarkPermitS.fn (post : List V → WP) (n : Nat) (a0 : Value) (k1 : Int) : Option WP := WmarkPermitS.top post (WmarkPermitS.l2 post n n) a0 k1
def WmarkPermitS.keep (i : Nat) : List Nat := if i = 2 then [0, 1, 5] else []
noncomputable def WmarkPermitS.at2 (post : List V → WP) (n : Nat) : Code × (Ex → St → Option WP) := ctxW EW HW WmarkPermitS.keep n [.snd, .fst, .snd, .blk] (codeOf Try.f10) (kEndW EW Try.f10 post)
noncomputable def WmarkPermitS.LN2 (post : List V → WP) (n : Nat) : Nat → St → Option WP := loopN (execW EW HW WmarkPermitS.keep n (bodyOf (WmarkPermitS.at2 post n).1)) (St.norm 0 (WmarkPermitS.keep 2)) (WmarkPermitS.at2 post n).2
set_option maxRecDepth 100000 in
theorem WmarkPermitS.lem2 (post : List V → WP) (n : Nat) : ∀ (k : Nat) (a0 : Value) (k1 : Int) (i5 : Int), WmarkPermitS.LN2 post n k (WmarkPermitS.st2 a0 k1 i5) = WmarkPermitS.l2 post n k a0 k1 i5 := by
  intro k
  induction k with
  | zero => intro a0 k1 i5; rfl
  | succ k ih =>
    intro a0 k1 i5
    have h : WmarkPermitS.LN2 post n (k + 1) (WmarkPermitS.st2 a0 k1 i5) = WmarkPermitS.g2 post (fun a0 k1 i5 => WmarkPermitS.LN2 post n k (WmarkPermitS.st2 a0 k1 i5)) a0 k1 i5 := by kernel_rfl
    rw [h]
    simp only [ih]
    rfl
set_option maxRecDepth 100000 in
theorem WmarkPermitS.body (post : List V → WP) (n : Nat) (a0 : Value) (k1 : Int) : execW EW HW WmarkPermitS.keep n (codeOf Try.f10) (kEndW EW Try.f10 post) ⟨[.dat .hdr a0, .dat (.int .i64) k1] ++ List.replicate (Try.f10.ntmps - 2) .gone, []⟩ = WmarkPermitS.fn post n a0 k1 := by
  have h : execW EW HW WmarkPermitS.keep n (codeOf Try.f10) (kEndW EW Try.f10 post) ⟨[.dat .hdr a0, .dat (.int .i64) k1] ++ List.replicate (Try.f10.ntmps - 2) .gone, []⟩ = WmarkPermitS.top post (fun a0 k1 i5 => WmarkPermitS.LN2 post n n (WmarkPermitS.st2 a0 k1 i5)) a0 k1 := by kernel_rfl
  rw [h]
  simp only [WmarkPermitS.lem2 post]
  rfl
end Go.Ev.Try

namespace Go.Ev.Try
open Go.Proofs Go.Pl Go.RowKit
set_option linter.unusedVariables false
set_option linter.unusedSimpArgs false
section
variable {W : World}
theorem stW_ok {b o : Nat} {m : Int} {k : Option WP} {u : Value} (hc : W.cell? ⟨b, o, none⟩ = some u) (hf : W.frozen? ⟨b, o, none⟩ = false) (h : ∃ r, k = some r ∧ r (W.setCell ⟨b, o, none⟩ (.int .i64 m))) : ∃ r, stW (.pointer (some ⟨b, o, none⟩)) m k = some r ∧ r W := by
  obtain ⟨r, rfl, h⟩ := h
  exact ⟨_, rfl, ⟨u, hc⟩, hf, h⟩
theorem ldW_ok {b o : Nat} {K : Value → Option WP} {u : Value} (hc : W.cell? ⟨b, o, none⟩ = some u) (hp : plain u = true) (h : ∃ r, K u = some r ∧ r W) : ∃ r, ldW (.pointer (some ⟨b, o, none⟩)) K = some r ∧ r W := ⟨_, rfl, u, hc, hp, h⟩
theorem cI_ok {f : FuncId} {us : List Value} {K : Int → Option WP} (h : Calls Try.prog f us.toArray W fun e W' => ∃ n, e = .returned (.int .i64 n) ∧ ∃ r, K n = some r ∧ r W') : ∃ r, cI f us K = some r ∧ r W := ⟨_, rfl, h⟩
theorem cB_ok {f : FuncId} {us : List Value} {K : Bool → Option WP} (h : Calls Try.prog f us.toArray W fun e W' => ∃ n, e = .returned (.bool n) ∧ ∃ r, K n = some r ∧ r W') : ∃ r, cB f us K = some r ∧ r W := ⟨_, rfl, h⟩
theorem cH_ok {f : FuncId} {us : List Value} {K : Value → Option WP} (h : Calls Try.prog f us.toArray W fun e W' => ∃ u, plain u = true ∧ e = .returned u ∧ ∃ r, K u = some r ∧ r W') : ∃ r, cH f us K = some r ∧ r W := ⟨_, rfl, h⟩
theorem cHI_ok {f : FuncId} {us : List Value} {K : Value → Int → Option WP} (h : Calls Try.prog f us.toArray W fun e W' => ∃ u n, plain u = true ∧ e = .returned (.tuple #[u, .int .i64 n]) ∧ ∃ r, K u n = some r ∧ r W') : ∃ r, cHI f us K = some r ∧ r W := ⟨_, rfl, h⟩
end
def PermRow (D : Nat → Prop) (W : World) (A : Option Addr) (ns : List Nat) : Prop := ∀ i m, ns[i]? = some m → ∃ b o, A = some ⟨b, o, none⟩ ∧ D b ∧
  (∀ f, f < 6 → f ≠ 4 → ∃ x, W.cell? ⟨b, o + i * 6 + f, none⟩ = some (.int .i64 x) ∧ W.frozen? ⟨b, o + i * 6 + f, none⟩ = false) ∧
  ∃ A' c', W.cell? ⟨b, o + i * 6 + 4, none⟩ = some (.slice A' m c') ∧ IntRow W A' m ∧ (0 < m → ∀ b' o', A' = some ⟨b', o', none⟩ → D b')
def tot : List Nat → Int
  | [] => 0
  | n :: l => n + 5 + tot l
theorem tot_nn : ∀ l, 0 ≤ tot l := by
  intro l
  induction l with
  | nil => exact Int.le_refl 0
  | cons n l ih => simp only [tot]; omega
theorem markP_loop {D : Nat → Prop} {W0 : World} {A : Option Addr} {c : Nat} {ns : List Nat} {T : Int} {post : List V → WP} (hrow : PermRow D W0 A ns) (hT : T ≤ 576460752303423488) (hlen : ns.length < 1152921504606846976)
    (hpost : ∀ W', IntsOnly D W0 W' → post [.dat (.int .i64) T] W') :
    ∀ (d i m : Nat) (k : Int) (W : World), i + d = ns.length → d < m → IntsOnly D W0 W → 0 ≤ k → k + tot (ns.drop i) = T →
      ∃ r, WmarkPermitS.l2 post NN m (.slice A ns.length c) k i = some r ∧ r W := by
  intro d
  induction d with
  | zero =>
    intro i m k W hi hm hW hk ht
    obtain ⟨m, rfl⟩ : ∃ m', m = m' + 1 := ⟨m - 1, by omega⟩
    have hin : i = ns.length := by omega
    subst hin
    rw [List.drop_length] at ht
    simp only [tot] at ht
    simp only [WmarkPermitS.l2, WmarkPermitS.g2, lenV, Option.bind_some]
    rw [if_neg (by simp)]
    have : k = T := by omega
    subst this
    exact ⟨_, rfl, hpost W hW⟩
  | succ d ih =>
    intro i m k W hi hm hW hk ht
    obtain ⟨m, rfl⟩ : ∃ m', m = m' + 1 := ⟨m - 1, by omega⟩
    have hin : i < ns.length := by omega
    obtain ⟨b, o, rfl, hD, hf, A', c', hh, hr, hD'⟩ := hrow i _ (List.getElem?_eq_getElem hin)
    rw [List.drop_eq_getElem_cons hin] at ht
    simp only [tot] at ht
    have hnn := tot_nn (ns.drop (i + 1))
    generalize hq : ns[i] = q at hh hr hD' ht
    simp only [WmarkPermitS.l2, WmarkPermitS.g2, lenV, Option.bind_some]
    rw [if_pos (by simpa using hin), ixV, if_pos (by omega)]
    simp only [Option.bind_some, fdV, if_true, show (0 : Nat) < 6 by decide, show (1 : Nat) < 6 by decide, show (2 : Nat) < 6 by decide, show (3 : Nat) < 6 by decide, show (4 : Nat) < 6 by decide, show (5 : Nat) < 6 by decide]
    have e3 : (i : Int).toNat * 6 = i * 6 := by omega
    rw [e3]
    have w1 : IntKind.i64.wrap (k + 1) = k + 1 := w64 (by omega) (by omega)
    have w2 : IntKind.i64.wrap (k + 1 + 1) = k + 1 + 1 := w64 (by omega) (by omega)
    have w3 : IntKind.i64.wrap (k + 1 + 1 + 1) = k + 1 + 1 + 1 := w64 (by omega) (by omega)
    have w4 : IntKind.i64.wrap (k + 1 + 1 + 1 + 1) = k + 1 + 1 + 1 + 1 := w64 (by omega) (by omega)
    simp only [w1, w2, w3, w4]
    have step : ∀ {V : World} (f : Nat) (x : Int), f < 6 → f ≠ 4 → IntsOnly D W0 V → ∃ u, V.cell? ⟨b, o + i * 6 + f, none⟩ = some u ∧ V.frozen? ⟨b, o + i * 6 + f, none⟩ = false ∧ IntsOnly D W0 (V.setCell ⟨b, o + i * 6 + f, none⟩ (.int .i64 x)) := by
      intro V f x h1 h2 h3
      obtain ⟨y, h4, h5⟩ := hf f h1 h2
      obtain ⟨z, h6⟩ := h3.int _ _ h4
      exact ⟨_, h6, (h3.fz _).trans h5, h3.trans (IntsOnly.set h6 hD)⟩
    obtain ⟨u0, c0, f0, hW0⟩ := step (V := W) 0 k (by decide) (by decide) hW
    refine stW_ok c0 f0 ?_
    obtain ⟨u1, c1, f1, hW1⟩ := step 1 (k + 1) (by decide) (by decide) hW0
    refine stW_ok c1 f1 ?_
    obtain ⟨u2, c2, f2, hW2⟩ := step 2 (k + 1 + 1) (by decide) (by decide) hW1
    refine stW_ok c2 f2 ?_
    obtain ⟨u3, c3, f3, hW3⟩ := step 3 (k + 1 + 1 + 1) (by decide) (by decide) hW2
    refine stW_ok c3 f3 ?_
    refine ldW_ok (hW3.rest _ _ hh (fun n h => by cases h)) rfl ?_
    refine cI_ok ((markInt_at (D := D) (c := c') hD' (hr.move hW3) (by omega) (by omega) (by omega)).mono fun e W' hp => ?_)
    obtain ⟨rfl, hW4, _⟩ := hp
    refine ⟨_, rfl, ?_⟩
    obtain ⟨u5, c5, f5, hW5⟩ := step 5 (k + 1 + 1 + 1 + 1 + q) (by decide) (by decide) (hW3.trans hW4)
    refine stW_ok c5 f5 ?_
    rw [w64 (by omega) (by omega), w64 (by omega) (by omega)]
    have e2 : (i : Int) + 1 = ((i + 1 : Nat) : Int) := by omega
    rw [e2]
    exact ih (i + 1) m _ _ (by omega) (by omega) hW5 (by omega) (by omega)
theorem markPermitS_at {D : Nat → Prop} {W : World} {A : Option Addr} {c : Nat} {ns : List Nat} {k : Int} (hrow : PermRow D W A ns) (hk : 0 ≤ k) (hT : k + tot ns ≤ 576460752303423488) (hlen : ns.length < 1152921504606846976) :
    Calls Try.prog 10 #[.slice A ns.length c, .int .i64 k] W fun e W' => e = .returned (.int .i64 (k + tot ns)) ∧ IntsOnly D W W' := by
  let post : List V → WP := fun l W' => l = [.dat (.int .i64) (k + tot ns)] ∧ IntsOnly D W W'
  have hNN := NN_eq
  obtain ⟨r, h1, h2⟩ := markP_loop (c := c) (post := post) hrow hT hlen (fun W' h => ⟨rfl, h⟩) ns.length 0 NN k W (by omega) (by rw [hNN]; omega) (.refl D W) hk rfl
  have h3 : WmarkPermitS.fn post NN (.slice A ns.length c) k = some r := h1
  obtain ⟨code, hcode⟩ := Option.isSome_iff_exists.1 (show Try.f10.body.isSome = true by kernel_rfl)
  have hcd : codeOf Try.f10 = code := by unfold codeOf; rw [hcode]
  have hb := WmarkPermitS.body post NN (.slice A ns.length c) k
  rw [hcd, h3] at hb
  have hE : EnvOk Try.prog EW (fun _ => False) (fun _ => False) := envOk (cs := []) tabok trivial 0 false _ _
  refine (calls_of_execW hE rfl hw_ok Try.func10 hcode WmarkPermitS.keep (ss := [.dat .hdr (.slice A ns.length c), .dat (.int .i64) k]) (vs := [.slice A ns.length c, .int .i64 k]) (.cons (fun _ _ _ _ => mk_hdr rfl) (.cons (fun _ _ _ _ => mk_int k) .nil)) hb h2).mono fun e W' hp => ?_
  obtain ⟨rv, us, ⟨rfl, h4⟩, h6, rfl⟩ := hp
  cases h6 with
  | cons h7 h8 =>
    cases h8
    have h9 := VR_int (h7 (fun _ => .bool false) (fun _ => none) W (fun _ => True))
    subst h9
    exact ⟨rfl, h4⟩
end Go.Ev.Try

namespace Go.Ev.Try
open Go.Proofs Go.Pl
set_option linter.unusedVariables false
def WFnExactFewestPermits.top (post : List V → WP) (aPermits0 : Value) (aFrom1 : Int) (aTo2 : Int) : Option WP :=
  cI 4 [aPermits0, .int .i64 1000000] fun n1 =>
  if (decide ((n1 : Int) < 0)) = true then
    some (post [.dat .bool true])
  else
    cH 6 [aPermits0, .bool false] fun u2 =>
    cHI 5 [u2, .int .i64 aFrom1, .int .i64 aTo2] fun u3 n4 =>
    cH 6 [aPermits0, .bool false] fun u5 =>
    cHI 7 [u5, .int .i64 aFrom1, .int .i64 aTo2] fun u6 n7 =>
    cB 8 [u6, u3] fun b8 =>
    if (!b8) = false then
      if ((n7 : Int) != n4) = true then
        some (post [.dat .bool false])
      else
        cH 6 [aPermits0, .bool false] fun u9 =>
        cB 9 [u5, u9] fun b10 =>
        if (!b10) = true then
          some (post [.dat .bool false])
        else
          cI 10 [u5, .int .i64 101] fun n11 =>
          if (decide ((n11 : Int) < 0)) = false then
            cB 8 [u6, u3] fun b12 =>
            if (!b12) = false then
              if ((n7 : Int) != n4) = true then
                some (post [.dat .bool false])
              else
                cI 11 [u6, .int .i64 101] fun n13 =>
                cI 12 [u6, .int .i64 101] fun n14 =>
                if (decide ((n14 : Int) < 0)) = true then
                  some (post [.dat .bool false])
                else if ((n14 : Int) != n13) = true then
                  some (post [.dat .bool false])
                else
                  cH 6 [aPermits0, .bool true] fun u15 =>
                  cHI 7 [u15, .int .i64 aFrom1, .int .i64 aTo2] fun u16 n17 =>
                  cB 8 [u16, u3] fun b18 =>
                  if (!b18) = false then
                    if ((n17 : Int) != n4) = true then
                      some (post [.dat .bool false])
                    else
                      cI 12 [u6, .int .i64 101] fun n19 =>
                      if (decide ((n19 : Int) < 0)) = true then
                        some (post [.dat .bool false])
                      else if ((n19 : Int) != n13) = true then
                        some (post [.dat .bool false])
                      else
                        some (post [.dat .bool true])
                  else
                    some (post [.dat .bool false])
            else
              some (post [.dat .bool false])
          else
            some (post [.dat .bool false])
    else
      some (post [.dat .bool false])
def WFnExactFewestPermits.fn (post : List V → WP) (n : Nat) (aPermits0 : Value) (aFrom1 : Int) (aTo2 : Int) : Option WP := WFnExactFewestPermits.top post aPermits0 aFrom1 aTo2
def WFnExactFewestPermits.keep (i : Nat) : List Nat := []
set_option maxRecDepth 100000 in
theorem WFnExactFewestPermits.body (post : List V → WP) (n : Nat) (aPermits0 : Value) (aFrom1 : Int) (aTo2 : Int) : execW EW HW WFnExactFewestPermits.keep n (codeOf Try.f3) (kEndW EW Try.f3 post) ⟨[.dat .hdr aPermits0, .dat (.int .i64) aFrom1, .dat (.int .i64) aTo2] ++ List.replicate (Try.f3.ntmps - 3) .gone, []⟩ = WFnExactFewestPermits.fn post n aPermits0 aFrom1 aTo2 := by
  have h : execW EW HW WFnExactFewestPermits.keep n (codeOf Try.f3) (kEndW EW Try.f3 post) ⟨[.dat .hdr aPermits0, .dat (.int .i64) aFrom1, .dat (.int .i64) aTo2] ++ List.replicate (Try.f3.ntmps - 3) .gone, []⟩ = WFnExactFewestPermits.top post aPermits0 aFrom1 aTo2 := by kernel_rfl
  exact h
end Go.Ev.Try

namespace Go.Pl
open Go.Ev
set_option linter.unusedVariables false
noncomputable section
def impl_within.top (n0 : Int) (low1 : Int) (high2 : Int) : Option Bool :=
 if (decide ((low1 : Int) ≤ n0)) = true then
 some (decide ((n0 : Int) ≤ high2))
 else
 some false
def impl_within.fn (n : Nat) (n0 : Int) (low1 : Int) (high2 : Int) : Option Bool := impl_within.top n0 low1 high2
def impl_within.f (n0 : Int) (low1 : Int) (high2 : Int) : Option Bool := impl_within.fn NN n0 low1 high2
end
end Go.Pl

namespace Go.Pl
open Go.Ev
set_option linter.unusedVariables false
noncomputable section
def impl_isDay.top (day0 : Int) : Option Bool :=
 (impl_within.f day0 0 100000).bind fun r1 =>
 some r1
def impl_isDay.fn (n : Nat) (day0 : Int) : Option Bool := impl_isDay.top day0
def impl_isDay.f (day0 : Int) : Option Bool := impl_isDay.fn NN day0
end
end Go.Pl

namespace Go.Pl
open Go.Ev
set_option linter.unusedVariables false
noncomputable section
def impl_areDays.top (from0 : Int) (to1 : Int) : Option Bool :=
 (impl_isDay.f from0).bind fun r1 =>
 if r1 = true then
 (impl_isDay.f to1).bind fun r2 =>
 if r2 = true then
 some (decide ((from0 : Int) ≤ to1))
 else
 some false
 else
 some false
def impl_areDays.fn (n : Nat) (from0 : Int) (to1 : Int) : Option Bool := impl_areDays.top from0 to1
def impl_areDays.f (from0 : Int) (to1 : Int) : Option Bool := impl_areDays.fn NN from0 to1
end
end Go.Pl

namespace Go.Pl
open Go.Ev
set_option linter.unusedVariables false
noncomputable section
def impl_allWithin.g2 (L2 : Int → Int → List Int → Int → Int → Option Bool) (low1 : Int) (high2 : Int) (v9 : List Int) (v10 : Int) (v11 : Int) : Option Bool :=
 if (decide ((v11 : Int) < v10)) = true then
 if (0 : Int) ≤ v11 ∧ (v11 : Int) < v9.length then
 (impl_within.f (v9.getD (v11 : Int).toNat 0) low1 high2).bind fun r1 =>
 if (!r1) = true then
 some false
 else
 L2 low1 high2 v9 v10 (IntKind.i64.wrap (v11 + 1))
 else
 none
 else
 some true
def impl_allWithin.l2 (n : Nat) : Nat → Int → Int → List Int → Int → Int → Option Bool
 | 0 => fun _ _ _ _ _ => none
 | k + 1 => impl_allWithin.g2 (impl_allWithin.l2 n k)
def impl_allWithin.top (I2 : Int → Int → List Int → Int → Int → Option Bool) (list0 : List Int) (low1 : Int) (high2 : Int) : Option Bool :=
 I2 low1 high2 list0 (list0.length : Int) 0
def impl_allWithin.fn (n : Nat) (list0 : List Int) (low1 : Int) (high2 : Int) : Option Bool := impl_allWithin.top (impl_allWithin.l2 n n) list0 low1 high2
def impl_allWithin.f (list0 : List Int) (low1 : Int) (high2 : Int) : Option Bool := impl_allWithin.fn NN list0 low1 high2
end
end Go.Pl

namespace Go.Pl
open Go.Ev
set_option linter.unusedVariables false
noncomputable section
def impl_isCalibre.top (n0 : Int) : Option Bool :=
 (impl_within.f n0 20 300).bind fun r1 =>
 some r1
def impl_isCalibre.fn (n : Nat) (n0 : Int) : Option Bool := impl_isCalibre.top n0
def impl_isCalibre.f (n0 : Int) : Option Bool := impl_isCalibre.fn NN n0
end
end Go.Pl

namespace Go.Pl
open Go.Ev
set_option linter.unusedVariables false
noncomputable section
def impl_IsPermit.g4 (L4 : Int → (Int × Int × Int × Int × List Int × Int) → Option Bool) (i3 : Int) (p1 : Int × Int × Int × Int × List Int × Int) : Option Bool :=
 if (decide ((i3 : Int) < (p1.2.2.2.2.1.length : Int))) = true then
 if (0 : Int) ≤ (IntKind.i64.wrap (i3 - 1)) ∧ ((IntKind.i64.wrap (i3 - 1)) : Int) < p1.2.2.2.2.1.length then
 if (0 : Int) ≤ i3 ∧ (i3 : Int) < p1.2.2.2.2.1.length then
 if (decide (((p1.2.2.2.2.1.getD (i3 : Int).toNat 0) : Int) ≤ (p1.2.2.2.2.1.getD ((IntKind.i64.wrap (i3 - 1)) : Int).toNat 0))) = true then
 some false
 else
 L4 (IntKind.i64.wrap (i3 + 1)) p1
 else
 none
 else
 none
 else
 some true
def impl_IsPermit.l4 (n : Nat) : Nat → Int → (Int × Int × Int × Int × List Int × Int) → Option Bool
 | 0 => fun _ _ => none
 | k + 1 => impl_IsPermit.g4 (impl_IsPermit.l4 n k)
def impl_IsPermit.top (I4 : Int → (Int × Int × Int × Int × List Int × Int) → Option Bool) (p0 : Int × Int × Int × Int × List Int × Int) : Option Bool :=
 (impl_isDay.f p0.1).bind fun r1 =>
 if (!r1) = false then
 (impl_isDay.f p0.2.1).bind fun r2 =>
 if (!r2) = false then
 if (decide ((p0.2.1 : Int) < p0.1)) = false then
 (impl_within.f p0.2.2.1 0 1000000000).bind fun r3 =>
 if (!r3) = false then
 (impl_isCalibre.f p0.2.2.2.1).bind fun r4 =>
 if (!r4) = false then
 (impl_within.f p0.2.2.2.2.2 0 3).bind fun r5 =>
 if (!r5) = false then
 (impl_allWithin.f p0.2.2.2.2.1 0 3).bind fun r6 =>
 if (!r6) = true then
 some false
 else
 I4 1 p0
 else
 some false
 else
 some false
 else
 some false
 else
 some false
 else
 some false
 else
 some false
def impl_IsPermit.fn (n : Nat) (p0 : Int × Int × Int × Int × List Int × Int) : Option Bool := impl_IsPermit.top (impl_IsPermit.l4 n n) p0
def impl_IsPermit.f (p0 : Int × Int × Int × Int × List Int × Int) : Option Bool := impl_IsPermit.fn NN p0
end
end Go.Pl

namespace Go.Pl
open Go.Ev
set_option linter.unusedVariables false
noncomputable section
def impl_arePermits.g4 (L4 : (List (Int × Int × Int × Int × List Int × Int)) → Int → Int → Option Bool) (v8 : List (Int × Int × Int × Int × List Int × Int)) (v9 : Int) (v10 : Int) : Option Bool :=
 if (decide ((v10 : Int) < v9)) = true then
 if (0 : Int) ≤ v10 ∧ (v10 : Int) < v8.length then
 (impl_IsPermit.f (v8.getD (v10 : Int).toNat (0, (0, (0, (0, ([], 0))))))).bind fun r1 =>
 if (!r1) = true then
 some false
 else
 L4 v8 v9 (IntKind.i64.wrap (v10 + 1))
 else
 none
 else
 some true
def impl_arePermits.l4 (n : Nat) : Nat → (List (Int × Int × Int × Int × List Int × Int)) → Int → Int → Option Bool
 | 0 => fun _ _ _ => none
 | k + 1 => impl_arePermits.g4 (impl_arePermits.l4 n k)
def impl_arePermits.top (I4 : (List (Int × Int × Int × Int × List Int × Int)) → Int → Int → Option Bool) (permits0 : List (Int × Int × Int × Int × List Int × Int)) : Option Bool :=
 if (decide ((8 : Int) < (permits0.length : Int))) = true then
 some false
 else
 I4 permits0 (permits0.length : Int) 0
def impl_arePermits.fn (n : Nat) (permits0 : List (Int × Int × Int × Int × List Int × Int)) : Option Bool := impl_arePermits.top (impl_arePermits.l4 n n) permits0
def impl_arePermits.f (permits0 : List (Int × Int × Int × Int × List Int × Int)) : Option Bool := impl_arePermits.fn NN permits0
end
end Go.Pl

namespace Go.Pl
open Go.Ev
set_option linter.unusedVariables false
noncomputable section
def impl_covers.g4 (L1 : (List (Int × Int × Int × Int × List Int × Int)) → Int → Int → Option Bool) (L4 : (List (Int × Int × Int × Int × List Int × Int)) → Int → Int → Int → (List (Int × Int × Int × Int × List Int × Int)) → Int → Int → Option Bool) (permits0 : List (Int × Int × Int × Int × List Int × Int)) (from1 : Int) (to2 : Int) (next7 : Int) (v14 : List (Int × Int × Int × Int × List Int × Int)) (v15 : Int) (v16 : Int) : Option Bool :=
 if (decide ((v16 : Int) < v15)) = true then
 if (0 : Int) ≤ v16 ∧ (v16 : Int) < v14.length then
 (impl_within.f from1 ((v14.getD (v16 : Int).toNat (0, (0, (0, (0, ([], 0)))))).1) (((v14.getD (v16 : Int).toNat (0, (0, (0, (0, ([], 0)))))).2).1)).bind fun r1 =>
 if r1 = true then
 L4 permits0 from1 to2 (if (IntKind.i64.wrap ((((v14.getD (v16 : Int).toNat (0, (0, (0, (0, ([], 0)))))).2).1) + 1)) > next7 then (IntKind.i64.wrap ((((v14.getD (v16 : Int).toNat (0, (0, (0, (0, ([], 0)))))).2).1) + 1)) else next7) v14 v15 (IntKind.i64.wrap (v16 + 1))
 else
 L4 permits0 from1 to2 next7 v14 v15 (IntKind.i64.wrap (v16 + 1))
 else
 none
 else if ((next7 : Int) == from1) = true then
 some false
 else
 L1 permits0 next7 to2
def impl_covers.l4 (n : Nat) (L1 : (List (Int × Int × Int × Int × List Int × Int)) → Int → Int → Option Bool) : Nat → (List (Int × Int × Int × Int × List Int × Int)) → Int → Int → Int → (List (Int × Int × Int × Int × List Int × Int)) → Int → Int → Option Bool
 | 0 => fun _ _ _ _ _ _ _ => none
 | k + 1 => impl_covers.g4 L1 (impl_covers.l4 n L1 k)
def impl_covers.g1 (I4 : (List (Int × Int × Int × Int × List Int × Int)) → Int → Int → Int → (List (Int × Int × Int × Int × List Int × Int)) → Int → Int → Option Bool) (L1 : (List (Int × Int × Int × Int × List Int × Int)) → Int → Int → Option Bool) (permits0 : List (Int × Int × Int × Int × List Int × Int)) (from1 : Int) (to2 : Int) : Option Bool :=
 if (decide ((from1 : Int) ≤ to2)) = true then
 I4 permits0 from1 to2 from1 permits0 (permits0.length : Int) 0
 else
 some true
def impl_covers.l1 (n : Nat) : Nat → (List (Int × Int × Int × Int × List Int × Int)) → Int → Int → Option Bool
 | 0 => fun _ _ _ => none
 | k + 1 => impl_covers.g1 (impl_covers.l4 n (impl_covers.l1 n k) n) (impl_covers.l1 n k)
def impl_covers.top (I1 : (List (Int × Int × Int × Int × List Int × Int)) → Int → Int → Option Bool) (permits0 : List (Int × Int × Int × Int × List Int × Int)) (from1 : Int) (to2 : Int) : Option Bool :=
 I1 permits0 from1 to2
def impl_covers.fn (n : Nat) (permits0 : List (Int × Int × Int × Int × List Int × Int)) (from1 : Int) (to2 : Int) : Option Bool := impl_covers.top (impl_covers.l1 n n) permits0 from1 to2
def impl_covers.f (permits0 : List (Int × Int × Int × Int × List Int × Int)) (from1 : Int) (to2 : Int) : Option Bool := impl_covers.fn NN permits0 from1 to2
end
end Go.Pl

namespace Go.Pl
open Go.Ev
set_option linter.unusedVariables false
noncomputable section
def impl_listsOf.g1000010 (S : Int → Int → Int → Option (List (List Int))) (L5 : Int → Int → Int → List (List Int) → Option (List (List Int))) (L8 : Int → Int → Int → Int → Int → List (List Int) → List (List Int) → Option (List (List Int))) (L1000010 : Int → Int → Int → List Int → Int → Int → List (List Int) → List (List Int) → Option (List (List Int))) (n0 : Int) (more2 : Int) (i8 : Int) (rest10 : List Int) (v26 : Int) (v27 : Int) (out7 : List (List Int)) (v25 : List (List Int)) : Option (List (List Int)) :=
 if ([i8]).length + rest10.length < room 8 then
 if out7.length + ([([i8]) ++ rest10]).length < room 24 then
 L8 n0 more2 i8 v26 (IntKind.i64.wrap (v27 + 1)) (out7 ++ ([([i8]) ++ rest10])) v25
 else
 none
 else
 none
def impl_listsOf.l1000010 (S : Int → Int → Int → Option (List (List Int))) (n : Nat) (L5 : Int → Int → Int → List (List Int) → Option (List (List Int))) (L8 : Int → Int → Int → Int → Int → List (List Int) → List (List Int) → Option (List (List Int))) : Nat → Int → Int → Int → List Int → Int → Int → List (List Int) → List (List Int) → Option (List (List Int))
 | 0 => fun _ _ _ _ _ _ _ _ => none
 | k + 1 => (impl_listsOf.g1000010 S) L5 L8 ((impl_listsOf.l1000010 S) n L5 L8 k)
theorem impl_listsOf.c1000010 (S : Int → Int → Int → Option (List (List Int))) {n : Nat} (h : 0 < n) (L5 : Int → Int → Int → List (List Int) → Option (List (List Int))) (L8 : Int → Int → Int → Int → Int → List (List Int) → List (List Int) → Option (List (List Int))) : (impl_listsOf.l1000010 S) n L5 L8 n = (impl_listsOf.g1000010 S) L5 L8 ((impl_listsOf.l1000010 S) n L5 L8 (n - 1)) := by
  cases n with
  | zero => exact absurd h (Nat.lt_irrefl 0)
  | succ n => rfl
def impl_listsOf.g8 (S : Int → Int → Int → Option (List (List Int))) (I1000010 : Int → Int → Int → List Int → Int → Int → List (List Int) → List (List Int) → Option (List (List Int))) (L5 : Int → Int → Int → List (List Int) → Option (List (List Int))) (L8 : Int → Int → Int → Int → Int → List (List Int) → List (List Int) → Option (List (List Int))) (n0 : Int) (more2 : Int) (i8 : Int) (v26 : Int) (v27 : Int) (out7 : List (List Int)) (v25 : List (List Int)) : Option (List (List Int)) :=
 if (decide ((v27 : Int) < v26)) = true then
 if (0 : Int) ≤ v27 ∧ (v27 : Int) < v25.length then
 I1000010 n0 more2 i8 (v25.getD (v27 : Int).toNat []) v26 v27 out7 v25
 else
 none
 else
 L5 n0 more2 (IntKind.i64.wrap (i8 + 1)) out7
def impl_listsOf.l8 (S : Int → Int → Int → Option (List (List Int))) (n : Nat) (L5 : Int → Int → Int → List (List Int) → Option (List (List Int))) : Nat → Int → Int → Int → Int → Int → List (List Int) → List (List Int) → Option (List (List Int))
 | 0 => fun _ _ _ _ _ _ _ => none
 | k + 1 => (impl_listsOf.g8 S) ((impl_listsOf.l1000010 S) n L5 ((impl_listsOf.l8 S) n L5 k) n) L5 ((impl_listsOf.l8 S) n L5 k)
def impl_listsOf.g5 (S : Int → Int → Int → Option (List (List Int))) (I8 : Int → Int → Int → Int → Int → List (List Int) → List (List Int) → Option (List (List Int))) (L5 : Int → Int → Int → List (List Int) → Option (List (List Int))) (n0 : Int) (more2 : Int) (i8 : Int) (out7 : List (List Int)) : Option (List (List Int)) :=
 if (decide ((i8 : Int) < n0)) = true then
 (S n0 (IntKind.i64.wrap (i8 + 1)) (IntKind.i64.wrap (more2 - 1))).bind fun r1 =>
 I8 n0 more2 i8 (r1.length : Int) 0 out7 r1
 else
 some out7
def impl_listsOf.l5 (S : Int → Int → Int → Option (List (List Int))) (n : Nat) : Nat → Int → Int → Int → List (List Int) → Option (List (List Int))
 | 0 => fun _ _ _ _ => none
 | k + 1 => (impl_listsOf.g5 S) ((impl_listsOf.l8 S) n ((impl_listsOf.l5 S) n k) n) ((impl_listsOf.l5 S) n k)
def impl_listsOf.top (S : Int → Int → Int → Option (List (List Int))) (I5 : Int → Int → Int → List (List Int) → Option (List (List Int))) (n0 : Int) (from1 : Int) (more2 : Int) : Option (List (List Int)) :=
 if ((more2 : Int) == 0) = true then
 some ([[]])
 else
 I5 n0 more2 from1 []
def impl_listsOf.fn (S : Int → Int → Int → Option (List (List Int))) (n : Nat) (n0 : Int) (from1 : Int) (more2 : Int) : Option (List (List Int)) := (impl_listsOf.top S) ((impl_listsOf.l5 S) n n) n0 from1 more2
def impl_listsOf.rc : Nat → Int → Int → Int → Option (List (List Int))
 | 0 => fun _ _ _ => none
 | k + 1 => (impl_listsOf.fn (impl_listsOf.rc k)) NN
def impl_listsOf.f (n0 : Int) (from1 : Int) (more2 : Int) : Option (List (List Int)) := impl_listsOf.rc NN n0 from1 more2
end
end Go.Pl

namespace Go.Pl
open Go.Ev
set_option linter.unusedVariables false
noncomputable section
def impl_FewestPermits.g13 (L6 : (List (Int × Int × Int × Int × List Int × Int)) → Int → Int → Int → Option (List Int × Int)) (L9 : (List (Int × Int × Int × Int × List Int × Int)) → Int → Int → Int → Int → Int → List (List Int) → Option (List Int × Int)) (L13 : (List (Int × Int × Int × Int × List Int × Int)) → Int → Int → Int → List Int → Int → Int → List Int → Int → Int → (List (Int × Int × Int × Int × List Int × Int)) → List (List Int) → Option (List Int × Int)) (permits0 : List (Int × Int × Int × Int × List Int × Int)) (from1 : Int) (to2 : Int) (more8 : Int) (list10 : List Int) (v31 : Int) (v32 : Int) (v36 : List Int) (v37 : Int) (v38 : Int) (chosen11 : List (Int × Int × Int × Int × List Int × Int)) (v30 : List (List Int)) : Option (List Int × Int) :=
 if (decide ((v38 : Int) < v37)) = true then
 if (0 : Int) ≤ v38 ∧ (v38 : Int) < v36.length then
 if (0 : Int) ≤ (v36.getD (v38 : Int).toNat 0) ∧ ((v36.getD (v38 : Int).toNat 0) : Int) < permits0.length then
 if chosen11.length + ([permits0.getD ((v36.getD (v38 : Int).toNat 0) : Int).toNat (0, (0, (0, (0, ([], 0)))))]).length < room 64 then
 L13 permits0 from1 to2 more8 list10 v31 v32 v36 v37 (IntKind.i64.wrap (v38 + 1)) (chosen11 ++ ([permits0.getD ((v36.getD (v38 : Int).toNat 0) : Int).toNat (0, (0, (0, (0, ([], 0)))))])) v30
 else
 none
 else
 none
 else
 none
 else
 (impl_covers.f chosen11 from1 to2).bind fun r4 =>
 if r4 = true then
 some (list10, 0)
 else
 L9 permits0 from1 to2 more8 v31 (IntKind.i64.wrap (v32 + 1)) v30
def impl_FewestPermits.l13 (n : Nat) (L6 : (List (Int × Int × Int × Int × List Int × Int)) → Int → Int → Int → Option (List Int × Int)) (L9 : (List (Int × Int × Int × Int × List Int × Int)) → Int → Int → Int → Int → Int → List (List Int) → Option (List Int × Int)) : Nat → (List (Int × Int × Int × Int × List Int × Int)) → Int → Int → Int → List Int → Int → Int → List Int → Int → Int → (List (Int × Int × Int × Int × List Int × Int)) → List (List Int) → Option (List Int × Int)
 | 0 => fun _ _ _ _ _ _ _ _ _ _ _ _ => none
 | k + 1 => impl_FewestPermits.g13 L6 L9 (impl_FewestPermits.l13 n L6 L9 k)
def impl_FewestPermits.g9 (I13 : (List (Int × Int × Int × Int × List Int × Int)) → Int → Int → Int → List Int → Int → Int → List Int → Int → Int → (List (Int × Int × Int × Int × List Int × Int)) → List (List Int) → Option (List Int × Int)) (L6 : (List (Int × Int × Int × Int × List Int × Int)) → Int → Int → Int → Option (List Int × Int)) (L9 : (List (Int × Int × Int × Int × List Int × Int)) → Int → Int → Int → Int → Int → List (List Int) → Option (List Int × Int)) (permits0 : List (Int × Int × Int × Int × List Int × Int)) (from1 : Int) (to2 : Int) (more8 : Int) (v31 : Int) (v32 : Int) (v30 : List (List Int)) : Option (List Int × Int) :=
 if (decide ((v32 : Int) < v31)) = true then
 if (0 : Int) ≤ v32 ∧ (v32 : Int) < v30.length then
 I13 permits0 from1 to2 more8 (v30.getD (v32 : Int).toNat []) v31 v32 (v30.getD (v32 : Int).toNat []) ((v30.getD (v32 : Int).toNat []).length : Int) 0 [] v30
 else
 none
 else
 L6 permits0 from1 to2 (IntKind.i64.wrap (more8 + 1))
def impl_FewestPermits.l9 (n : Nat) (L6 : (List (Int × Int × Int × Int × List Int × Int)) → Int → Int → Int → Option (List Int × Int)) : Nat → (List (Int × Int × Int × Int × List Int × Int)) → Int → Int → Int → Int → Int → List (List Int) → Option (List Int × Int)
 | 0 => fun _ _ _ _ _ _ _ => none
 | k + 1 => impl_FewestPermits.g9 (impl_FewestPermits.l13 n L6 (impl_FewestPermits.l9 n L6 k) n) L6 (impl_FewestPermits.l9 n L6 k)
def impl_FewestPermits.g6 (I9 : (List (Int × Int × Int × Int × List Int × Int)) → Int → Int → Int → Int → Int → List (List Int) → Option (List Int × Int)) (L6 : (List (Int × Int × Int × Int × List Int × Int)) → Int → Int → Int → Option (List Int × Int)) (permits0 : List (Int × Int × Int × Int × List Int × Int)) (from1 : Int) (to2 : Int) (more8 : Int) : Option (List Int × Int) :=
 if (decide ((more8 : Int) ≤ (permits0.length : Int))) = true then
 (impl_listsOf.f (permits0.length : Int) 0 more8).bind fun r3 =>
 I9 permits0 from1 to2 more8 (r3.length : Int) 0 r3
 else
 some ([], 4)
def impl_FewestPermits.l6 (n : Nat) : Nat → (List (Int × Int × Int × Int × List Int × Int)) → Int → Int → Int → Option (List Int × Int)
 | 0 => fun _ _ _ _ => none
 | k + 1 => impl_FewestPermits.g6 (impl_FewestPermits.l9 n (impl_FewestPermits.l6 n k) n) (impl_FewestPermits.l6 n k)
def impl_FewestPermits.top (I6 : (List (Int × Int × Int × Int × List Int × Int)) → Int → Int → Int → Option (List Int × Int)) (permits0 : List (Int × Int × Int × Int × List Int × Int)) (from1 : Int) (to2 : Int) : Option (List Int × Int) :=
 (impl_arePermits.f permits0).bind fun r1 =>
 if (!r1) = true then
 some ([], 1)
 else
 (impl_areDays.f from1 to2).bind fun r2 =>
 if (!r2) = true then
 some ([], 2)
 else
 I6 permits0 from1 to2 1
def impl_FewestPermits.fn (n : Nat) (permits0 : List (Int × Int × Int × Int × List Int × Int)) (from1 : Int) (to2 : Int) : Option (List Int × Int) := impl_FewestPermits.top (impl_FewestPermits.l6 n n) permits0 from1 to2
def impl_FewestPermits.f (permits0 : List (Int × Int × Int × Int × List Int × Int)) (from1 : Int) (to2 : Int) : Option (List Int × Int) := impl_FewestPermits.fn NN permits0 from1 to2
end
end Go.Pl

namespace Go.Ev.Try
open Go.Proofs Go.Pl
set_option linter.unusedVariables false
noncomputable section
def impl_within.con : Con := { ps := [(.val, (.int .i64)), (.val, (.int .i64)), (.val, (.int .i64))], rs := [(.val, .bool)], F := fun x => impl_within.f x.1 x.2.1 x.2.2 }
def impl_within.cs : List (FuncId × Con) := []
def impl_within.E : Env := envOf tab impl_within.cs 0 false
def impl_within.keep (i : Nat) : List Nat := []
set_option maxRecDepth 100000 in
theorem impl_within.body (n : Nat) (x : Int × Int × Int) : bodyF impl_within.E impl_within.keep n Try.f33 impl_within.con x = impl_within.fn n x.1 x.2.1 x.2.2 := by
 have h : bodyF impl_within.E impl_within.keep n Try.f33 impl_within.con x = impl_within.top x.1 x.2.1 x.2.2 := by kernel_rfl
 exact h
set_option maxRecDepth 100000 in
theorem impl_within.good : Good Try.prog 33 impl_within.con :=
 good_of tabok (cs := impl_within.cs) trivial 0 false (fn := Try.f33) Try.func33 rfl (by decide) (by simp [impl_within.con]) impl_within.keep NN (fun _ => rfl) (fun x => impl_within.body NN x)
end
end Go.Ev.Try

namespace Go.Ev.Try
open Go.Proofs Go.Pl
set_option linter.unusedVariables false
noncomputable section
def impl_isDay.con : Con := { ps := [(.val, (.int .i64))], rs := [(.val, .bool)], F := fun x => impl_isDay.f x }
def impl_isDay.cs : List (FuncId × Con) := [(33, impl_within.con)]
def impl_isDay.E : Env := envOf tab impl_isDay.cs 0 false
def impl_isDay.keep (i : Nat) : List Nat := []
set_option maxRecDepth 100000 in
theorem impl_isDay.body (n : Nat) (x : Int) : bodyF impl_isDay.E impl_isDay.keep n Try.f32 impl_isDay.con x = impl_isDay.fn n x := by
 have h : bodyF impl_isDay.E impl_isDay.keep n Try.f32 impl_isDay.con x = impl_isDay.top x := by kernel_rfl
 exact h
set_option maxRecDepth 100000 in
theorem impl_isDay.good : Good Try.prog 32 impl_isDay.con :=
 good_of tabok (cs := impl_isDay.cs) ⟨impl_within.good, trivial⟩ 0 false (fn := Try.f32) Try.func32 rfl (by decide) (by simp [impl_isDay.con]) impl_isDay.keep NN (fun _ => rfl) (fun x => impl_isDay.body NN x)
end
end Go.Ev.Try

namespace Go.Ev.Try
open Go.Proofs Go.Pl
set_option linter.unusedVariables false
noncomputable section
def impl_isCalibre.con : Con := { ps := [(.val, (.int .i64))], rs := [(.val, .bool)], F := fun x => impl_isCalibre.f x }
def impl_isCalibre.cs : List (FuncId × Con) := [(33, impl_within.con)]
def impl_isCalibre.E : Env := envOf tab impl_isCalibre.cs 0 false
def impl_isCalibre.keep (i : Nat) : List Nat := []
set_option maxRecDepth 100000 in
theorem impl_isCalibre.body (n : Nat) (x : Int) : bodyF impl_isCalibre.E impl_isCalibre.keep n Try.f37 impl_isCalibre.con x = impl_isCalibre.fn n x := by
 have h : bodyF impl_isCalibre.E impl_isCalibre.keep n Try.f37 impl_isCalibre.con x = impl_isCalibre.top x := by kernel_rfl
 exact h
set_option maxRecDepth 100000 in
theorem impl_isCalibre.good : Good Try.prog 37 impl_isCalibre.con :=
 good_of tabok (cs := impl_isCalibre.cs) ⟨impl_within.good, trivial⟩ 0 false (fn := Try.f37) Try.func37 rfl (by decide) (by simp [impl_isCalibre.con]) impl_isCalibre.keep NN (fun _ => rfl) (fun x => impl_isCalibre.body NN x)
end
end Go.Ev.Try

namespace Go.Ev.Try
open Go.Proofs Go.Pl
set_option linter.unusedVariables false
noncomputable section
def impl_allWithin.st2 (low1 : Int) (high2 : Int) (v9 : List Int) (v10 : Int) (v11 : Int) : St := ⟨[.gone, .dat (.int .i64) low1, .dat (.int .i64) high2, .gone, .gone, .gone, .gone, .gone, .gone, .dat (.sl 2 (.int .i64)) v9, .dat (.int .i64) v10, .dat (.int .i64) v11, .gone, .gone, .gone, .gone, .gone, .gone, .gone, .gone, .gone], []⟩
def impl_allWithin.con : Con := { ps := [(.val, (.sl 2 (.int .i64))), (.val, (.int .i64)), (.val, (.int .i64))], rs := [(.val, .bool)], F := fun x => impl_allWithin.f x.1 x.2.1 x.2.2 }
def impl_allWithin.cs : List (FuncId × Con) := [(33, impl_within.con)]
def impl_allWithin.E : Env := envOf tab impl_allWithin.cs 0 false
def impl_allWithin.keep (i : Nat) : List Nat := if i = 2 then [1, 2, 9, 10, 11] else []
def impl_allWithin.at2 (n : Nat) (x : List Int × Int × Int) : Code × (Ex → St → Option (Bool)) := ctx impl_allWithin.E impl_allWithin.keep n [.snd, .fst, .snd, .blk] (codeOf Try.f38) (kEnd impl_allWithin.E Try.f38 impl_allWithin.con x)
def impl_allWithin.LN2 (n : Nat) (x : List Int × Int × Int) : Nat → St → Option (Bool) := loopN (exec impl_allWithin.E impl_allWithin.keep n (bodyOf (impl_allWithin.at2 n x).1)) (St.norm 0 (impl_allWithin.keep 2)) (impl_allWithin.at2 n x).2
set_option maxRecDepth 100000 in
theorem impl_allWithin.lem2 (n : Nat) (x : List Int × Int × Int) : ∀ (k : Nat) (low1 : Int) (high2 : Int) (v9 : List Int) (v10 : Int) (v11 : Int), impl_allWithin.LN2 n x k (impl_allWithin.st2 low1 high2 v9 v10 v11) = impl_allWithin.l2 n k low1 high2 v9 v10 v11 := by
 intro k
 induction k with
 | zero => intro low1 high2 v9 v10 v11; rfl
 | succ k ih =>
  intro low1 high2 v9 v10 v11
  have h : impl_allWithin.LN2 n x (k + 1) (impl_allWithin.st2 low1 high2 v9 v10 v11) = impl_allWithin.g2 (fun low1 high2 v9 v10 v11 => impl_allWithin.LN2 n x k (impl_allWithin.st2 low1 high2 v9 v10 v11)) low1 high2 v9 v10 v11 := by kernel_rfl
  rw [h]
  simp only [ih]
  rfl
set_option maxRecDepth 100000 in
theorem impl_allWithin.body (n : Nat) (x : List Int × Int × Int) : bodyF impl_allWithin.E impl_allWithin.keep n Try.f38 impl_allWithin.con x = impl_allWithin.fn n x.1 x.2.1 x.2.2 := by
 have h : bodyF impl_allWithin.E impl_allWithin.keep n Try.f38 impl_allWithin.con x = impl_allWithin.top (fun low1 high2 v9 v10 v11 => impl_allWithin.LN2 n x n (impl_allWithin.st2 low1 high2 v9 v10 v11)) x.1 x.2.1 x.2.2 := by kernel_rfl
 rw [h]
 simp only [impl_allWithin.lem2]
 rfl
set_option maxRecDepth 100000 in
theorem impl_allWithin.good : Good Try.prog 38 impl_allWithin.con :=
 good_of tabok (cs := impl_allWithin.cs) ⟨impl_within.good, trivial⟩ 0 false (fn := Try.f38) Try.func38 rfl (by decide) (by simp [impl_allWithin.con]) impl_allWithin.keep NN (fun _ => rfl) (fun x => impl_allWithin.body NN x)
end
end Go.Ev.Try

namespace Go.Ev.Try
open Go.Proofs Go.Pl
set_option linter.unusedVariables false
noncomputable section
def impl_IsPermit.st4 (i3 : Int) (p1 : Int × Int × Int × Int × List Int × Int) : St := ⟨[.gone, .ptr 0 [], .gone, .dat (.int .i64) i3, .gone, .gone, .gone, .gone, .gone, .gone, .gone, .gone, .gone, .gone, .gone, .gone, .gone, .gone, .gone, .gone, .gone, .gone, .gone, .gone, .gone, .gone, .gone, .gone, .gone, .gone, .gone, .gone, .gone, .gone, .gone, .gone, .gone, .gone, .gone, .gone, .gone, .gone, .gone, .gone, .gone, .gone, .gone, .gone, .gone, .gone, .gone, .gone, .gone, .gone, .gone, .gone, .gone, .gone, .gone, .gone, .gone, .gone, .gone, .gone], [.box 42 (.pair (.int .i64) (.pair (.int .i64) (.pair (.int .i64) (.pair (.int .i64) (.pair (.sl 2 (.int .i64)) (.int .i64)))))) (.dat (.pair (.int .i64) (.pair (.int .i64) (.pair (.int .i64) (.pair (.int .i64) (.pair (.sl 2 (.int .i64)) (.int .i64)))))) p1)]⟩
def impl_IsPermit.con : Con := { ps := [(.val, (.pair (.int .i64) (.pair (.int .i64) (.pair (.int .i64) (.pair (.int .i64) (.pair (.sl 2 (.int .i64)) (.int .i64)))))))], rs := [(.val, .bool)], F := fun x => impl_IsPermit.f x }
def impl_IsPermit.cs : List (FuncId × Con) := [(32, impl_isDay.con), (33, impl_within.con), (37, impl_isCalibre.con), (38, impl_allWithin.con)]
def impl_IsPermit.E : Env := envOf tab impl_IsPermit.cs 0 false
def impl_IsPermit.keep (i : Nat) : List Nat := if i = 4 then [1, 3] else []
def impl_IsPermit.at4 (n : Nat) (x : Int × Int × Int × Int × List Int × Int) : Code × (Ex → St → Option (Bool)) := ctx impl_IsPermit.E impl_IsPermit.keep n [.snd, .snd, .fst, .snd, .blk] (codeOf Try.f31) (kEnd impl_IsPermit.E Try.f31 impl_IsPermit.con x)
def impl_IsPermit.LN4 (n : Nat) (x : Int × Int × Int × Int × List Int × Int) : Nat → St → Option (Bool) := loopN (exec impl_IsPermit.E impl_IsPermit.keep n (bodyOf (impl_IsPermit.at4 n x).1)) (St.norm 0 (impl_IsPermit.keep 4)) (impl_IsPermit.at4 n x).2
set_option maxRecDepth 100000 in
theorem impl_IsPermit.lem4 (n : Nat) (x : Int × Int × Int × Int × List Int × Int) : ∀ (k : Nat) (i3 : Int) (p1 : Int × Int × Int × Int × List Int × Int), impl_IsPermit.LN4 n x k (impl_IsPermit.st4 i3 p1) = impl_IsPermit.l4 n k i3 p1 := by
 intro k
 induction k with
 | zero => intro i3 p1; rfl
 | succ k ih =>
  intro i3 p1
  have h : impl_IsPermit.LN4 n x (k + 1) (impl_IsPermit.st4 i3 p1) = impl_IsPermit.g4 (fun i3 p1 => impl_IsPermit.LN4 n x k (impl_IsPermit.st4 i3 p1)) i3 p1 := by kernel_rfl
  rw [h]
  simp only [ih]
  rfl
set_option maxRecDepth 100000 in
theorem impl_IsPermit.body (n : Nat) (x : Int × Int × Int × Int × List Int × Int) : bodyF impl_IsPermit.E impl_IsPermit.keep n Try.f31 impl_IsPermit.con x = impl_IsPermit.fn n x := by
 have h : bodyF impl_IsPermit.E impl_IsPermit.keep n Try.f31 impl_IsPermit.con x = impl_IsPermit.top (fun i3 p1 => impl_IsPermit.LN4 n x n (impl_IsPermit.st4 i3 p1)) x := by kernel_rfl
 rw [h]
 simp only [impl_IsPermit.lem4]
 rfl
set_option maxRecDepth 100000 in
theorem impl_IsPermit.good : Good Try.prog 31 impl_IsPermit.con :=
 good_of tabok (cs := impl_IsPermit.cs) ⟨impl_isDay.good, impl_within.good, impl_isCalibre.good, impl_allWithin.good, trivial⟩ 0 false (fn := Try.f31) Try.func31 rfl (by decide) (by simp [impl_IsPermit.con]) impl_IsPermit.keep NN (fun _ => rfl) (fun x => impl_IsPermit.body NN x)
end
end Go.Ev.Try

namespace Go.Ev.Try
open Go.Proofs Go.Pl
set_option linter.unusedVariables false
noncomputable section
def impl_arePermits.st4 (v8 : List (Int × Int × Int × Int × List Int × Int)) (v9 : Int) (v10 : Int) : St := ⟨[.gone, .gone, .gone, .gone, .gone, .gone, .gone, .gone, .dat (.sl 42 (.pair (.int .i64) (.pair (.int .i64) (.pair (.int .i64) (.pair (.int .i64) (.pair (.sl 2 (.int .i64)) (.int .i64))))))) v8, .dat (.int .i64) v9, .dat (.int .i64) v10, .gone, .gone, .gone, .gone, .gone, .gone, .gone], []⟩
def impl_arePermits.con : Con := { ps := [(.val, (.sl 42 (.pair (.int .i64) (.pair (.int .i64) (.pair (.int .i64) (.pair (.int .i64) (.pair (.sl 2 (.int .i64)) (.int .i64))))))))], rs := [(.val, .bool)], F := fun x => impl_arePermits.f x }
def impl_arePermits.cs : List (FuncId × Con) := [(31, impl_IsPermit.con)]
def impl_arePermits.E : Env := envOf tab impl_arePermits.cs 0 false
def impl_arePermits.keep (i : Nat) : List Nat := if i = 4 then [8, 9, 10] else []
def impl_arePermits.at4 (n : Nat) (x : List (Int × Int × Int × Int × List Int × Int)) : Code × (Ex → St → Option (Bool)) := ctx impl_arePermits.E impl_arePermits.keep n [.snd, .snd, .fst, .snd, .blk] (codeOf Try.f20) (kEnd impl_arePermits.E Try.f20 impl_arePermits.con x)
def impl_arePermits.LN4 (n : Nat) (x : List (Int × Int × Int × Int × List Int × Int)) : Nat → St → Option (Bool) := loopN (exec impl_arePermits.E impl_arePermits.keep n (bodyOf (impl_arePermits.at4 n x).1)) (St.norm 0 (impl_arePermits.keep 4)) (impl_arePermits.at4 n x).2
set_option maxRecDepth 100000 in
theorem impl_arePermits.lem4 (n : Nat) (x : List (Int × Int × Int × Int × List Int × Int)) : ∀ (k : Nat) (v8 : List (Int × Int × Int × Int × List Int × Int)) (v9 : Int) (v10 : Int), impl_arePermits.LN4 n x k (impl_arePermits.st4 v8 v9 v10) = impl_arePermits.l4 n k v8 v9 v10 := by
 intro k
 induction k with
 | zero => intro v8 v9 v10; rfl
 | succ k ih =>
  intro v8 v9 v10
  have h : impl_arePermits.LN4 n x (k + 1) (impl_arePermits.st4 v8 v9 v10) = impl_arePermits.g4 (fun v8 v9 v10 => impl_arePermits.LN4 n x k (impl_arePermits.st4 v8 v9 v10)) v8 v9 v10 := by kernel_rfl
  rw [h]
  simp only [ih]
  rfl
set_option maxRecDepth 100000 in
theorem impl_arePermits.body (n : Nat) (x : List (Int × Int × Int × Int × List Int × Int)) : bodyF impl_arePermits.E impl_arePermits.keep n Try.f20 impl_arePermits.con x = impl_arePermits.fn n x := by
 have h : bodyF impl_arePermits.E impl_arePermits.keep n Try.f20 impl_arePermits.con x = impl_arePermits.top (fun v8 v9 v10 => impl_arePermits.LN4 n x n (impl_arePermits.st4 v8 v9 v10)) x := by kernel_rfl
 rw [h]
 simp only [impl_arePermits.lem4]
 rfl
set_option maxRecDepth 100000 in
theorem impl_arePermits.good : Good Try.prog 20 impl_arePermits.con :=
 good_of tabok (cs := impl_arePermits.cs) ⟨impl_IsPermit.good, trivial⟩ 0 false (fn := Try.f20) Try.func20 rfl (by decide) (by simp [impl_arePermits.con]) impl_arePermits.keep NN (fun _ => rfl) (fun x => impl_arePermits.body NN x)
end
end Go.Ev.Try

namespace Go.Ev.Try
open Go.Proofs Go.Pl
set_option linter.unusedVariables false
noncomputable section
def impl_areDays.con : Con := { ps := [(.val, (.int .i64)), (.val, (.int .i64))], rs := [(.val, .bool)], F := fun x => impl_areDays.f x.1 x.2 }
def impl_areDays.cs : List (FuncId × Con) := [(32, impl_isDay.con)]
def impl_areDays.E : Env := envOf tab impl_areDays.cs 0 false
def impl_areDays.keep (i : Nat) : List Nat := []
set_option maxRecDepth 100000 in
theorem impl_areDays.body (n : Nat) (x : Int × Int) : bodyF impl_areDays.E impl_areDays.keep n Try.f21 impl_areDays.con x = impl_areDays.fn n x.1 x.2 := by
 have h : bodyF impl_areDays.E impl_areDays.keep n Try.f21 impl_areDays.con x = impl_areDays.top x.1 x.2 := by kernel_rfl
 exact h
set_option maxRecDepth 100000 in
theorem impl_areDays.good : Good Try.prog 21 impl_areDays.con :=
 good_of tabok (cs := impl_areDays.cs) ⟨impl_isDay.good, trivial⟩ 0 false (fn := Try.f21) Try.func21 rfl (by decide) (by simp [impl_areDays.con]) impl_areDays.keep NN (fun _ => rfl) (fun x => impl_areDays.body NN x)
end
end Go.Ev.Try

namespace Go.Ev.Try
open Go.Proofs Go.Pl
set_option linter.unusedVariables false
noncomputable section
def impl_listsOf.st1000010 (n0 : Int) (more2 : Int) (i8 : Int) (rest10 : List Int) (v26 : Int) (v27 : Int) (out7 : List (List Int)) (v25 : List (List Int)) : St := ⟨[.dat (.int .i64) n0, .gone, .dat (.int .i64) more2, .gone, .gone, .gone, .gone, .ref 0, .dat (.int .i64) i8, .gone, .dat (.sl 2 (.int .i64)) rest10, .gone, .gone, .gone, .gone, .gone, .gone, .gone, .gone, .gone, .gone, .gone, .gone, .gone, .gone, .ref 1, .dat (.int .i64) v26, .dat (.int .i64) v27, .gone, .gone, .gone, .gone, .gone, .gone, .gone, .gone, .gone, .gone, .gone, .gone], [.row 24 (.sl 2 (.int .i64)) out7 none, .row 24 (.sl 2 (.int .i64)) v25 none]⟩
def impl_listsOf.st8 (n0 : Int) (more2 : Int) (i8 : Int) (v26 : Int) (v27 : Int) (out7 : List (List Int)) (v25 : List (List Int)) : St := ⟨[.dat (.int .i64) n0, .gone, .dat (.int .i64) more2, .gone, .gone, .gone, .gone, .ref 0, .dat (.int .i64) i8, .gone, .gone, .gone, .gone, .gone, .gone, .gone, .gone, .gone, .gone, .gone, .gone, .gone, .gone, .gone, .gone, .ref 1, .dat (.int .i64) v26, .dat (.int .i64) v27, .gone, .gone, .gone, .gone, .gone, .gone, .gone, .gone, .gone, .gone, .gone, .gone], [.row 24 (.sl 2 (.int .i64)) out7 none, .row 24 (.sl 2 (.int .i64)) v25 none]⟩
def impl_listsOf.st5 (n0 : Int) (more2 : Int) (i8 : Int) (out7 : List (List Int)) : St := ⟨[.dat (.int .i64) n0, .gone, .dat (.int .i64) more2, .gone, .gone, .gone, .gone, .ref 0, .dat (.int .i64) i8, .gone, .gone, .gone, .gone, .gone, .gone, .gone, .gone, .gone, .gone, .gone, .gone, .gone, .gone, .gone, .gone, .gone, .gone, .gone, .gone, .gone, .gone, .gone, .gone, .gone, .gone, .gone, .gone, .gone, .gone, .gone], [.row 24 (.sl 2 (.int .i64)) out7 none]⟩
def impl_listsOf.con (S : Int → Int → Int → Option (List (List Int))) : Con := { ps := [(.val, (.int .i64)), (.val, (.int .i64)), (.val, (.int .i64))], rs := [(.own, (.sl 24 (.sl 2 (.int .i64))))], F := fun x => S x.1 x.2.1 x.2.2 }
def impl_listsOf.cs (S : Int → Int → Int → Option (List (List Int))) : List (FuncId × Con) := [(22, (impl_listsOf.con S))]
def impl_listsOf.E (S : Int → Int → Int → Option (List (List Int))) : Env := envOf tab (impl_listsOf.cs S) 0 false
def impl_listsOf.keep (i : Nat) : List Nat := if i = 1000010 then [0, 2, 7, 8, 10, 25, 26, 27] else if i = 8 then [0, 2, 7, 8, 25, 26, 27] else if i = 5 then [0, 2, 7, 8] else []
def impl_listsOf.at1000010 (S : Int → Int → Int → Option (List (List Int))) (n : Nat) (x : Int × Int × Int) (M5 : St → Option ((List (List Int)))) (M8 : St → Option ((List (List Int)))) : Code × (Ex → St → Option ((List (List Int)))) := ctx (impl_listsOf.E S) impl_listsOf.keep n [.snd, .snd, .snd, .fst, .snd, .blk, .rd M5, .snd, .fst, .blk, .snd, .blk, .rd M8, .snd, .snd, .fst, .blk, .snd] (codeOf Try.f22) (kEnd (impl_listsOf.E S) Try.f22 (impl_listsOf.con S) x)
def impl_listsOf.LN1000010 (S : Int → Int → Int → Option (List (List Int))) (n : Nat) (x : Int × Int × Int) (M5 : St → Option ((List (List Int)))) (M8 : St → Option ((List (List Int)))) : Nat → St → Option ((List (List Int))) := cutN (exec (impl_listsOf.E S) impl_listsOf.keep n ((impl_listsOf.at1000010 S) n x M5 M8).1 ((impl_listsOf.at1000010 S) n x M5 M8).2)
def impl_listsOf.at8 (S : Int → Int → Int → Option (List (List Int))) (n : Nat) (x : Int × Int × Int) (M5 : St → Option ((List (List Int)))) : Code × (Ex → St → Option ((List (List Int)))) := ctx (impl_listsOf.E S) impl_listsOf.keep n [.snd, .snd, .snd, .fst, .snd, .blk, .rd M5, .snd, .fst, .blk, .snd, .blk] (codeOf Try.f22) (kEnd (impl_listsOf.E S) Try.f22 (impl_listsOf.con S) x)
def impl_listsOf.LN8 (S : Int → Int → Int → Option (List (List Int))) (n : Nat) (x : Int × Int × Int) (M5 : St → Option ((List (List Int)))) : Nat → St → Option ((List (List Int))) := loopN (exec (impl_listsOf.E S) impl_listsOf.keep n (bodyOf ((impl_listsOf.at8 S) n x M5).1)) (St.norm 0 (impl_listsOf.keep 8)) ((impl_listsOf.at8 S) n x M5).2
def impl_listsOf.at5 (S : Int → Int → Int → Option (List (List Int))) (n : Nat) (x : Int × Int × Int) : Code × (Ex → St → Option ((List (List Int)))) := ctx (impl_listsOf.E S) impl_listsOf.keep n [.snd, .snd, .snd, .fst, .snd, .blk] (codeOf Try.f22) (kEnd (impl_listsOf.E S) Try.f22 (impl_listsOf.con S) x)
def impl_listsOf.LN5 (S : Int → Int → Int → Option (List (List Int))) (n : Nat) (x : Int × Int × Int) : Nat → St → Option ((List (List Int))) := loopN (exec (impl_listsOf.E S) impl_listsOf.keep n (bodyOf ((impl_listsOf.at5 S) n x).1)) (St.norm 0 (impl_listsOf.keep 5)) ((impl_listsOf.at5 S) n x).2
set_option maxRecDepth 100000 in
theorem impl_listsOf.lem1000010 (S : Int → Int → Int → Option (List (List Int))) (n : Nat) (x : Int × Int × Int) (M5 : St → Option ((List (List Int)))) (M8 : St → Option ((List (List Int)))) : ∀ (k : Nat) (n0 : Int) (more2 : Int) (i8 : Int) (rest10 : List Int) (v26 : Int) (v27 : Int) (out7 : List (List Int)) (v25 : List (List Int)), (impl_listsOf.LN1000010 S) n x M5 M8 k (impl_listsOf.st1000010 n0 more2 i8 rest10 v26 v27 out7 v25) = (impl_listsOf.l1000010 S) n (fun n0 more2 i8 out7 => M5 (impl_listsOf.st5 n0 more2 i8 out7)) (fun n0 more2 i8 v26 v27 out7 v25 => M8 (impl_listsOf.st8 n0 more2 i8 v26 v27 out7 v25)) k n0 more2 i8 rest10 v26 v27 out7 v25 := by
 intro k
 induction k with
 | zero => intro n0 more2 i8 rest10 v26 v27 out7 v25; rfl
 | succ k ih =>
  intro n0 more2 i8 rest10 v26 v27 out7 v25
  have h : (impl_listsOf.LN1000010 S) n x M5 M8 (k + 1) (impl_listsOf.st1000010 n0 more2 i8 rest10 v26 v27 out7 v25) = (impl_listsOf.g1000010 S) (fun n0 more2 i8 out7 => M5 (impl_listsOf.st5 n0 more2 i8 out7)) (fun n0 more2 i8 v26 v27 out7 v25 => M8 (impl_listsOf.st8 n0 more2 i8 v26 v27 out7 v25)) (fun n0 more2 i8 rest10 v26 v27 out7 v25 => (impl_listsOf.LN1000010 S) n x M5 M8 k (impl_listsOf.st1000010 n0 more2 i8 rest10 v26 v27 out7 v25)) n0 more2 i8 rest10 v26 v27 out7 v25 := by kernel_rfl
  rw [h]
  simp only [ih]
  rfl
set_option maxRecDepth 100000 in
theorem impl_listsOf.lem8 (S : Int → Int → Int → Option (List (List Int))) (n : Nat) (x : Int × Int × Int) (M5 : St → Option ((List (List Int)))) : ∀ (k : Nat) (n0 : Int) (more2 : Int) (i8 : Int) (v26 : Int) (v27 : Int) (out7 : List (List Int)) (v25 : List (List Int)), (impl_listsOf.LN8 S) n x M5 k (impl_listsOf.st8 n0 more2 i8 v26 v27 out7 v25) = (impl_listsOf.l8 S) n (fun n0 more2 i8 out7 => M5 (impl_listsOf.st5 n0 more2 i8 out7)) k n0 more2 i8 v26 v27 out7 v25 := by
 intro k
 induction k with
 | zero => intro n0 more2 i8 v26 v27 out7 v25; rfl
 | succ k ih =>
  intro n0 more2 i8 v26 v27 out7 v25
  have h : (impl_listsOf.LN8 S) n x M5 (k + 1) (impl_listsOf.st8 n0 more2 i8 v26 v27 out7 v25) = (impl_listsOf.g8 S) (fun n0 more2 i8 rest10 v26 v27 out7 v25 => (impl_listsOf.LN1000010 S) n x M5 ((impl_listsOf.LN8 S) n x M5 k) n (impl_listsOf.st1000010 n0 more2 i8 rest10 v26 v27 out7 v25)) (fun n0 more2 i8 out7 => M5 (impl_listsOf.st5 n0 more2 i8 out7)) (fun n0 more2 i8 v26 v27 out7 v25 => (impl_listsOf.LN8 S) n x M5 k (impl_listsOf.st8 n0 more2 i8 v26 v27 out7 v25)) n0 more2 i8 v26 v27 out7 v25 := by kernel_rfl
  rw [h]
  simp only [ih, (impl_listsOf.lem1000010 S)]
  rfl
set_option maxRecDepth 100000 in
theorem impl_listsOf.lem5 (S : Int → Int → Int → Option (List (List Int))) (n : Nat) (x : Int × Int × Int) : ∀ (k : Nat) (n0 : Int) (more2 : Int) (i8 : Int) (out7 : List (List Int)), (impl_listsOf.LN5 S) n x k (impl_listsOf.st5 n0 more2 i8 out7) = (impl_listsOf.l5 S) n k n0 more2 i8 out7 := by
 intro k
 induction k with
 | zero => intro n0 more2 i8 out7; rfl
 | succ k ih =>
  intro n0 more2 i8 out7
  have h : (impl_listsOf.LN5 S) n x (k + 1) (impl_listsOf.st5 n0 more2 i8 out7) = (impl_listsOf.g5 S) (fun n0 more2 i8 v26 v27 out7 v25 => (impl_listsOf.LN8 S) n x ((impl_listsOf.LN5 S) n x k) n (impl_listsOf.st8 n0 more2 i8 v26 v27 out7 v25)) (fun n0 more2 i8 out7 => (impl_listsOf.LN5 S) n x k (impl_listsOf.st5 n0 more2 i8 out7)) n0 more2 i8 out7 := by kernel_rfl
  rw [h]
  simp only [ih, (impl_listsOf.lem8 S)]
  rfl
set_option maxRecDepth 100000 in
theorem impl_listsOf.body (S : Int → Int → Int → Option (List (List Int))) (n : Nat) (x : Int × Int × Int) : bodyF (impl_listsOf.E S) impl_listsOf.keep n Try.f22 (impl_listsOf.con S) x = (impl_listsOf.fn S) n x.1 x.2.1 x.2.2 := by
 have h : bodyF (impl_listsOf.E S) impl_listsOf.keep n Try.f22 (impl_listsOf.con S) x = (impl_listsOf.top S) (fun n0 more2 i8 out7 => (impl_listsOf.LN5 S) n x n (impl_listsOf.st5 n0 more2 i8 out7)) x.1 x.2.1 x.2.2 := by kernel_rfl
 rw [h]
 simp only [(impl_listsOf.lem5 S)]
 rfl
set_option maxRecDepth 100000 in
theorem impl_listsOf.goodk : ∀ k : Nat, Good Try.prog 22 (impl_listsOf.con (impl_listsOf.rc k)) := by
 intro k
 induction k with
 | zero => exact good_none (fn := Try.f22) Try.func22 rfl (by decide) (by simp [impl_listsOf.con]) (fun _ => rfl)
 | succ k ih => exact good_of tabok (cs := impl_listsOf.cs (impl_listsOf.rc k)) ⟨ih, trivial⟩ 0 false (fn := Try.f22) Try.func22 rfl (by decide) (by simp [impl_listsOf.con]) impl_listsOf.keep NN (fun _ => rfl) (fun x => impl_listsOf.body (impl_listsOf.rc k) NN x)
theorem impl_listsOf.good : Good Try.prog 22 (impl_listsOf.con (fun n0 from1 more2 => impl_listsOf.f n0 from1 more2)) := impl_listsOf.goodk NN
end
end Go.Ev.Try

namespace Go.Ev.Try
open Go.Proofs Go.Pl
set_option linter.unusedVariables false
noncomputable section
def impl_covers.st4 (permits0 : List (Int × Int × Int × Int × List Int × Int)) (from1 : Int) (to2 : Int) (next7 : Int) (v14 : List (Int × Int × Int × Int × List Int × Int)) (v15 : Int) (v16 : Int) : St := ⟨[.dat (.sl 42 (.pair (.int .i64) (.pair (.int .i64) (.pair (.int .i64) (.pair (.int .i64) (.pair (.sl 2 (.int .i64)) (.int .i64))))))) permits0, .dat (.int .i64) from1, .dat (.int .i64) to2, .gone, .gone, .gone, .gone, .dat (.int .i64) next7, .gone, .gone, .gone, .gone, .gone, .gone, .dat (.sl 42 (.pair (.int .i64) (.pair (.int .i64) (.pair (.int .i64) (.pair (.int .i64) (.pair (.sl 2 (.int .i64)) (.int .i64))))))) v14, .dat (.int .i64) v15, .dat (.int .i64) v16, .gone, .gone, .gone, .gone, .gone, .gone, .gone, .gone, .gone, .gone, .gone, .gone, .gone, .gone, .gone, .gone, .gone, .gone, .gone], []⟩
def impl_covers.st1 (permits0 : List (Int × Int × Int × Int × List Int × Int)) (from1 : Int) (to2 : Int) : St := ⟨[.dat (.sl 42 (.pair (.int .i64) (.pair (.int .i64) (.pair (.int .i64) (.pair (.int .i64) (.pair (.sl 2 (.int .i64)) (.int .i64))))))) permits0, .dat (.int .i64) from1, .dat (.int .i64) to2, .gone, .gone, .gone, .gone, .gone, .gone, .gone, .gone, .gone, .gone, .gone, .gone, .gone, .gone, .gone, .gone, .gone, .gone, .gone, .gone, .gone, .gone, .gone, .gone, .gone, .gone, .gone, .gone, .gone, .gone, .gone, .gone, .gone], []⟩
def impl_covers.con : Con := { ps := [(.val, (.sl 42 (.pair (.int .i64) (.pair (.int .i64) (.pair (.int .i64) (.pair (.int .i64) (.pair (.sl 2 (.int .i64)) (.int .i64)))))))), (.val, (.int .i64)), (.val, (.int .i64))], rs := [(.val, .bool)], F := fun x => impl_covers.f x.1 x.2.1 x.2.2 }
def impl_covers.cs : List (FuncId × Con) := [(33, impl_within.con)]
def impl_covers.E : Env := envOf tab impl_covers.cs 0 false
def impl_covers.keep (i : Nat) : List Nat := if i = 4 then [0, 1, 2, 7, 14, 15, 16] else if i = 1 then [0, 1, 2] else []
def impl_covers.at4 (n : Nat) (x : (List (Int × Int × Int × Int × List Int × Int)) × Int × Int) (M1 : St → Option (Bool)) : Code × (Ex → St → Option (Bool)) := ctx impl_covers.E impl_covers.keep n [.snd, .fst, .blk, .rd M1, .snd, .blk, .snd, .fst, .snd, .blk] (codeOf Try.f23) (kEnd impl_covers.E Try.f23 impl_covers.con x)
def impl_covers.LN4 (n : Nat) (x : (List (Int × Int × Int × Int × List Int × Int)) × Int × Int) (M1 : St → Option (Bool)) : Nat → St → Option (Bool) := loopN (exec impl_covers.E impl_covers.keep n (bodyOf (impl_covers.at4 n x M1).1)) (St.norm 0 (impl_covers.keep 4)) (impl_covers.at4 n x M1).2
def impl_covers.at1 (n : Nat) (x : (List (Int × Int × Int × Int × List Int × Int)) × Int × Int) : Code × (Ex → St → Option (Bool)) := ctx impl_covers.E impl_covers.keep n [.snd, .fst, .blk] (codeOf Try.f23) (kEnd impl_covers.E Try.f23 impl_covers.con x)
def impl_covers.LN1 (n : Nat) (x : (List (Int × Int × Int × Int × List Int × Int)) × Int × Int) : Nat → St → Option (Bool) := loopN (exec impl_covers.E impl_covers.keep n (bodyOf (impl_covers.at1 n x).1)) (St.norm 0 (impl_covers.keep 1)) (impl_covers.at1 n x).2
set_option maxRecDepth 100000 in
theorem impl_covers.lem4 (n : Nat) (x : (List (Int × Int × Int × Int × List Int × Int)) × Int × Int) (M1 : St → Option (Bool)) : ∀ (k : Nat) (permits0 : List (Int × Int × Int × Int × List Int × Int)) (from1 : Int) (to2 : Int) (next7 : Int) (v14 : List (Int × Int × Int × Int × List Int × Int)) (v15 : Int) (v16 : Int), impl_covers.LN4 n x M1 k (impl_covers.st4 permits0 from1 to2 next7 v14 v15 v16) = impl_covers.l4 n (fun permits0 from1 to2 => M1 (impl_covers.st1 permits0 from1 to2)) k permits0 from1 to2 next7 v14 v15 v16 := by
 intro k
 induction k with
 | zero => intro permits0 from1 to2 next7 v14 v15 v16; rfl
 | succ k ih =>
  intro permits0 from1 to2 next7 v14 v15 v16
  have h : impl_covers.LN4 n x M1 (k + 1) (impl_covers.st4 permits0 from1 to2 next7 v14 v15 v16) = impl_covers.g4 (fun permits0 from1 to2 => M1 (impl_covers.st1 permits0 from1 to2)) (fun permits0 from1 to2 next7 v14 v15 v16 => impl_covers.LN4 n x M1 k (impl_covers.st4 permits0 from1 to2 next7 v14 v15 v16)) permits0 from1 to2 next7 v14 v15 v16 := by kernel_rfl
  rw [h]
  simp only [ih]
  rfl
set_option maxRecDepth 100000 in
theorem impl_covers.lem1 (n : Nat) (x : (List (Int × Int × Int × Int × List Int × Int)) × Int × Int) : ∀ (k : Nat) (permits0 : List (Int × Int × Int × Int × List Int × Int)) (from1 : Int) (to2 : Int), impl_covers.LN1 n x k (impl_covers.st1 permits0 from1 to2) = impl_covers.l1 n k permits0 from1 to2 := by
 intro k
 induction k with
 | zero => intro permits0 from1 to2; rfl
 | succ k ih =>
  intro permits0 from1 to2
  have h : impl_covers.LN1 n x (k + 1) (impl_covers.st1 permits0 from1 to2) = impl_covers.g1 (fun permits0 from1 to2 next7 v14 v15 v16 => impl_covers.LN4 n x (impl_covers.LN1 n x k) n (impl_covers.st4 permits0 from1 to2 next7 v14 v15 v16)) (fun permits0 from1 to2 => impl_covers.LN1 n x k (impl_covers.st1 permits0 from1 to2)) permits0 from1 to2 := by kernel_rfl
  rw [h]
  simp only [ih, impl_covers.lem4]
  rfl
set_option maxRecDepth 100000 in
theorem impl_covers.body (n : Nat) (x : (List (Int × Int × Int × Int × List Int × Int)) × Int × Int) : bodyF impl_covers.E impl_covers.keep n Try.f23 impl_covers.con x = impl_covers.fn n x.1 x.2.1 x.2.2 := by
 have h : bodyF impl_covers.E impl_covers.keep n Try.f23 impl_covers.con x = impl_covers.top (fun permits0 from1 to2 => impl_covers.LN1 n x n (impl_covers.st1 permits0 from1 to2)) x.1 x.2.1 x.2.2 := by kernel_rfl
 rw [h]
 simp only [impl_covers.lem1]
 rfl
set_option maxRecDepth 100000 in
theorem impl_covers.good : Good Try.prog 23 impl_covers.con :=
 good_of tabok (cs := impl_covers.cs) ⟨impl_within.good, trivial⟩ 0 false (fn := Try.f23) Try.func23 rfl (by decide) (by simp [impl_covers.con]) impl_covers.keep NN (fun _ => rfl) (fun x => impl_covers.body NN x)
end
end Go.Ev.Try

namespace Go.Ev.Try
open Go.Proofs Go.Pl
set_option linter.unusedVariables false
noncomputable section
def impl_FewestPermits.st13 (permits0 : List (Int × Int × Int × Int × List Int × Int)) (from1 : Int) (to2 : Int) (more8 : Int) (list10 : List Int) (v31 : Int) (v32 : Int) (v36 : List Int) (v37 : Int) (v38 : Int) (chosen11 : List (Int × Int × Int × Int × List Int × Int)) (v30 : List (List Int)) : St := ⟨[.dat (.sl 42 (.pair (.int .i64) (.pair (.int .i64) (.pair (.int .i64) (.pair (.int .i64) (.pair (.sl 2 (.int .i64)) (.int .i64))))))) permits0, .dat (.int .i64) from1, .dat (.int .i64) to2, .gone, .gone, .gone, .gone, .gone, .dat (.int .i64) more8, .gone, .dat (.sl 2 (.int .i64)) list10, .ref 0, .gone, .gone, .gone, .gone, .gone, .gone, .gone, .gone, .gone, .gone, .gone, .gone, .gone, .gone, .gone, .gone, .gone, .gone, .ref 1, .dat (.int .i64) v31, .dat (.int .i64) v32, .gone, .gone, .gone, .dat (.sl 2 (.int .i64)) v36, .dat (.int .i64) v37, .dat (.int .i64) v38, .gone, .gone, .gone, .gone, .gone, .gone, .gone, .gone, .gone, .gone, .gone, .gone, .gone, .gone, .gone, .gone, .gone], [.row 42 (.pair (.int .i64) (.pair (.int .i64) (.pair (.int .i64) (.pair (.int .i64) (.pair (.sl 2 (.int .i64)) (.int .i64)))))) chosen11 none, .row 24 (.sl 2 (.int .i64)) v30 none]⟩
def impl_FewestPermits.st9 (permits0 : List (Int × Int × Int × Int × List Int × Int)) (from1 : Int) (to2 : Int) (more8 : Int) (v31 : Int) (v32 : Int) (v30 : List (List Int)) : St := ⟨[.dat (.sl 42 (.pair (.int .i64) (.pair (.int .i64) (.pair (.int .i64) (.pair (.int .i64) (.pair (.sl 2 (.int .i64)) (.int .i64))))))) permits0, .dat (.int .i64) from1, .dat (.int .i64) to2, .gone, .gone, .gone, .gone, .gone, .dat (.int .i64) more8, .gone, .gone, .gone, .gone, .gone, .gone, .gone, .gone, .gone, .gone, .gone, .gone, .gone, .gone, .gone, .gone, .gone, .gone, .gone, .gone, .gone, .ref 0, .dat (.int .i64) v31, .dat (.int .i64) v32, .gone, .gone, .gone, .gone, .gone, .gone, .gone, .gone, .gone, .gone, .gone, .gone, .gone, .gone, .gone, .gone, .gone, .gone, .gone, .gone, .gone, .gone, .gone], [.row 24 (.sl 2 (.int .i64)) v30 none]⟩
def impl_FewestPermits.st6 (permits0 : List (Int × Int × Int × Int × List Int × Int)) (from1 : Int) (to2 : Int) (more8 : Int) : St := ⟨[.dat (.sl 42 (.pair (.int .i64) (.pair (.int .i64) (.pair (.int .i64) (.pair (.int .i64) (.pair (.sl 2 (.int .i64)) (.int .i64))))))) permits0, .dat (.int .i64) from1, .dat (.int .i64) to2, .gone, .gone, .gone, .gone, .gone, .dat (.int .i64) more8, .gone, .gone, .gone, .gone, .gone, .gone, .gone, .gone, .gone, .gone, .gone, .gone, .gone, .gone, .gone, .gone, .gone, .gone, .gone, .gone, .gone, .gone, .gone, .gone, .gone, .gone, .gone, .gone, .gone, .gone, .gone, .gone, .gone, .gone, .gone, .gone, .gone, .gone, .gone, .gone, .gone, .gone, .gone, .gone, .gone, .gone, .gone], []⟩
def impl_FewestPermits.con : Con := { ps := [(.val, (.sl 42 (.pair (.int .i64) (.pair (.int .i64) (.pair (.int .i64) (.pair (.int .i64) (.pair (.sl 2 (.int .i64)) (.int .i64)))))))), (.val, (.int .i64)), (.val, (.int .i64))], rs := [(.val, (.sl 2 (.int .i64))), (.val, (.int .i64))], F := fun x => impl_FewestPermits.f x.1 x.2.1 x.2.2 }
def impl_FewestPermits.cs : List (FuncId × Con) := [(20, impl_arePermits.con), (21, impl_areDays.con), (22, (impl_listsOf.con (fun a0 a1 a2 => impl_listsOf.f a0 a1 a2))), (23, impl_covers.con)]
def impl_FewestPermits.E : Env := envOf tab impl_FewestPermits.cs 0 false
def impl_FewestPermits.keep (i : Nat) : List Nat := if i = 13 then [0, 1, 2, 8, 10, 11, 30, 31, 32, 36, 37, 38] else if i = 9 then [0, 1, 2, 8, 30, 31, 32] else if i = 6 then [0, 1, 2, 8] else []
def impl_FewestPermits.at13 (n : Nat) (x : (List (Int × Int × Int × Int × List Int × Int)) × Int × Int) (M6 : St → Option ((List Int × Int))) (M9 : St → Option ((List Int × Int))) : Code × (Ex → St → Option ((List Int × Int))) := ctx impl_FewestPermits.E impl_FewestPermits.keep n [.snd, .snd, .snd, .fst, .snd, .blk, .rd M6, .snd, .fst, .blk, .snd, .blk, .rd M9, .snd, .snd, .fst, .blk, .snd, .snd, .fst, .snd, .blk] (codeOf Try.f7) (kEnd impl_FewestPermits.E Try.f7 impl_FewestPermits.con x)
def impl_FewestPermits.LN13 (n : Nat) (x : (List (Int × Int × Int × Int × List Int × Int)) × Int × Int) (M6 : St → Option ((List Int × Int))) (M9 : St → Option ((List Int × Int))) : Nat → St → Option ((List Int × Int)) := loopN (exec impl_FewestPermits.E impl_FewestPermits.keep n (bodyOf (impl_FewestPermits.at13 n x M6 M9).1)) (St.norm 0 (impl_FewestPermits.keep 13)) (impl_FewestPermits.at13 n x M6 M9).2
def impl_FewestPermits.at9 (n : Nat) (x : (List (Int × Int × Int × Int × List Int × Int)) × Int × Int) (M6 : St → Option ((List Int × Int))) : Code × (Ex → St → Option ((List Int × Int))) := ctx impl_FewestPermits.E impl_FewestPermits.keep n [.snd, .snd, .snd, .fst, .snd, .blk, .rd M6, .snd, .fst, .blk, .snd, .blk] (codeOf Try.f7) (kEnd impl_FewestPermits.E Try.f7 impl_FewestPermits.con x)
def impl_FewestPermits.LN9 (n : Nat) (x : (List (Int × Int × Int × Int × List Int × Int)) × Int × Int) (M6 : St → Option ((List Int × Int))) : Nat → St → Option ((List Int × Int)) := loopN (exec impl_FewestPermits.E impl_FewestPermits.keep n (bodyOf (impl_FewestPermits.at9 n x M6).1)) (St.norm 0 (impl_FewestPermits.keep 9)) (impl_FewestPermits.at9 n x M6).2
def impl_FewestPermits.at6 (n : Nat) (x : (List (Int × Int × Int × Int × List Int × Int)) × Int × Int) : Code × (Ex → St → Option ((List Int × Int))) := ctx impl_FewestPermits.E impl_FewestPermits.keep n [.snd, .snd, .snd, .fst, .snd, .blk] (codeOf Try.f7) (kEnd impl_FewestPermits.E Try.f7 impl_FewestPermits.con x)
def impl_FewestPermits.LN6 (n : Nat) (x : (List (Int × Int × Int × Int × List Int × Int)) × Int × Int) : Nat → St → Option ((List Int × Int)) := loopN (exec impl_FewestPermits.E impl_FewestPermits.keep n (bodyOf (impl_FewestPermits.at6 n x).1)) (St.norm 0 (impl_FewestPermits.keep 6)) (impl_FewestPermits.at6 n x).2
set_option maxRecDepth 100000 in
theorem impl_FewestPermits.lem13 (n : Nat) (x : (List (Int × Int × Int × Int × List Int × Int)) × Int × Int) (M6 : St → Option ((List Int × Int))) (M9 : St → Option ((List Int × Int))) : ∀ (k : Nat) (permits0 : List (Int × Int × Int × Int × List Int × Int)) (from1 : Int) (to2 : Int) (more8 : Int) (list10 : List Int) (v31 : Int) (v32 : Int) (v36 : List Int) (v37 : Int) (v38 : Int) (chosen11 : List (Int × Int × Int × Int × List Int × Int)) (v30 : List (List Int)), impl_FewestPermits.LN13 n x M6 M9 k (impl_FewestPermits.st13 permits0 from1 to2 more8 list10 v31 v32 v36 v37 v38 chosen11 v30) = impl_FewestPermits.l13 n (fun permits0 from1 to2 more8 => M6 (impl_FewestPermits.st6 permits0 from1 to2 more8)) (fun permits0 from1 to2 more8 v31 v32 v30 => M9 (impl_FewestPermits.st9 permits0 from1 to2 more8 v31 v32 v30)) k permits0 from1 to2 more8 list10 v31 v32 v36 v37 v38 chosen11 v30 := by
 intro k
 induction k with
 | zero => intro permits0 from1 to2 more8 list10 v31 v32 v36 v37 v38 chosen11 v30; rfl
 | succ k ih =>
  intro permits0 from1 to2 more8 list10 v31 v32 v36 v37 v38 chosen11 v30
  have h : impl_FewestPermits.LN13 n x M6 M9 (k + 1) (impl_FewestPermits.st13 permits0 from1 to2 more8 list10 v31 v32 v36 v37 v38 chosen11 v30) = impl_FewestPermits.g13 (fun permits0 from1 to2 more8 => M6 (impl_FewestPermits.st6 permits0 from1 to2 more8)) (fun permits0 from1 to2 more8 v31 v32 v30 => M9 (impl_FewestPermits.st9 permits0 from1 to2 more8 v31 v32 v30)) (fun permits0 from1 to2 more8 list10 v31 v32 v36 v37 v38 chosen11 v30 => impl_FewestPermits.LN13 n x M6 M9 k (impl_FewestPermits.st13 permits0 from1 to2 more8 list10 v31 v32 v36 v37 v38 chosen11 v30)) permits0 from1 to2 more8 list10 v31 v32 v36 v37 v38 chosen11 v30 := by kernel_rfl
  rw [h]
  simp only [ih]
  rfl
set_option maxRecDepth 100000 in
theorem impl_FewestPermits.lem9 (n : Nat) (x : (List (Int × Int × Int × Int × List Int × Int)) × Int × Int) (M6 : St → Option ((List Int × Int))) : ∀ (k : Nat) (permits0 : List (Int × Int × Int × Int × List Int × Int)) (from1 : Int) (to2 : Int) (more8 : Int) (v31 : Int) (v32 : Int) (v30 : List (List Int)), impl_FewestPermits.LN9 n x M6 k (impl_FewestPermits.st9 permits0 from1 to2 more8 v31 v32 v30) = impl_FewestPermits.l9 n (fun permits0 from1 to2 more8 => M6 (impl_FewestPermits.st6 permits0 from1 to2 more8)) k permits0 from1 to2 more8 v31 v32 v30 := by
 intro k
 induction k with
 | zero => intro permits0 from1 to2 more8 v31 v32 v30; rfl
 | succ k ih =>
  intro permits0 from1 to2 more8 v31 v32 v30
  have h : impl_FewestPermits.LN9 n x M6 (k + 1) (impl_FewestPermits.st9 permits0 from1 to2 more8 v31 v32 v30) = impl_FewestPermits.g9 (fun permits0 from1 to2 more8 list10 v31 v32 v36 v37 v38 chosen11 v30 => impl_FewestPermits.LN13 n x M6 (impl_FewestPermits.LN9 n x M6 k) n (impl_FewestPermits.st13 permits0 from1 to2 more8 list10 v31 v32 v36 v37 v38 chosen11 v30)) (fun permits0 from1 to2 more8 => M6 (impl_FewestPermits.st6 permits0 from1 to2 more8)) (fun permits0 from1 to2 more8 v31 v32 v30 => impl_FewestPermits.LN9 n x M6 k (impl_FewestPermits.st9 permits0 from1 to2 more8 v31 v32 v30)) permits0 from1 to2 more8 v31 v32 v30 := by kernel_rfl
  rw [h]
  simp only [ih, impl_FewestPermits.lem13]
  rfl
set_option maxRecDepth 100000 in
theorem impl_FewestPermits.lem6 (n : Nat) (x : (List (Int × Int × Int × Int × List Int × Int)) × Int × Int) : ∀ (k : Nat) (permits0 : List (Int × Int × Int × Int × List Int × Int)) (from1 : Int) (to2 : Int) (more8 : Int), impl_FewestPermits.LN6 n x k (impl_FewestPermits.st6 permits0 from1 to2 more8) = impl_FewestPermits.l6 n k permits0 from1 to2 more8 := by
 intro k
 induction k with
 | zero => intro permits0 from1 to2 more8; rfl
 | succ k ih =>
  intro permits0 from1 to2 more8
  have h : impl_FewestPermits.LN6 n x (k + 1) (impl_FewestPermits.st6 permits0 from1 to2 more8) = impl_FewestPermits.g6 (fun permits0 from1 to2 more8 v31 v32 v30 => impl_FewestPermits.LN9 n x (impl_FewestPermits.LN6 n x k) n (impl_FewestPermits.st9 permits0 from1 to2 more8 v31 v32 v30)) (fun permits0 from1 to2 more8 => impl_FewestPermits.LN6 n x k (impl_FewestPermits.st6 permits0 from1 to2 more8)) permits0 from1 to2 more8 := by kernel_rfl
  rw [h]
  simp only [ih, impl_FewestPermits.lem9]
  rfl
set_option maxRecDepth 100000 in
theorem impl_FewestPermits.body (n : Nat) (x : (List (Int × Int × Int × Int × List Int × Int)) × Int × Int) : bodyF impl_FewestPermits.E impl_FewestPermits.keep n Try.f7 impl_FewestPermits.con x = impl_FewestPermits.fn n x.1 x.2.1 x.2.2 := by
 have h : bodyF impl_FewestPermits.E impl_FewestPermits.keep n Try.f7 impl_FewestPermits.con x = impl_FewestPermits.top (fun permits0 from1 to2 more8 => impl_FewestPermits.LN6 n x n (impl_FewestPermits.st6 permits0 from1 to2 more8)) x.1 x.2.1 x.2.2 := by kernel_rfl
 rw [h]
 simp only [impl_FewestPermits.lem6]
 rfl
set_option maxRecDepth 100000 in
theorem impl_FewestPermits.good : Good Try.prog 7 impl_FewestPermits.con :=
 good_of tabok (cs := impl_FewestPermits.cs) ⟨impl_arePermits.good, impl_areDays.good, impl_listsOf.good, impl_covers.good, trivial⟩ 0 false (fn := Try.f7) Try.func7 rfl (by decide) (by simp [impl_FewestPermits.con]) impl_FewestPermits.keep NN (fun _ => rfl) (fun x => impl_FewestPermits.body NN x)
end
end Go.Ev.Try

namespace Go.Ev.Try
open Go.Proofs Go.Pl
set_option linter.unusedVariables false
def tabH : List TRow := [⟨2, (.int .i64), 0, 8⟩, ⟨24, .hdr, 0, 24⟩, ⟨27, (.sl 42 PH), 0, 24⟩, ⟨42, PH, 6, 64⟩]
set_option maxRecDepth 100000 in
theorem tabokH : okB Try.prog tabH = true := by kernel_rfl
def HG {ρ : Type} (X : HX) (ap : Option Bool) (cv : List PH.I → Int → Int → Option Bool) : Hooks ρ := fun o => match o.op with
  | .call c => match c.callee with
    | .builtin .len => if c.argTypes[0]? = some 27 then some fun s K => match evs s c.args.toList with
        | some [.dat .hdr u] => if X.Is u = true then K (.dat (.int .i64) X.n) s else none
        | _ => none
      else none
    | .builtin .append => if c.argTypes.toList = [27, 27] then some fun s K => match evs s c.args.toList with
        | some [.ref i, .ref j] => match s.hp[i]?, s.hp[j]? with
          | some (.row 42 (.pair (.int .i64) (.pair (.int .i64) (.pair (.int .i64) (.pair (.int .i64) (.pair .hdr (.int .i64)))))) xs none), some (.row 42 (.pair (.int .i64) (.pair (.int .i64) (.pair (.int .i64) (.pair (.int .i64) (.pair .hdr (.int .i64)))))) zs none) =>
            if xs.length + zs.length < room 64 then K (.ref s.hp.length) { s with hp := s.hp.set i .dead ++ [.row 42 PH (xs ++ zs) none] } else none
          | _, _ => none
        | _ => none
      else none
    | .value (.func f) => if f = 20 then some fun s K => match evs s c.args.toList with
        | some [.dat .hdr u] => if X.Is u = true then ap.bind fun b => K (.dat .bool b) s else none
        | _ => none
      else if f = 23 then some fun s K => match evs s c.args.toList with
        | some [.ref i, .dat (.int .i64) f, .dat (.int .i64) t] => match s.hp[i]? with
          | some (.row 42 (.pair (.int .i64) (.pair (.int .i64) (.pair (.int .i64) (.pair (.int .i64) (.pair .hdr (.int .i64)))))) ys none) => (cv ys f t).bind fun b => K (.dat .bool b) s
          | _ => none
        | _ => none
      else none
    | _ => none
  | .assign x => if o.type = 27 then some fun s K => match s.ev x with
      | some .nil => K (.ref s.hp.length) { s with hp := s.hp ++ [.row 42 PH [] none] }
      | some v => K v s
      | none => none
    else none
  | .buildSlice t n ps => if t = 27 then some fun s K => match evParts s ps.toList with
      | some [(0, .dat (.pair (.int .i64) (.pair (.int .i64) (.pair (.int .i64) (.pair (.int .i64) (.pair .hdr (.int .i64)))))) y)] => if n = 1 then K (.ref s.hp.length) { s with hp := s.hp ++ [.row 42 PH [y] none] } else none
      | _ => none
    else none
  | .indexAddr t x i => if t = 27 then some fun s K => match s.ev x, s.ev i with
      | some (.dat .hdr u), some (.dat (.int _) i) => if X.Is u = true then (if 0 ≤ i ∧ i < X.n then K (.dat .hdr (X.pt i)) s else none) else none
      | _, _ => none
    else none
  | .load t x => if t = 42 then some fun s K => match s.ev x with
      | some (.dat .hdr p) => (X.Ld p).bind fun y => K (.dat PH y) s
      | _ => none
    else none
  | _ => none
end Go.Ev.Try

namespace Go.Ev.Try
open Go.Proofs Go.Pl
set_option linter.unusedVariables false
noncomputable section
def TF.g13 (X : HX) (ap : Option Bool) (cv : List PH.I → Int → Int → Option Bool) (L6 : Value → Int → Int → Int → Option (List Int × Int)) (L9 : Value → Int → Int → Int → Int → Int → List (List Int) → Option (List Int × Int)) (L13 : Value → Int → Int → Int → List Int → Int → Int → List Int → Int → Int → (List PH.I) → List (List Int) → Option (List Int × Int)) (permits0 : Value) (from1 : Int) (to2 : Int) (more8 : Int) (list10 : List Int) (v31 : Int) (v32 : Int) (v36 : List Int) (v37 : Int) (v38 : Int) (chosen11 : List PH.I) (v30 : List (List Int)) : Option (List Int × Int) :=
  if (decide ((v38 : Int) < v37)) = true then
    if (0 : Int) ≤ v38 ∧ (v38 : Int) < v36.length then
      if X.Is permits0 = true then
        if (0 : Int) ≤ (v36.getD (v38 : Int).toNat 0) ∧ ((v36.getD (v38 : Int).toNat 0) : Int) < X.n then
          (X.Ld (X.pt (v36.getD (v38 : Int).toNat 0))).bind fun y =>
          if chosen11.length + ([y]).length < room 64 then
            L13 permits0 from1 to2 more8 list10 v31 v32 v36 v37 (IntKind.i64.wrap (v38 + 1)) (chosen11 ++ ([y])) v30
          else
            none
        else
          none
      else
        none
    else
      none
  else
    (cv chosen11 from1 to2).bind fun r4 =>
    if r4 = true then
      some (list10, 0)
    else
      L9 permits0 from1 to2 more8 v31 (IntKind.i64.wrap (v32 + 1)) v30
def TF.l13 (X : HX) (ap : Option Bool) (cv : List PH.I → Int → Int → Option Bool) (n : Nat) (L6 : Value → Int → Int → Int → Option (List Int × Int)) (L9 : Value → Int → Int → Int → Int → Int → List (List Int) → Option (List Int × Int)) : Nat → Value → Int → Int → Int → List Int → Int → Int → List Int → Int → Int → (List PH.I) → List (List Int) → Option (List Int × Int)
  | 0 => fun _ _ _ _ _ _ _ _ _ _ _ _ => none
  | k + 1 => (TF.g13 X ap cv) L6 L9 ((TF.l13 X ap cv) n L6 L9 k)
def TF.g9 (X : HX) (ap : Option Bool) (cv : List PH.I → Int → Int → Option Bool) (I13 : Value → Int → Int → Int → List Int → Int → Int → List Int → Int → Int → (List PH.I) → List (List Int) → Option (List Int × Int)) (L6 : Value → Int → Int → Int → Option (List Int × Int)) (L9 : Value → Int → Int → Int → Int → Int → List (List Int) → Option (List Int × Int)) (permits0 : Value) (from1 : Int) (to2 : Int) (more8 : Int) (v31 : Int) (v32 : Int) (v30 : List (List Int)) : Option (List Int × Int) :=
  if (decide ((v32 : Int) < v31)) = true then
    if (0 : Int) ≤ v32 ∧ (v32 : Int) < v30.length then
      I13 permits0 from1 to2 more8 (v30.getD (v32 : Int).toNat []) v31 v32 (v30.getD (v32 : Int).toNat []) ((v30.getD (v32 : Int).toNat []).length : Int) 0 [] v30
    else
      none
  else
    L6 permits0 from1 to2 (IntKind.i64.wrap (more8 + 1))
def TF.l9 (X : HX) (ap : Option Bool) (cv : List PH.I → Int → Int → Option Bool) (n : Nat) (L6 : Value → Int → Int → Int → Option (List Int × Int)) : Nat → Value → Int → Int → Int → Int → Int → List (List Int) → Option (List Int × Int)
  | 0 => fun _ _ _ _ _ _ _ => none
  | k + 1 => (TF.g9 X ap cv) ((TF.l13 X ap cv) n L6 ((TF.l9 X ap cv) n L6 k) n) L6 ((TF.l9 X ap cv) n L6 k)
def TF.g6 (X : HX) (ap : Option Bool) (cv : List PH.I → Int → Int → Option Bool) (I9 : Value → Int → Int → Int → Int → Int → List (List Int) → Option (List Int × Int)) (L6 : Value → Int → Int → Int → Option (List Int × Int)) (permits0 : Value) (from1 : Int) (to2 : Int) (more8 : Int) : Option (List Int × Int) :=
  if X.Is permits0 = true then
    if (decide ((more8 : Int) ≤ X.n)) = true then
      if X.Is permits0 = true then
        (impl_listsOf.f X.n 0 more8).bind fun r3 =>
        I9 permits0 from1 to2 more8 (r3.length : Int) 0 r3
      else
        none
    else
      some ([], 4)
  else
    none
def TF.l6 (X : HX) (ap : Option Bool) (cv : List PH.I → Int → Int → Option Bool) (n : Nat) : Nat → Value → Int → Int → Int → Option (List Int × Int)
  | 0 => fun _ _ _ _ => none
  | k + 1 => (TF.g6 X ap cv) ((TF.l9 X ap cv) n ((TF.l6 X ap cv) n k) n) ((TF.l6 X ap cv) n k)
def TF.top (X : HX) (ap : Option Bool) (cv : List PH.I → Int → Int → Option Bool) (I6 : Value → Int → Int → Int → Option (List Int × Int)) (permits0 : Value) (from1 : Int) (to2 : Int) : Option (List Int × Int) :=
  if X.Is permits0 = true then
    ap.bind fun r1 =>
    if (!r1) = true then
      some ([], 1)
    else
      (impl_areDays.f from1 to2).bind fun r2 =>
      if (!r2) = true then
        some ([], 2)
      else
        I6 permits0 from1 to2 1
  else
    none
def TF.fn (X : HX) (ap : Option Bool) (cv : List PH.I → Int → Int → Option Bool) (n : Nat) (permits0 : Value) (from1 : Int) (to2 : Int) : Option (List Int × Int) := (TF.top X ap cv) ((TF.l6 X ap cv) n n) permits0 from1 to2
def TF.f (X : HX) (ap : Option Bool) (cv : List PH.I → Int → Int → Option Bool) (permits0 : Value) (from1 : Int) (to2 : Int) : Option (List Int × Int) := (TF.fn X ap cv) NN permits0 from1 to2
def TF.st13 (permits0 : Value) (from1 : Int) (to2 : Int) (more8 : Int) (list10 : List Int) (v31 : Int) (v32 : Int) (v36 : List Int) (v37 : Int) (v38 : Int) (chosen11 : List PH.I) (v30 : List (List Int)) : St := ⟨[.dat .hdr permits0, .dat (.int .i64) from1, .dat (.int .i64) to2, .gone, .gone, .gone, .gone, .gone, .dat (.int .i64) more8, .gone, .dat (.sl 2 (.int .i64)) list10, .ref 0, .gone, .gone, .gone, .gone, .gone, .gone, .gone, .gone, .gone, .gone, .gone, .gone, .gone, .gone, .gone, .gone, .gone, .gone, .ref 1, .dat (.int .i64) v31, .dat (.int .i64) v32, .gone, .gone, .gone, .dat (.sl 2 (.int .i64)) v36, .dat (.int .i64) v37, .dat (.int .i64) v38, .gone, .gone, .gone, .gone, .gone, .gone, .gone, .gone, .gone, .gone, .gone, .gone, .gone, .gone, .gone, .gone, .gone], [.row 42 PH chosen11 none, .row 24 (.sl 2 (.int .i64)) v30 none]⟩
def TF.st9 (permits0 : Value) (from1 : Int) (to2 : Int) (more8 : Int) (v31 : Int) (v32 : Int) (v30 : List (List Int)) : St := ⟨[.dat .hdr permits0, .dat (.int .i64) from1, .dat (.int .i64) to2, .gone, .gone, .gone, .gone, .gone, .dat (.int .i64) more8, .gone, .gone, .gone, .gone, .gone, .gone, .gone, .gone, .gone, .gone, .gone, .gone, .gone, .gone, .gone, .gone, .gone, .gone, .gone, .gone, .gone, .ref 0, .dat (.int .i64) v31, .dat (.int .i64) v32, .gone, .gone, .gone, .gone, .gone, .gone, .gone, .gone, .gone, .gone, .gone, .gone, .gone, .gone, .gone, .gone, .gone, .gone, .gone, .gone, .gone, .gone, .gone], [.row 24 (.sl 2 (.int .i64)) v30 none]⟩
def TF.st6 (permits0 : Value) (from1 : Int) (to2 : Int) (more8 : Int) : St := ⟨[.dat .hdr permits0, .dat (.int .i64) from1, .dat (.int .i64) to2, .gone, .gone, .gone, .gone, .gone, .dat (.int .i64) more8, .gone, .gone, .gone, .gone, .gone, .gone, .gone, .gone, .gone, .gone, .gone, .gone, .gone, .gone, .gone, .gone, .gone, .gone, .gone, .gone, .gone, .gone, .gone, .gone, .gone, .gone, .gone, .gone, .gone, .gone, .gone, .gone, .gone, .gone, .gone, .gone, .gone, .gone, .gone, .gone, .gone, .gone, .gone, .gone, .gone, .gone, .gone], []⟩
def TF.con (X : HX) (ap : Option Bool) (cv : List PH.I → Int → Int → Option Bool) : Con := { ps := [(.val, .hdr), (.val, (.int .i64)), (.val, (.int .i64))], rs := [(.val, (.sl 2 (.int .i64))), (.val, (.int .i64))], F := fun x => (TF.f X ap cv) x.1 x.2.1 x.2.2 }
def TF.cs : List (FuncId × Con) := [(21, impl_areDays.con), (22, (impl_listsOf.con (fun a0 a1 a2 => impl_listsOf.f a0 a1 a2)))]
def TF.E : Env := envOf tab TF.cs 0 false
def TF.keep (i : Nat) : List Nat := if i = 13 then [0, 1, 2, 8, 10, 11, 30, 31, 32, 36, 37, 38] else if i = 9 then [0, 1, 2, 8, 30, 31, 32] else if i = 6 then [0, 1, 2, 8] else []
def TF.at13 (X : HX) (ap : Option Bool) (cv : List PH.I → Int → Int → Option Bool) (n : Nat) (x : Value × Int × Int) (M6 : St → Option ((List Int × Int))) (M9 : St → Option ((List Int × Int))) : Code × (Ex → St → Option ((List Int × Int))) := ctxH TF.E (HG X ap cv) TF.keep n [.snd, .snd, .snd, .fst, .snd, .blk, .rd M6, .snd, .fst, .blk, .snd, .blk, .rd M9, .snd, .snd, .fst, .blk, .snd, .snd, .fst, .snd, .blk] (codeOf Try.f7) (kEnd TF.E Try.f7 (TF.con X ap cv) x)
def TF.LN13 (X : HX) (ap : Option Bool) (cv : List PH.I → Int → Int → Option Bool) (n : Nat) (x : Value × Int × Int) (M6 : St → Option ((List Int × Int))) (M9 : St → Option ((List Int × Int))) : Nat → St → Option ((List Int × Int)) := loopN (execH TF.E (HG X ap cv) TF.keep n (bodyOf ((TF.at13 X ap cv) n x M6 M9).1)) (St.norm 0 (TF.keep 13)) ((TF.at13 X ap cv) n x M6 M9).2
def TF.at9 (X : HX) (ap : Option Bool) (cv : List PH.I → Int → Int → Option Bool) (n : Nat) (x : Value × Int × Int) (M6 : St → Option ((List Int × Int))) : Code × (Ex → St → Option ((List Int × Int))) := ctxH TF.E (HG X ap cv) TF.keep n [.snd, .snd, .snd, .fst, .snd, .blk, .rd M6, .snd, .fst, .blk, .snd, .blk] (codeOf Try.f7) (kEnd TF.E Try.f7 (TF.con X ap cv) x)
def TF.LN9 (X : HX) (ap : Option Bool) (cv : List PH.I → Int → Int → Option Bool) (n : Nat) (x : Value × Int × Int) (M6 : St → Option ((List Int × Int))) : Nat → St → Option ((List Int × Int)) := loopN (execH TF.E (HG X ap cv) TF.keep n (bodyOf ((TF.at9 X ap cv) n x M6).1)) (St.norm 0 (TF.keep 9)) ((TF.at9 X ap cv) n x M6).2
def TF.at6 (X : HX) (ap : Option Bool) (cv : List PH.I → Int → Int → Option Bool) (n : Nat) (x : Value × Int × Int) : Code × (Ex → St → Option ((List Int × Int))) := ctxH TF.E (HG X ap cv) TF.keep n [.snd, .snd, .snd, .fst, .snd, .blk] (codeOf Try.f7) (kEnd TF.E Try.f7 (TF.con X ap cv) x)
def TF.LN6 (X : HX) (ap : Option Bool) (cv : List PH.I → Int → Int → Option Bool) (n : Nat) (x : Value × Int × Int) : Nat → St → Option ((List Int × Int)) := loopN (execH TF.E (HG X ap cv) TF.keep n (bodyOf ((TF.at6 X ap cv) n x).1)) (St.norm 0 (TF.keep 6)) ((TF.at6 X ap cv) n x).2
set_option maxRecDepth 100000 in
theorem TF.lem13 (X : HX) (ap : Option Bool) (cv : List PH.I → Int → Int → Option Bool) (n : Nat) (x : Value × Int × Int) (M6 : St → Option ((List Int × Int))) (M9 : St → Option ((List Int × Int))) : ∀ (k : Nat) (permits0 : Value) (from1 : Int) (to2 : Int) (more8 : Int) (list10 : List Int) (v31 : Int) (v32 : Int) (v36 : List Int) (v37 : Int) (v38 : Int) (chosen11 : List PH.I) (v30 : List (List Int)), (TF.LN13 X ap cv) n x M6 M9 k (TF.st13 permits0 from1 to2 more8 list10 v31 v32 v36 v37 v38 chosen11 v30) = (TF.l13 X ap cv) n (fun permits0 from1 to2 more8 => M6 (TF.st6 permits0 from1 to2 more8)) (fun permits0 from1 to2 more8 v31 v32 v30 => M9 (TF.st9 permits0 from1 to2 more8 v31 v32 v30)) k permits0 from1 to2 more8 list10 v31 v32 v36 v37 v38 chosen11 v30 := by
  intro k
  induction k with
  | zero => intro permits0 from1 to2 more8 list10 v31 v32 v36 v37 v38 chosen11 v30; rfl
  | succ k ih =>
    intro permits0 from1 to2 more8 list10 v31 v32 v36 v37 v38 chosen11 v30
    have h : (TF.LN13 X ap cv) n x M6 M9 (k + 1) (TF.st13 permits0 from1 to2 more8 list10 v31 v32 v36 v37 v38 chosen11 v30) = (TF.g13 X ap cv) (fun permits0 from1 to2 more8 => M6 (TF.st6 permits0 from1 to2 more8)) (fun permits0 from1 to2 more8 v31 v32 v30 => M9 (TF.st9 permits0 from1 to2 more8 v31 v32 v30)) (fun permits0 from1 to2 more8 list10 v31 v32 v36 v37 v38 chosen11 v30 => (TF.LN13 X ap cv) n x M6 M9 k (TF.st13 permits0 from1 to2 more8 list10 v31 v32 v36 v37 v38 chosen11 v30)) permits0 from1 to2 more8 list10 v31 v32 v36 v37 v38 chosen11 v30 := by kernel_rfl
    rw [h]
    simp only [ih]
    rfl
set_option maxRecDepth 100000 in
theorem TF.lem9 (X : HX) (ap : Option Bool) (cv : List PH.I → Int → Int → Option Bool) (n : Nat) (x : Value × Int × Int) (M6 : St → Option ((List Int × Int))) : ∀ (k : Nat) (permits0 : Value) (from1 : Int) (to2 : Int) (more8 : Int) (v31 : Int) (v32 : Int) (v30 : List (List Int)), (TF.LN9 X ap cv) n x M6 k (TF.st9 permits0 from1 to2 more8 v31 v32 v30) = (TF.l9 X ap cv) n (fun permits0 from1 to2 more8 => M6 (TF.st6 permits0 from1 to2 more8)) k permits0 from1 to2 more8 v31 v32 v30 := by
  intro k
  induction k with
  | zero => intro permits0 from1 to2 more8 v31 v32 v30; rfl
  | succ k ih =>
    intro permits0 from1 to2 more8 v31 v32 v30
    have h : (TF.LN9 X ap cv) n x M6 (k + 1) (TF.st9 permits0 from1 to2 more8 v31 v32 v30) = (TF.g9 X ap cv) (fun permits0 from1 to2 more8 list10 v31 v32 v36 v37 v38 chosen11 v30 => (TF.LN13 X ap cv) n x M6 ((TF.LN9 X ap cv) n x M6 k) n (TF.st13 permits0 from1 to2 more8 list10 v31 v32 v36 v37 v38 chosen11 v30)) (fun permits0 from1 to2 more8 => M6 (TF.st6 permits0 from1 to2 more8)) (fun permits0 from1 to2 more8 v31 v32 v30 => (TF.LN9 X ap cv) n x M6 k (TF.st9 permits0 from1 to2 more8 v31 v32 v30)) permits0 from1 to2 more8 v31 v32 v30 := by kernel_rfl
    rw [h]
    simp only [ih, (TF.lem13 X ap cv)]
    rfl
set_option maxRecDepth 100000 in
theorem TF.lem6 (X : HX) (ap : Option Bool) (cv : List PH.I → Int → Int → Option Bool) (n : Nat) (x : Value × Int × Int) : ∀ (k : Nat) (permits0 : Value) (from1 : Int) (to2 : Int) (more8 : Int), (TF.LN6 X ap cv) n x k (TF.st6 permits0 from1 to2 more8) = (TF.l6 X ap cv) n k permits0 from1 to2 more8 := by
  intro k
  induction k with
  | zero => intro permits0 from1 to2 more8; rfl
  | succ k ih =>
    intro permits0 from1 to2 more8
    have h : (TF.LN6 X ap cv) n x (k + 1) (TF.st6 permits0 from1 to2 more8) = (TF.g6 X ap cv) (fun permits0 from1 to2 more8 v31 v32 v30 => (TF.LN9 X ap cv) n x ((TF.LN6 X ap cv) n x k) n (TF.st9 permits0 from1 to2 more8 v31 v32 v30)) (fun permits0 from1 to2 more8 => (TF.LN6 X ap cv) n x k (TF.st6 permits0 from1 to2 more8)) permits0 from1 to2 more8 := by kernel_rfl
    rw [h]
    simp only [ih, (TF.lem9 X ap cv)]
    rfl
set_option maxRecDepth 100000 in
theorem TF.body (X : HX) (ap : Option Bool) (cv : List PH.I → Int → Int → Option Bool) (n : Nat) (x : Value × Int × Int) : bodyFH (c := (TF.con X ap cv)) TF.E (HG X ap cv) TF.keep n Try.f7 x = (TF.fn X ap cv) n x.1 x.2.1 x.2.2 := by
  have h : bodyFH (c := (TF.con X ap cv)) TF.E (HG X ap cv) TF.keep n Try.f7 x = (TF.top X ap cv) (fun permits0 from1 to2 more8 => (TF.LN6 X ap cv) n x n (TF.st6 permits0 from1 to2 more8)) x.1 x.2.1 x.2.2 := by kernel_rfl
  rw [h]
  simp only [(TF.lem6 X ap cv)]
  rfl
end
end Go.Ev.Try

namespace Go.Ev.Try
open Go.Proofs Go.Pl
set_option linter.unusedVariables false
set_option linter.unusedSimpArgs false
theorem evs_three {s : St} {l : List Operand} {v u t : V} (h : evs s l = some [v, u, t]) : ∃ x y z, l = [x, y, z] ∧ s.ev x = some v ∧ s.ev y = some u ∧ s.ev z = some t := by
  cases l with
  | nil => simp [evs] at h
  | cons x l =>
    simp only [evs] at h
    split at h
    · rename_i v' l' h1 h2
      cases h
      obtain ⟨y, z, rfl, h3, h4⟩ := evs_two h2
      exact ⟨x, y, z, rfl, h1, h3, h4⟩
    · cases h
section
variable {base : Nat} {W0 : World} {IO Old : Nat → Prop} {φ0 : Nat → Value × Kd} {ρ : Type} {s : St} {a : Act} {w : World} {o : Oper}
theorem ev_hook {E' : Env} (hE' : EnvOk Try.prog E' IO Old) {io : Nat} (hio : E'.io = io) (hr : RelE base W0 IO Old io φ0 s a w) {s1 : St} (hev : ∀ k : St → Option Unit, evOp E' o s k = k s1)
    {next : Act → World → Prop} {Q : Exit → Act → World → Prop} (hn : ∀ a' w', RelE base W0 IO Old io φ0 s1 a' w' → next a' w') : o.wp Try.prog a w next Q := by
  classical
  subst hio
  refine (evOp_sound (Q := Q) (next := next) (k := fun s' => if s' = s1 then some () else none) (r := ()) hE' hr (fun s' a' w' hk hr' => ?_) (by rw [hev]; simp)).wp
  have : s' = s1 := by
    simp only at hk
    split at hk
    · assumption
    · cases hk
  subst this
  exact hn a' w' hr'
theorem ph_coe (y : PH.I) : Ty.coe PH PH y = some y := by
  obtain ⟨a, b, c, d, e, f⟩ := y
  rfl
def EH : Env := envOf tabH [] 0 false
theorem tH27 : EH.T 27 = some (.sl 42 PH, 0) := by kernel_rfl
structure HFF (X : HX) (ap : Option Bool) (cv : List PH.I → Int → Int → Option Bool) (base : Nat) (W0 : World) (U0 : Value) (ps : List PT.I) (A : Option Addr) (c : Nat) : Prop extends HF X base W0 U0 ps A c where
  le : ps.length ≤ c
  row : RowAt W0 (fun b => b < base) (Rs W0 (fun b => b < base) PT) 6 A ps
  ap : ∀ b, ap = some b → impl_arePermits.f ps = some b
  cv : ∀ ys f t b, cv ys f t = some b → ∃ xs : List PT.I, impl_covers.f xs f t = some b ∧ xs.length = ys.length ∧ ∀ (i : Nat) (y : PH.I) (x : PT.I), ys[i]? = some y → xs[i]? = some x → ∃ cs, Rs W0 (fun _ => True) PH y cs ∧ Rs W0 (fun b => b < base) PT x cs
theorem hg_ok {X : HX} {ap : Option Bool} {cv : List PH.I → Int → Int → Option Bool} {U0 : Value} {ps : List PT.I} {A : Option Addr} {c : Nat} (hX : HFF X ap cv base W0 U0 ps A c) (hIO : ∀ b, ¬ IO b) : HookOk (ρ := ρ) Try.prog TF.E base W0 IO Old φ0 (HG X ap cv) := by
  have hE : ∀ IO, EnvOk Try.prog (envOf tab [] 0 true) IO Old := fun IO => envOk (cs := []) tabok trivial 0 true _ _
  have hEH : EnvOk Try.prog EH IO Old := envOk (cs := []) tabokH trivial 0 false _ _
  intro o h hH s K r a w hk hr0 next Q hn
  obtain ⟨ow, φ, hr⟩ := hr0
  unfold HG at hH
  split at hH
  · rename_i cl hop
    split at hH
    · -- len
      rename_i hc
      split at hH
      · rename_i hat
        cases hH
        simp only at hk
        split at hk
        · rename_i u hevs
          split at hk
          · rename_i his
            obtain ⟨x, hx, hev⟩ := evs_one hevs
            have hu := VR_hdr (ev_sound hr hev)
            have hargs : cl.args = #[x] := by apply Array.ext'; exact hx
            obtain ⟨e, hd⟩ : ∃ e, Try.prog.underlying 27 = some (.slice e) := ⟨42, by kernel_rfl⟩
            obtain ⟨v, h1, h2⟩ := yld_len (φ := φ) (hk := kds s.hp) (S := Fz ow w Old base) (n := ps.length) hop hc hargs hat hd (.inr ⟨e, A, c, rfl, by rw [hu, hX.is u his, hX.u]⟩)
            refine wp_reads h1 (hn _ _ _ _ hk ⟨ow, φ, ?_⟩)
            rw [hX.n]
            exact hr.put h2 _
          · cases hk
        · cases hk
      · cases hH
    · -- append
      rename_i hc
      split at hH
      · rename_i hat
        cases hH
        simp only at hk
        split at hk
        · rename_i i j hevs
          split at hk
          · rename_i xs zs hi hj
            split at hk
            · rename_i hlt
              obtain ⟨x, y, hx, hev1, hev2⟩ := evs_two hevs
              refine ev_hook (io := 0) hEH rfl ⟨ow, φ, hr⟩ (s1 := (({ s with hp := s.hp.set i .dead ++ [.row 42 PH (xs ++ zs) none] } : St).put o.dst (.ref s.hp.length))) (fun k => ?_) (fun a' w' h' => hn _ _ _ _ hk h')
              have hfl : Ty.flat PH = true := by decide
              rw [hx] at hevs
              unfold evOp
              rw [hop]
              simp only [hc, evBuiltin, hx, hevs, hat, tH27, if_true, St.unnil, hfl, Bool.true_or, hev2, V.as, hj, dite_true, appendK, hi]
              rw [if_pos (.inl (Nat.zero_le _)), if_pos (by rw [show EH.bytes 42 = 64 from by kernel_rfl]; exact hlt)]
            · cases hk
          · cases hk
        · cases hk
      · cases hH
    · rename_i f hc
      split at hH
      · rename_i hf
        subst hf
        cases hH
        simp only at hk
        split at hk
        · rename_i u hevs
          split at hk
          · rename_i his
            rw [Option.bind_eq_some_iff] at hk
            obtain ⟨b, hb, hk⟩ := hk
            obtain ⟨x, hx, hev⟩ := evs_one hevs
            have hu := VR_hdr (ev_sound hr hev)
            rw [hX.is u his, hX.u] at hu
            refine call_raw (c := impl_arePermits.con) impl_arePermits.good hop hc (by simp [impl_arePermits.con, flatK, Ty.flat2, Ty.flat]) hr (x := ps) (r := b) (hX.ap b hb) (gs := [[]]) ?_ rfl fun a' w' h' => hn (.dat .bool b) s _ _ hk (by have h7 : RelE base W0 IO Old TF.E.io φ0 (({ s with hp := s.hp ++ [] } : St).put o.dst (.dat .bool b)) a' w' := h'; rwa [List.append_nil] at h7)
            rw [hx]
            refine ⟨_, _, _, _, rfl, rfl, ⟨rfl, [.slice A ps.length c], ⟨A, c, rfl, hX.le, ?_⟩, ?_⟩, rfl, rfl⟩
            · exact RowAt_move (fun b hb => ⟨Nat.lt_of_lt_of_le hb hr.sz, hr.fr b hb (hIO b)⟩) (fun x cs h => Rs_move (fun b hb => ⟨Nat.lt_of_lt_of_le hb hr.sz, hr.fr b hb (hIO b)⟩) _ _ _ h) hX.row
            · unfold Val; simp [isAgg, hu]
          · cases hk
        · cases hk
      · split at hH
        · rename_i hf
          subst hf
          cases hH
          simp only at hk
          split at hk
          · rename_i i f t hevs
            split at hk
            · rename_i ys hi
              rw [Option.bind_eq_some_iff] at hk
              obtain ⟨b, hb, hk⟩ := hk
              obtain ⟨x, y, z, hx, hev1, hev2, hev3⟩ := evs_three hevs
              obtain ⟨xs, hcv, hlen, hat⟩ := hX.cv ys f t b hb
              have hu := ev_sound hr hev1
              have h2 := VR_int (ev_sound hr hev2)
              have h3 := VR_int (ev_sound hr hev3)
              have hkd : kds s.hp i = some (.row 42 PH) := kds_some.2 ⟨_, hi, rfl⟩
              have hu2 : a.eval x = φ i := by
                rcases hu with hu | hu
                · rw [hkd] at hu; cases hu
                · exact hu.2
              have hbr := hr.hp i _ hi
              have hrow : ∃ A' c', φ i = .slice A' xs.length c' ∧ xs.length ≤ c' ∧ RowAt w (fun b => b < w.heap.size) (Rs w (fun b => b < w.heap.size) PT) PT.sz A' xs := by
                rcases hbr with ⟨h5, h6, _⟩ | ⟨g, cap, cells, h5, h6, h7, h8, h9, h10, h11⟩
                · subst h6
                  have : xs = [] := List.eq_nil_of_length_eq_zero hlen
                  subst this
                  exact ⟨none, 0, h5, Nat.le_refl _, fun i x hx => by simp at hx⟩
                · simp only [Option.getD_none, List.append_nil] at h10 h11
                  refine ⟨some ⟨g, 0, none⟩, cap, by rw [h5, hlen], by omega, fun j x' hx' => ?_⟩
                  have hj : j < ys.length := by have := (List.getElem?_eq_some_iff.1 hx').1; omega
                  obtain ⟨cs1, k1, k2⟩ := h11 j _ (List.getElem?_eq_getElem hj)
                  obtain ⟨cs, k3, k4⟩ := hat j _ x' (List.getElem?_eq_getElem hj) hx'
                  have := ph_cells k1 k3
                  subst this
                  refine ⟨⟨g, 0, none⟩, cs1, rfl, rfl, (hr.own g i h6).1, Rs_move (fun b hb => ⟨Nat.lt_of_lt_of_le hb hr.sz, hr.fr b hb (hIO b)⟩) _ _ _ k4, fun m u hm => ⟨?_, by unfold World.frozen?; simp [h7]⟩⟩
                  have := k2 m u hm
                  rw [cell_of h7]
                  show cells[0 + j * PT.sz + m]? = some u
                  rw [Nat.zero_add, ← Array.getElem?_toList]
                  exact this
              obtain ⟨A', c', e1, e2, e3⟩ := hrow
              refine call_raw (c := impl_covers.con) impl_covers.good hop hc (by simp [impl_covers.con, flatK, Ty.flat2, Ty.flat]) hr (x := (xs, f, t)) (r := b) hcv (gs := [[], [], []]) ?_ rfl fun a' w' h' => hn (.dat .bool b) s _ _ hk (by have h7 : RelE base W0 IO Old TF.E.io φ0 (({ s with hp := s.hp ++ [] } : St).put o.dst (.dat .bool b)) a' w' := h'; rwa [List.append_nil] at h7)
              rw [hx]
              refine ⟨_, _, _, _, rfl, rfl, ⟨rfl, [.slice A' xs.length c'], ⟨A', c', rfl, e2, e3⟩, ?_⟩, _, _, _, _, rfl, rfl, ⟨rfl, [.int .i64 f], rfl, ?_⟩, _, _, _, _, rfl, rfl, ⟨rfl, [.int .i64 t], rfl, ?_⟩, rfl, rfl⟩
              · unfold Val; simp [isAgg, hu2, e1]
              · unfold Val; simp [isAgg, h2]
              · unfold Val; simp [isAgg, h3]
            · cases hk
          · cases hk
        · cases hH
    · cases hH
  · -- assign
    rename_i x hop
    split at hH
    · rename_i ht
      cases hH
      simp only at hk
      split at hk
      · rename_i hev
        refine ev_hook (io := 0) hEH rfl ⟨ow, φ, hr⟩ (s1 := (({ s with hp := s.hp ++ [.row 42 PH [] none] } : St).put o.dst (.ref s.hp.length))) (fun k => ?_) (fun a' w' h' => hn _ _ _ _ hk h')
        unfold evOp
        rw [hop]
        simp only [hev, ht, tH27, St.nilRow]
      · rename_i v hne hev
        refine ev_hook (io := 0) hEH rfl ⟨ow, φ, hr⟩ (s1 := s.put o.dst v) (fun k => ?_) (fun a' w' h' => hn _ _ _ _ hk h')
        unfold evOp
        rw [hop]
        simp only [hev]
      · cases hk
    · cases hH
  · -- buildSlice
    rename_i t n' parts hop
    split at hH
    · rename_i ht
      subst ht
      cases hH
      simp only at hk
      split at hk
      · rename_i y hev
        split at hk
        · rename_i hn1
          subst hn1
          refine ev_hook (io := 0) hEH rfl ⟨ow, φ, hr⟩ (s1 := (({ s with hp := s.hp ++ [.row 42 PH [y] none] } : St).put o.dst (.ref s.hp.length))) (fun k => ?_) (fun a' w' h' => hn _ _ _ _ hk h')
          unfold evOp
          rw [hop]
          simp only [hev, tH27, litEl, V.as, ph_coe]
          exact if_pos (by simp [V.refs, Ty.sz])
        · cases hk
      · cases hk
    · cases hH
  · -- indexAddr
    rename_i t x i hop
    split at hH
    · rename_i ht
      subst ht
      cases hH
      simp only at hk
      split at hk
      · rename_i u k' i' hev1 hev2
        split at hk
        · rename_i his
          split at hk
          · rename_i hi
            rw [hX.n] at hi
            obtain ⟨q, hA, hq, hpt⟩ := hX.pt i' hi.1 hi.2
            have hu := VR_hdr (ev_sound hr hev1)
            rw [hX.is u his, hX.u, hA] at hu
            have hi2 := VR_int (ev_sound hr hev2)
            have hT := (hE (fun _ => False)).ty 42 _ _ (show (envOf tab [] 0 true).T 42 = some (PT, 6) by kernel_rfl)
            have hd : Try.prog.underlying 27 = some (.slice 42) := by kernel_rfl
            have hsz : PT.sz = 6 := by decide
            refine wp_reads (v := X.pt i') ⟨fun w' _ => ?_, fun _ w' => ?_⟩ (hn _ _ _ _ hk ⟨ow, φ, hr.put (mk_hdr (by rw [hpt]; rfl)) _⟩)
            all_goals
              rw [hpt]
              simp [execOp, hop, Instr.indexAt, asIntOf, hi2, run_underlying hd, hu, hi, hT.size, hsz, add_none q hq]
          · cases hk
        · cases hk
      · cases hk
    · cases hH
  · -- load
    rename_i t x hop
    split at hH
    · rename_i ht
      subst ht
      cases hH
      simp only at hk
      split at hk
      · rename_i p hev
        rw [Option.bind_eq_some_iff] at hk
        obtain ⟨y, hld, hk⟩ := hk
        obtain ⟨q, cs, rfl, hq, hb, hy, hcell⟩ := hX.ld _ y hld
        have hu := VR_hdr (ev_sound hr hev)
        have hT := (hE (fun _ => False)).ty 42 _ _ (show (envOf tab [] 0 true).T 42 = some (PT, 6) by kernel_rfl)
        have hl : cs.length = PT.sz := Rs_len PH _ _ hy
        have key : ∀ w' : World, (∀ b, b < w.heap.size → w'.heap[b]? = w.heap[b]?) → ∀ j u, cs[j]? = some u → w'.cell? ⟨q.block, q.off + j, none⟩ = some u := fun w' hw j u hj =>
          (cell_move (a := ⟨q.block, q.off + j, none⟩) ((hw _ (Nat.lt_of_lt_of_le hb hr.sz)).trans (hr.fr _ hb (hIO _)))).trans (hcell j u hj)
        refine wp_reads (v := .agg cs.toArray) ⟨fun w' hw => ?_, fun hm => by simp [memRead, hop] at hm⟩ (hn _ _ _ _ hk ⟨ow, φ, hr.put ?_ _⟩)
        · obtain ⟨v, h1, h2⟩ := run_loadVar (w := w') hT hq hl (key w' hw)
          have h3 : v = .agg cs.toArray := by unfold Val at h2; simpa [isAgg] using h2
          rw [h3] at h1
          simp only [execOp, hop, Instr.loadAt, hu, Instr.sureAddr, Sem.run_bind, Sem.run_pure, Result.andThen_ok, h1]
        · exact ⟨cs, ph_any hy, by unfold Val; simp [isAgg]⟩
      · cases hk
    · cases hH
  · cases hH
end
end Go.Ev.Try

namespace Go.Ev.Try
open Go.Proofs Go.Pl
set_option linter.unusedVariables false
set_option linter.unusedSimpArgs false
theorem ph_of {w w' : World} {S S' : Nat → Prop} {x : PT.I} {cs : List Value} (h : Rs w S PT x cs) : ∃ y : PH.I, Rs w' S' PH y cs := by
  obtain ⟨a0, b0, rfl, rfl, a1, b1, rfl, rfl, a2, b2, rfl, rfl, a3, b3, rfl, rfl, a4, b4, rfl, ⟨A, c, rfl, _⟩, rfl⟩ := h
  exact ⟨(x.1, (x.2.1, (x.2.2.1, (x.2.2.2.1, (.slice A x.2.2.2.2.1.length c, x.2.2.2.2.2))))), _, _, rfl, rfl, _, _, rfl, rfl, _, _, rfl, rfl, _, _, rfl, rfl, _, _, rfl, ⟨rfl, rfl⟩, rfl⟩
theorem row_inj {w : World} {S S' : Nat → Prop} {A : Option Addr} {xs ys : List Int} (hl : xs.length = ys.length) (h : RowAt w S (Rs w S (.int .i64)) 1 A xs) (k : RowAt w S' (Rs w S' (.int .i64)) 1 A ys) : xs = ys := by
  apply List.ext_getElem? 
  intro i
  by_cases hi : i < xs.length
  · have hj : i < ys.length := by omega
    obtain ⟨p, cs, h1, h2, h3, h4, h5⟩ := h i _ (List.getElem?_eq_getElem hi)
    obtain ⟨q, ds, k1, k2, k3, k4, k5⟩ := k i _ (List.getElem?_eq_getElem hj)
    rw [h1] at k1
    cases k1
    have e1 : cs = [.int .i64 xs[i]] := h4
    have e2 : ds = [.int .i64 ys[i]] := k4
    have g1 := (h5 0 (.int .i64 xs[i]) (by rw [e1]; rfl)).1
    have g2 := (k5 0 (.int .i64 ys[i]) (by rw [e2]; rfl)).1
    rw [g1] at g2
    injection g2 with g2
    injection g2 with _ g3
    rw [List.getElem?_eq_getElem hi, List.getElem?_eq_getElem hj, g3]
  · rw [List.getElem?_eq_none (by omega), List.getElem?_eq_none (by omega)]
theorem pt_inj {w : World} {S S' : Nat → Prop} {x y : PT.I} {cs : List Value} (h : Rs w S PT x cs) (k : Rs w S' PT y cs) : x = y := by
  obtain ⟨x0, x1, x2, x3, x4, x5⟩ := x
  obtain ⟨y0, y1, y2, y3, y4, y5⟩ := y
  obtain ⟨a0, b0, rfl, rfl, a1, b1, rfl, rfl, a2, b2, rfl, rfl, a3, b3, rfl, rfl, a4, b4, rfl, ⟨A, c, rfl, hc, hr⟩, rfl⟩ := h
  obtain ⟨c0, d0, e0, h0, c1, d1, e1, h1, c2, d2, e2, h2, c3, d3, e3, h3, c4, d4, e4, ⟨B, d, h4, hd, hs⟩, h5⟩ := k
  have h0' : c0 = [.int .i64 y0] := h0
  have h1' : c1 = [.int .i64 y1] := h1
  have h2' : c2 = [.int .i64 y2] := h2
  have h3' : c3 = [.int .i64 y3] := h3
  have h5' : d4 = [.int .i64 y5] := h5
  subst h0' h1' h2' h3' h5'
  subst h4
  rw [e4] at e3
  rw [e3] at e2
  rw [e2] at e1
  rw [e1] at e0
  simp only [List.cons_append, List.nil_append, List.cons.injEq, Value.int.injEq, Value.slice.injEq, true_and, and_true] at e0
  obtain ⟨q0, q1, q2, q3, ⟨q4, q5, q6⟩, q7⟩ := e0
  subst q0 q1 q2 q3 q7 q4
  rw [row_inj q5 hr hs]
end Go.Ev.Try

namespace Go.Ev.Try
open Go.Proofs Go.Pl
set_option linter.unusedVariables false
set_option linter.unusedSimpArgs false
noncomputable section
open Classical in
def theX (W0 : World) (base : Nat) (U0 : Value) (A : Option Addr) (ps : List PT.I) : HX where
  Is := fun u => decide (u = U0)
  n := ps.length
  pt := fun i => match A with
    | some p => .pointer (some ⟨p.block, p.off + i.toNat * 6, none⟩)
    | none => .slice none 0 0
  Ld := fun v => if h : ∃ (q : Addr) (y : PH.I), v = .pointer (some q) ∧ q.spot = none ∧ q.block < base ∧ ∃ cs, Rs W0 (fun _ => True) PH y cs ∧ ∀ j u, cs[j]? = some u → W0.cell? ⟨q.block, q.off + j, none⟩ = some u then some (Classical.choose (Classical.choose_spec h)) else none
  Fp := fun y b => if h : ∃ (x : PT.I) (cs : List Value), Rs W0 (fun _ => True) PH y cs ∧ Rs W0 (fun b => b < base) PT x cs then laws_toPermit.f (Classical.choose h) b else none
theorem theX_ok {W0 : World} {base : Nat} {A : Option Addr} {c : Nat} {ps : List PT.I} (hA : RowAt W0 (fun b => b < base) (Rs W0 (fun b => b < base) PT) 6 A ps) : HF (theX W0 base (.slice A ps.length c) A ps) base W0 (.slice A ps.length c) ps A c where
  u := rfl
  n := rfl
  is := fun u h => by simpa [theX] using h
  pt := fun i h0 h1 => by
    obtain ⟨p, cs, h2, h3, _⟩ := hA i.toNat _ (List.getElem?_eq_getElem (by omega))
    exact ⟨p, h2, h3, by simp [theX, h2]⟩
  ld := fun v y h => by
    simp only [theX] at h
    split at h
    · rename_i hx
      cases h
      obtain ⟨h1, h2, h3, cs, h4, h5⟩ := Classical.choose_spec (Classical.choose_spec hx)
      exact ⟨_, cs, h1, h2, h3, h4, h5⟩
    · cases h
  fp := fun y b r h => by
    simp only [theX] at h
    split at h
    · rename_i hx
      obtain ⟨cs, h1, h2⟩ := Classical.choose_spec hx
      exact ⟨_, cs, h, h1, h2⟩
    · cases h
theorem theX_at {W0 : World} {base : Nat} {U0 : Value} {A : Option Addr} {ps : List PT.I} (hA : RowAt W0 (fun b => b < base) (Rs W0 (fun b => b < base) PT) 6 A ps) {i : Int} (h0 : 0 ≤ i) (h1 : i < ps.length) (z : PT.I) :
    ∃ y, (theX W0 base U0 A ps).Ld ((theX W0 base U0 A ps).pt i) = some y ∧ ∀ b, (theX W0 base U0 A ps).Fp y b = laws_toPermit.f (ps.getD i.toNat z) b := by
  have hlt : i.toNat < ps.length := by omega
  obtain ⟨p, cs, rfl, h3, h4, h5, h6⟩ := hA i.toNat _ (List.getElem?_eq_getElem hlt)
  have hg : ps.getD i.toNat z = ps[i.toNat] := by rw [List.getD_eq_getElem?_getD, List.getElem?_eq_getElem hlt]; rfl
  obtain ⟨y0, hy0⟩ := ph_of (w' := W0) (S' := fun _ => True) h5
  have hex : ∃ (q : Addr) (y : PH.I), (theX W0 base U0 (some p) ps).pt i = .pointer (some q) ∧ q.spot = none ∧ q.block < base ∧ ∃ cs, Rs W0 (fun _ => True) PH y cs ∧ ∀ j u, cs[j]? = some u → W0.cell? ⟨q.block, q.off + j, none⟩ = some u :=
    ⟨⟨p.block, p.off + i.toNat * 6, none⟩, y0, rfl, rfl, h4, cs, hy0, fun j u hj => (h6 j u hj).1⟩
  have hld : (theX W0 base U0 (some p) ps).Ld ((theX W0 base U0 (some p) ps).pt i) = some (Classical.choose (Classical.choose_spec hex)) := by
    exact dif_pos hex
  refine ⟨_, hld, fun b => ?_⟩
  obtain ⟨q1, _, _, ds, q4, q5⟩ := Classical.choose_spec (Classical.choose_spec hex)
  generalize Classical.choose (Classical.choose_spec hex) = y at q4 ⊢
  generalize Classical.choose hex = q at q1 q5
  have hq : q = ⟨p.block, p.off + i.toNat * 6, none⟩ := by
    have : Value.pointer (some ⟨p.block, p.off + i.toNat * 6, none⟩) = .pointer (some q) := q1
    injection this with this
    injection this with this
    exact this.symm
  subst hq
  have hcs : ds = cs := by
    have l1 : ds.length = 6 := Rs_len PH _ _ q4
    have l2 : cs.length = 6 := Rs_len PT _ _ h5
    apply List.ext_getElem?
    intro j
    by_cases hj : j < cs.length
    · have hj2 : j < ds.length := by omega
      have e1 := q5 j _ (List.getElem?_eq_getElem hj2)
      have e2 := (h6 j _ (List.getElem?_eq_getElem hj)).1
      simp only at e1
      rw [e1] at e2
      rw [List.getElem?_eq_getElem hj, List.getElem?_eq_getElem hj2]; exact e2
    · rw [List.getElem?_eq_none (show ds.length ≤ j by omega), List.getElem?_eq_none (show cs.length ≤ j by omega)]
  subst hcs
  have hex2 : ∃ (x : PT.I) (cs : List Value), Rs W0 (fun _ => True) PH y cs ∧ Rs W0 (fun b => b < base) PT x cs := ⟨_, _, q4, h5⟩
  refine (dif_pos hex2).trans ?_
  obtain ⟨es, e1, e2⟩ := Classical.choose_spec hex2
  generalize Classical.choose hex2 = x at e2 ⊢
  have := ph_cells e1 q4
  subst this
  rw [pt_inj e2 h5, hg]
end
end Go.Ev.Try

namespace Go.Ev.Try
open Go.Proofs Go.Pl
set_option linter.unusedVariables false
set_option linter.unusedSimpArgs false
section
variable {X : HX} {ap : Option Bool} {cv : List PH.I → Int → Int → Option Bool} {U0 : Value} {ps : List PT.I} {R : PH.I → PT.I → Prop} {M : List PH.I → List PT.I → Prop}
structure FQ (X : HX) (ap : Option Bool) (cv : List PH.I → Int → Int → Option Bool) (U0 : Value) (ps : List PT.I) (R : PH.I → PT.I → Prop) (M : List PH.I → List PT.I → Prop) : Prop where
  is : X.Is U0 = true
  n : X.n = ps.length
  at' : ∀ i : Int, 0 ≤ i → i < ps.length → ∀ z : PT.I, ∃ y, X.Ld (X.pt i) = some y ∧ R y (ps.getD i.toNat z)
  ap : ap = impl_arePermits.f ps
  m0 : M [] []
  m1 : ∀ ys xs y x, M ys xs → R y x → M (ys ++ [y]) (xs ++ [x])
  ml : ∀ ys xs, M ys xs → ys.length = xs.length
  cv : ∀ ys xs f t, M ys xs → cv ys f t = impl_covers.f xs f t
theorem tf13 (h : FQ X ap cv U0 ps R M) {L6 : Value → Int → Int → Int → Option (List Int × Int)} {L6' : List PT.I → Int → Int → Int → Option (List Int × Int)} {L9 : Value → Int → Int → Int → Int → Int → List (List Int) → Option (List Int × Int)} {L9' : List PT.I → Int → Int → Int → Int → Int → List (List Int) → Option (List Int × Int)}
    (h9 : ∀ f t m a b v, L9 U0 f t m a b v = L9' ps f t m a b v) : ∀ (k : Nat) (f t m : Int) (l : List Int) (a b : Int) (v : List Int) (c d : Int) (ys : List PH.I) (xs : List PT.I) (vv : List (List Int)), M ys xs →
      TF.l13 X ap cv NN L6 L9 k U0 f t m l a b v c d ys vv = impl_FewestPermits.l13 NN L6' L9' k ps f t m l a b v c d xs vv := by
  intro k
  induction k with
  | zero => intros; rfl
  | succ k ih =>
    intro f t m l a b v c d ys xs vv hM
    simp only [TF.l13, TF.g13, impl_FewestPermits.l13, impl_FewestPermits.g13, h.is, h.n, h9, h.cv ys xs f t hM, if_true, h.ml ys xs hM]
    by_cases h0 : (decide (d < c)) = true
    · rw [if_pos h0, if_pos h0]
      by_cases h1 : (0 : Int) ≤ d ∧ d < (v.length : Int)
      · rw [if_pos h1, if_pos h1]
        by_cases h2 : (0 : Int) ≤ v.getD d.toNat 0 ∧ v.getD d.toNat 0 < (ps.length : Int)
        · obtain ⟨y, h3, h4⟩ := h.at' _ h2.1 h2.2 (0, (0, (0, (0, ([], 0)))))
          rw [if_pos h2, h3, Option.bind_some, if_pos h2]
          rw [ih f t m l a b v c _ _ _ vv (h.m1 ys xs y _ hM h4)]
          rfl
        · rw [if_neg h2, if_neg h2]
      · rw [if_neg h1, if_neg h1]
    · rw [if_neg h0, if_neg h0]
theorem tf9 (h : FQ X ap cv U0 ps R M) {L6 : Value → Int → Int → Int → Option (List Int × Int)} {L6' : List PT.I → Int → Int → Int → Option (List Int × Int)} (h6 : ∀ f t m, L6 U0 f t m = L6' ps f t m) : ∀ (k : Nat) (f t m a b : Int) (vv : List (List Int)),
      TF.l9 X ap cv NN L6 k U0 f t m a b vv = impl_FewestPermits.l9 NN L6' k ps f t m a b vv := by
  intro k
  induction k with
  | zero => intros; rfl
  | succ k ih =>
    intro f t m a b vv
    simp only [TF.l9, TF.g9, impl_FewestPermits.l9, impl_FewestPermits.g9, h6]
    rw [tf13 h (L6' := L6') ih NN f t m _ _ _ _ _ _ [] [] vv h.m0]
theorem tf6 (h : FQ X ap cv U0 ps R M) : ∀ (k : Nat) (f t m : Int), TF.l6 X ap cv NN k U0 f t m = impl_FewestPermits.l6 NN k ps f t m := by
  intro k
  induction k with
  | zero => intros; rfl
  | succ k ih =>
    intro f t m
    simp only [TF.l6, TF.g6, impl_FewestPermits.l6, impl_FewestPermits.g6, h.is, h.n, if_true, tf9 h ih]
theorem tf_eq (h : FQ X ap cv U0 ps R M) (f t : Int) : TF.f X ap cv U0 f t = impl_FewestPermits.f ps f t := by
  unfold TF.f TF.fn TF.top impl_FewestPermits.f impl_FewestPermits.fn impl_FewestPermits.top
  simp only [h.is, tf6 h, if_true]
  rw [h.ap]
end
end Go.Ev.Try

namespace Go.Ev.Try
open Go.Proofs Go.Pl
set_option linter.unusedVariables false
set_option linter.unusedSimpArgs false
noncomputable section
def PR (W0 : World) (base : Nat) (y : PH.I) (x : PT.I) : Prop := ∃ cs, Rs W0 (fun _ => True) PH y cs ∧ Rs W0 (fun b => b < base) PT x cs
def PM (W0 : World) (base : Nat) (ys : List PH.I) (xs : List PT.I) : Prop := xs.length = ys.length ∧ ∀ (i : Nat) (y : PH.I) (x : PT.I), ys[i]? = some y → xs[i]? = some x → PR W0 base y x
theorem pr_inj {W0 : World} {base : Nat} {y : PH.I} {x x' : PT.I} (h : PR W0 base y x) (k : PR W0 base y x') : x = x' := by
  obtain ⟨cs, h1, h2⟩ := h
  obtain ⟨ds, k1, k2⟩ := k
  have := ph_cells h1 k1
  subst this
  exact pt_inj h2 k2
theorem pm_inj {W0 : World} {base : Nat} {ys : List PH.I} {xs xs' : List PT.I} (h : PM W0 base ys xs) (k : PM W0 base ys xs') : xs = xs' := by
  apply List.ext_getElem?
  intro i
  by_cases hi : i < ys.length
  · have h1 : i < xs.length := by have := h.1; omega
    have h2 : i < xs'.length := by have := k.1; omega
    rw [List.getElem?_eq_getElem h1, List.getElem?_eq_getElem h2]
    rw [pr_inj (h.2 i _ _ (List.getElem?_eq_getElem hi) (List.getElem?_eq_getElem h1)) (k.2 i _ _ (List.getElem?_eq_getElem hi) (List.getElem?_eq_getElem h2))]
  · rw [List.getElem?_eq_none (by have := h.1; omega), List.getElem?_eq_none (by have := k.1; omega)]
open Classical in
def theCv (W0 : World) (base : Nat) (ys : List PH.I) (f t : Int) : Option Bool := if h : ∃ xs, PM W0 base ys xs then impl_covers.f (Classical.choose h) f t else none
section
variable {W0 : World} {base : Nat} {U0 : Value} {A : Option Addr} {c : Nat} {ps : List PT.I}
theorem theF_ok (hA : RowAt W0 (fun b => b < base) (Rs W0 (fun b => b < base) PT) 6 A ps) (hc : ps.length ≤ c) : HFF (theX W0 base (.slice A ps.length c) A ps) (impl_arePermits.f ps) (theCv W0 base) base W0 (.slice A ps.length c) ps A c where
  toHF := theX_ok hA
  le := hc
  row := hA
  ap := fun b h => h
  cv := fun ys f t b h => by
    unfold theCv at h
    split at h
    · rename_i hx
      exact ⟨_, h, (Classical.choose_spec hx).1, (Classical.choose_spec hx).2⟩
    · cases h
theorem theF_q (hA : RowAt W0 (fun b => b < base) (Rs W0 (fun b => b < base) PT) 6 A ps) : FQ (theX W0 base U0 A ps) (impl_arePermits.f ps) (theCv W0 base) U0 ps (PR W0 base) (PM W0 base) where
  is := by simp [theX]
  n := rfl
  at' := fun i h0 h1 z => by
    have hlt : i.toNat < ps.length := by omega
    obtain ⟨p, cs, rfl, h3, h4, h5, h6⟩ := hA i.toNat _ (List.getElem?_eq_getElem hlt)
    have hg : ps.getD i.toNat z = ps[i.toNat] := by rw [List.getD_eq_getElem?_getD, List.getElem?_eq_getElem hlt]; rfl
    obtain ⟨y0, hy0⟩ := ph_of (w' := W0) (S' := fun _ => True) h5
    have hex : ∃ (q : Addr) (y : PH.I), (theX W0 base U0 (some p) ps).pt i = .pointer (some q) ∧ q.spot = none ∧ q.block < base ∧ ∃ cs, Rs W0 (fun _ => True) PH y cs ∧ ∀ j u, cs[j]? = some u → W0.cell? ⟨q.block, q.off + j, none⟩ = some u :=
      ⟨⟨p.block, p.off + i.toNat * 6, none⟩, y0, rfl, rfl, h4, cs, hy0, fun j u hj => (h6 j u hj).1⟩
    have hld : (theX W0 base U0 (some p) ps).Ld ((theX W0 base U0 (some p) ps).pt i) = some (Classical.choose (Classical.choose_spec hex)) := by
      exact dif_pos hex
    refine ⟨_, hld, ?_⟩
    obtain ⟨q1, _, _, ds, q4, q5⟩ := Classical.choose_spec (Classical.choose_spec hex)
    generalize Classical.choose (Classical.choose_spec hex) = y at q4 ⊢
    generalize Classical.choose hex = q at q1 q5
    have hq : q = ⟨p.block, p.off + i.toNat * 6, none⟩ := by
      have : Value.pointer (some ⟨p.block, p.off + i.toNat * 6, none⟩) = .pointer (some q) := q1
      injection this with this
      injection this with this
      exact this.symm
    subst hq
    have hcs : ds = cs := by
      have l1 : ds.length = 6 := Rs_len PH _ _ q4
      have l2 : cs.length = 6 := Rs_len PT _ _ h5
      apply List.ext_getElem?
      intro j
      by_cases hj : j < cs.length
      · have hj2 : j < ds.length := by omega
        have e1 := q5 j _ (List.getElem?_eq_getElem hj2)
        have e2 := (h6 j _ (List.getElem?_eq_getElem hj)).1
        simp only at e1
        rw [e1] at e2
        rw [List.getElem?_eq_getElem hj, List.getElem?_eq_getElem hj2]; exact e2
      · rw [List.getElem?_eq_none (show ds.length ≤ j by omega), List.getElem?_eq_none (show cs.length ≤ j by omega)]
    subst hcs
    rw [hg]
    exact ⟨ds, q4, h5⟩
  ap := rfl
  m0 := ⟨rfl, fun i y x h => by simp at h⟩
  m1 := fun ys xs y x h k => by
    refine ⟨by simp [h.1], fun i y' x' h1 h2 => ?_⟩
    by_cases hi : i < ys.length
    · rw [List.getElem?_append_left hi] at h1
      rw [List.getElem?_append_left (by have := h.1; omega)] at h2
      exact h.2 i y' x' h1 h2
    · have hlt := (List.getElem?_eq_some_iff.1 h1).1
      simp only [List.length_append, List.length_singleton] at hlt
      have hi : i = ys.length := by omega
      subst hi
      rw [List.getElem?_append_right (Nat.le_refl _), Nat.sub_self] at h1
      rw [← h.1, List.getElem?_append_right (Nat.le_refl _), Nat.sub_self] at h2
      cases h1
      cases h2
      exact k
  ml := fun ys xs h => h.1.symm
  cv := fun ys xs f t h => by
    have hx : ∃ xs, PM W0 base ys xs := ⟨xs, h⟩
    refine (dif_pos hx).trans ?_
    rw [pm_inj (Classical.choose_spec hx) h]
end
end
end Go.Ev.Try

namespace Go.Ev.Try
open Go.Proofs Go.Pl Go.RowKit
set_option linter.unusedVariables false
set_option linter.unusedSimpArgs false
theorem fewest_at {w : World} {A : Option Addr} {c : Nat} {ps : List PT.I} (hA : RowAt w (fun b => b < w.heap.size) (Rs w (fun b => b < w.heap.size) PT) 6 A ps) (hc : ps.length ≤ c) {f t : Int} {r : List Int × Int} (hF : impl_FewestPermits.f ps f t = some r) :
    Calls Try.prog 7 #[.slice A ps.length c, .int .i64 f, .int .i64 t] w fun e w' => ∃ u, e = .returned (.tuple #[u, .int .i64 r.2]) ∧ Rs w' (fun b => w.heap.size ≤ b ∧ b < w'.heap.size) (.sl 2 (.int .i64)) r.1 [u] ∧ Below w.heap.size w w' := by
  let U0 : Value := .slice A ps.length c
  let X := theX w w.heap.size U0 A ps
  have hX : HFF X (impl_arePermits.f ps) (theCv w w.heap.size) w.heap.size w U0 ps A c := theF_ok hA hc
  have ht : TF.f X (impl_arePermits.f ps) (theCv w w.heap.size) U0 f t = some r := (tf_eq (theF_q (U0 := U0) hA) f t).trans hF
  have hex : bodyFH (c := TF.con X (impl_arePermits.f ps) (theCv w w.heap.size)) TF.E (HG X (impl_arePermits.f ps) (theCv w w.heap.size)) TF.keep NN Try.f7 (U0, f, t) = some r := (TF.body X _ _ NN (U0, f, t)).trans ht
  obtain ⟨code, hcode⟩ := Option.isSome_iff_exists.1 (show Try.f7.body.isSome = true by kernel_rfl)
  have hcd : codeOf Try.f7 = code := by unfold codeOf; rw [hcode]
  have hE : ∀ IO Old : Nat → Prop, EnvOk Try.prog TF.E IO Old := fun IO Old => envOk (cs := TF.cs) tabok ⟨impl_areDays.good, impl_listsOf.good, trivial⟩ 0 false IO Old
  unfold bodyFH at hex
  rw [hcd] at hex
  have key := soundAt_of_execH (c := TF.con X (impl_arePermits.f ps) (theCv w w.heap.size)) (x := (U0, f, t)) (r := r) hE Try.func7 hcode TF.keep (fun _ => rfl) (HG X (impl_arePermits.f ps) (theCv w w.heap.size)) hex w [U0, .int .i64 f, .int .i64 t] [[], [], []] (fun _ => False) (fun φ0 => hg_ok hX (by simp)) (fun b h => h.elim) (by simp) (by simp)
    ⟨_, _, _, _, rfl, rfl, ⟨rfl, [U0], ⟨rfl, rfl⟩, by unfold Val; simp [isAgg]⟩, _, _, _, _, rfl, rfl, ⟨rfl, [.int .i64 f], rfl, by unfold Val; simp [isAgg]⟩, _, _, _, _, rfl, rfl, ⟨rfl, [.int .i64 t], rfl, by unfold Val; simp [isAgg]⟩, rfl, rfl⟩
  refine key.mono fun e w' hp => ?_
  obtain ⟨us, hs, rfl, hl, h1, h2, h3, _, h4, h5, h6, h7, h8⟩ := hp
  obtain ⟨v, l, g0, g1, rfl, rfl, ⟨rfl, cs, hk, hv⟩, v2, l2, g2, g3, rfl, rfl, ⟨rfl, cs2, hk2, hv2⟩, rfl, rfl⟩ := h3
  have hv' : cs = [v] := by unfold Val at hv; simpa [isAgg] using hv
  have hk2' : cs2 = [.int .i64 r.2] := hk2
  have hv2' : cs2 = [v2] := by unfold Val at hv2; simpa [isAgg] using hv2
  have hvv : v2 = .int .i64 r.2 := by rw [hk2'] at hv2'; simpa using hv2'.symm
  subst hv' hvv
  refine ⟨v, rfl, Rs_mono (fun b hb => ?_) hk, ⟨h6, h7, h8, h5, fun b hb => h4 b hb (by simp)⟩⟩
  obtain ⟨k1, k2, k3⟩ := hb
  rcases k1 with (k1 | k1) | k1
  · exact k1.elim
  · cases k1
  · exact ⟨k1, k2⟩
end Go.Ev.Try

namespace Go.Pl
open Go.Ev
set_option linter.unusedVariables false
noncomputable section
def laws_toPermitS.g9 (L9 : (List (Int × Int × Int × Int × List Int × Int)) → Int → (List (Int × Int × Int × Int × (List Int × List Int) × Int)) → Option (List (Int × Int × Int × Int × (List Int × List Int) × Int) × List (Int × Int × Int × Int × (List Int × List Int) × Int))) (a0 : List (Int × Int × Int × Int × List Int × Int)) (i7 : Int) (out5 : List (Int × Int × Int × Int × (List Int × List Int) × Int)) : Option (List (Int × Int × Int × Int × (List Int × List Int) × Int) × List (Int × Int × Int × Int × (List Int × List Int) × Int)) :=
 if (decide ((i7 : Int) < (out5.length : Int))) = true then
 (laws_fillerPermit.f).bind fun r4 =>
 if (0 : Int) ≤ i7 ∧ (i7 : Int) < out5.length then
 L9 a0 (IntKind.i64.wrap (i7 + 1)) (out5.set (i7 : Int).toNat (r4.1, (r4.2.1, (r4.2.2.1, (r4.2.2.2.1, ((r4.2.2.2.2.1.1, r4.2.2.2.2.1.2), r4.2.2.2.2.2))))))
 else
 none
 else if (0 : Int) ≤ (a0.length : Int) ∧ ((a0.length : Int) : Int) ≤ out5.length then
 some (out5.take ((a0.length : Int) : Int).toNat, out5.drop ((a0.length : Int) : Int).toNat)
 else
 none
def laws_toPermitS.l9 (n : Nat) : Nat → (List (Int × Int × Int × Int × List Int × Int)) → Int → (List (Int × Int × Int × Int × (List Int × List Int) × Int)) → Option (List (Int × Int × Int × Int × (List Int × List Int) × Int) × List (Int × Int × Int × Int × (List Int × List Int) × Int))
 | 0 => fun _ _ _ => none
 | k + 1 => laws_toPermitS.g9 (laws_toPermitS.l9 n k)
def laws_toPermitS.g5 (I9 : (List (Int × Int × Int × Int × List Int × Int)) → Int → (List (Int × Int × Int × Int × (List Int × List Int) × Int)) → Option (List (Int × Int × Int × Int × (List Int × List Int) × Int) × List (Int × Int × Int × Int × (List Int × List Int) × Int))) (L5 : (List (Int × Int × Int × Int × List Int × Int)) → Bool → Int → (List (Int × Int × Int × Int × (List Int × List Int) × Int)) → Option (List (Int × Int × Int × Int × (List Int × List Int) × Int) × List (Int × Int × Int × Int × (List Int × List Int) × Int))) (a0 : List (Int × Int × Int × Int × List Int × Int)) (bare1 : Bool) (i6 : Int) (out5 : List (Int × Int × Int × Int × (List Int × List Int) × Int)) : Option (List (Int × Int × Int × Int × (List Int × List Int) × Int) × List (Int × Int × Int × Int × (List Int × List Int) × Int)) :=
 if (decide ((i6 : Int) < (a0.length : Int))) = true then
 if (0 : Int) ≤ i6 ∧ (i6 : Int) < a0.length then
 (laws_toPermit.f (a0.getD (i6 : Int).toNat (0, (0, (0, (0, ([], 0)))))) bare1).bind fun r3 =>
 if (0 : Int) ≤ i6 ∧ (i6 : Int) < out5.length then
 L5 a0 bare1 (IntKind.i64.wrap (i6 + 1)) (out5.set (i6 : Int).toNat (r3.1, (r3.2.1, (r3.2.2.1, (r3.2.2.2.1, ((r3.2.2.2.2.1.1, r3.2.2.2.2.1.2), r3.2.2.2.2.2))))))
 else
 none
 else
 none
 else
 I9 a0 (a0.length : Int) out5
def laws_toPermitS.l5 (n : Nat) : Nat → (List (Int × Int × Int × Int × List Int × Int)) → Bool → Int → (List (Int × Int × Int × Int × (List Int × List Int) × Int)) → Option (List (Int × Int × Int × Int × (List Int × List Int) × Int) × List (Int × Int × Int × Int × (List Int × List Int) × Int))
 | 0 => fun _ _ _ _ => none
 | k + 1 => laws_toPermitS.g5 (laws_toPermitS.l9 n n) (laws_toPermitS.l5 n k)
def laws_toPermitS.top (I5 : (List (Int × Int × Int × Int × List Int × Int)) → Bool → Int → (List (Int × Int × Int × Int × (List Int × List Int) × Int)) → Option (List (Int × Int × Int × Int × (List Int × List Int) × Int) × List (Int × Int × Int × Int × (List Int × List Int) × Int))) (a0 : List (Int × Int × Int × Int × List Int × Int)) (bare1 : Bool) : Option (List (Int × Int × Int × Int × (List Int × List Int) × Int) × List (Int × Int × Int × Int × (List Int × List Int) × Int)) :=
 if bare1 = true then
 if (((a0.length : Int) : Int) == 0) = true then
 some ([], [])
 else
 (laws_roomBehind.f (a0.length : Int)).bind fun r1 =>
 @ite _ ((0 : Int) ≤ (IntKind.i64.wrap ((a0.length : Int) + r1)) ∧ ((IntKind.i64.wrap ((a0.length : Int) + r1)) : Int) < room 64 ∧ ((IntKind.i64.wrap ((a0.length : Int) + r1)) : Int) = (IntKind.i64.wrap ((a0.length : Int) + r1))) (Classical.propDecidable _) (
 I5 a0 bare1 0 (List.replicate ((IntKind.i64.wrap ((a0.length : Int) + r1)) : Int).toNat (0, (0, (0, (0, (([], []), 0))))))
 ) (
 none
 )
 else
 (laws_roomBehind.f (a0.length : Int)).bind fun r2 =>
 @ite _ ((0 : Int) ≤ (IntKind.i64.wrap ((a0.length : Int) + r2)) ∧ ((IntKind.i64.wrap ((a0.length : Int) + r2)) : Int) < room 64 ∧ ((IntKind.i64.wrap ((a0.length : Int) + r2)) : Int) = (IntKind.i64.wrap ((a0.length : Int) + r2))) (Classical.propDecidable _) (
 I5 a0 bare1 0 (List.replicate ((IntKind.i64.wrap ((a0.length : Int) + r2)) : Int).toNat (0, (0, (0, (0, (([], []), 0))))))
 ) (
 none
 )
def laws_toPermitS.fn (n : Nat) (a0 : List (Int × Int × Int × Int × List Int × Int)) (bare1 : Bool) : Option (List (Int × Int × Int × Int × (List Int × List Int) × Int) × List (Int × Int × Int × Int × (List Int × List Int) × Int)) := laws_toPermitS.top (laws_toPermitS.l5 n n) a0 bare1
def laws_toPermitS.f (a0 : List (Int × Int × Int × Int × List Int × Int)) (bare1 : Bool) : Option (List (Int × Int × Int × Int × (List Int × List Int) × Int) × List (Int × Int × Int × Int × (List Int × List Int) × Int)) := laws_toPermitS.fn NN a0 bare1
end
end Go.Pl

namespace Go.Ev.Try
open Go.Proofs Go.Pl
set_option linter.unusedVariables false
set_option linter.unusedSimpArgs false
section
variable {X : HX} {U0 : Value} {ps : List PT.I}
theorem tx9 (his : X.Is U0 = true) (hn : X.n = ps.length) : ∀ (k : Nat) (i : Int) (out : List PD.I), TX.l9 X NN k U0 i out = laws_toPermitS.l9 NN k ps i out := by
  intro k
  induction k with
  | zero => intro i out; rfl
  | succ k ih =>
    intro i out
    simp only [TX.l9, TX.g9, laws_toPermitS.l9, laws_toPermitS.g9, his, hn, ih, if_true]
theorem tx5 (his : X.Is U0 = true) (hn : X.n = ps.length) (hat : ∀ i : Int, 0 ≤ i → i < ps.length → ∀ z : PT.I, ∃ y, X.Ld (X.pt i) = some y ∧ ∀ b, X.Fp y b = laws_toPermit.f (ps.getD i.toNat z) b) (b : Bool) : ∀ (k : Nat) (i : Int) (out : List PD.I), TX.l5 X NN k U0 b i out = laws_toPermitS.l5 NN k ps b i out := by
  intro k
  induction k with
  | zero => intro i out; rfl
  | succ k ih =>
    intro i out
    simp only [TX.l5, TX.g5, laws_toPermitS.l5, laws_toPermitS.g5, his, hn, ih, tx9 his hn, if_true]
    by_cases h : (0 : Int) ≤ i ∧ i < (ps.length : Int)
    · obtain ⟨y, h1, h2⟩ := hat i h.1 h.2 (0, (0, (0, (0, ([], 0)))))
      rw [if_pos h, h1, Option.bind_some, h2, if_pos h]
    · rw [if_neg h, if_neg h]
theorem tx_eq (his : X.Is U0 = true) (hn : X.n = ps.length) (hat : ∀ i : Int, 0 ≤ i → i < ps.length → ∀ z : PT.I, ∃ y, X.Ld (X.pt i) = some y ∧ ∀ b, X.Fp y b = laws_toPermit.f (ps.getD i.toNat z) b) (b : Bool) : TX.f X U0 b = laws_toPermitS.f ps b := by
  unfold TX.f TX.fn TX.top laws_toPermitS.f laws_toPermitS.fn laws_toPermitS.top
  simp only [his, hn, tx5 his hn hat, if_true]
end
end Go.Ev.Try

namespace Go.Ev.Try
open Go.Proofs Go.Pl
set_option linter.unusedVariables false
set_option linter.unusedSimpArgs false
theorem toPermitS_at {w : World} {A : Option Addr} {c : Nat} {ps : List PT.I} (hA : RowAt w (fun b => b < w.heap.size) (Rs w (fun b => b < w.heap.size) PT) 6 A ps) {b : Bool} {r : List PD.I × List PD.I} (hF : laws_toPermitS.f ps b = some r) :
    Calls Try.prog 6 #[.slice A ps.length c, .bool b] w fun e w' => ∃ u hs, e = .returned u ∧ hs.Nodup ∧ (∀ h ∈ hs, w.heap.size ≤ h ∧ h < w'.heap.size) ∧ KOk w' (fun b' => w.heap.size ≤ b' ∧ b' < w'.heap.size ∧ b' ∉ hs) .own (.slb 42 PD) r u hs ∧
      (∀ b', b' < w.heap.size → w'.heap[b']? = w.heap[b']?) ∧ w.heap.size ≤ w'.heap.size ∧ w'.os = w.os ∧ w'.tape = w.tape ∧ w'.output = w.output := by
  let U0 : Value := .slice A ps.length c
  let X := theX w w.heap.size U0 A ps
  have hX : HF X w.heap.size w U0 ps A c := theX_ok hA
  have his : X.Is U0 = true := by simp [X, theX]
  have hn : X.n = ps.length := rfl
  have ht : TX.f X U0 b = some r := (tx_eq his hn (fun i h0 h1 z => theX_at hA h0 h1 z) b).trans hF
  have hex : bodyFH (c := TX.con X) TX.E (HK X.Is X.n X.pt X.Ld X.Fp) TX.keep NN Try.f6 (U0, b) = some r := (TX.body X NN (U0, b)).trans ht
  obtain ⟨code, hcode⟩ := Option.isSome_iff_exists.1 (show Try.f6.body.isSome = true by kernel_rfl)
  have hcd : codeOf Try.f6 = code := by unfold codeOf; rw [hcode]
  have hE : ∀ IO Old : Nat → Prop, EnvOk Try.prog TX.E IO Old := fun IO Old => envOk (cs := TX.cs) tabokD ⟨laws_roomBehind.good, laws_fillerPermit.good, trivial⟩ 0 true IO Old
  unfold bodyFH at hex
  rw [hcd] at hex
  have key := soundAt_of_execH (c := TX.con X) (x := (U0, b)) (r := r) hE Try.func6 hcode TX.keep (fun _ => rfl) (HK X.Is X.n X.pt X.Ld X.Fp) hex w [U0, .bool b] [[], []] (fun _ => False) (fun φ0 => hk_ok hX (by simp)) (fun b h => h.elim) (by simp) (by simp)
    ⟨_, _, _, _, rfl, rfl, ⟨rfl, [U0], ⟨rfl, rfl⟩, by unfold Val; simp [isAgg]⟩, _, _, _, _, rfl, rfl, ⟨rfl, [.bool b], rfl, by unfold Val; simp [isAgg]⟩, rfl, rfl⟩
  refine key.mono fun e w' hp => ?_
  obtain ⟨us, hs, rfl, hl, h1, h2, h3, _, h4, h5, h6⟩ := hp
  obtain ⟨v, l, g0, g1, rfl, rfl, hk, rfl, rfl⟩ := h3
  have hg : kpG (TX.con X).gv ([[], []] : List (List Nat)) = [] := rfl
  have hv : ∀ b, b ∉ gvG (TX.con X).gv ([[], []] : List (List Nat)) := fun b hb => by cases hb
  simp only [List.flatten_cons, List.flatten_nil, List.append_nil, hg] at h1 h2 hk
  refine ⟨v, g0, rfl, h1, fun h hh => ⟨(h2 h hh).1.elim id fun h7 => absurd h7 (hv h), (h2 h hh).2⟩, KOk_S (fun b hb => ?_) hk, fun b hb => h4 b hb (by simp), h5, h6⟩
  obtain ⟨k1, k2, k3⟩ := hb
  refine ⟨?_, k2, k3⟩
  rcases k1 with (k1 | k1) | k1
  · exact k1.elim
  · exact absurd k1 (hv b)
  · exact k1
end Go.Ev.Try

namespace Go.Pl
open Go.Ev
set_option linter.unusedVariables false
noncomputable section
def spec_l01Own.top (list0 : List Int) : Option (List Int) :=
 if ([] : List Int).length + list0.length < room 8 then
 some (([] : List Int) ++ list0)
 else
 none
def spec_l01Own.fn (n : Nat) (list0 : List Int) : Option (List Int) := spec_l01Own.top list0
def spec_l01Own.f (list0 : List Int) : Option (List Int) := spec_l01Own.fn NN list0
end
end Go.Pl

namespace Go.Pl
open Go.Ev
set_option linter.unusedVariables false
noncomputable section
def spec_l19Lists.g5 (S : Int → Int → Int → List Int → Option (List (List Int))) (L5 : Int → Int → List Int → Int → List (List Int) → Option (List (List Int))) (n0 : Int) (more2 : Int) (begun3 : List Int) (i10 : Int) (out9 : List (List Int)) : Option (List (List Int)) :=
 if (decide ((i10 : Int) < n0)) = true then
 (spec_l01Own.f begun3).bind fun r1 =>
 if r1.length + ([i10]).length < room 8 then
 (S n0 (IntKind.i64.wrap (i10 + 1)) (IntKind.i64.wrap (more2 - 1)) (r1 ++ ([i10]))).bind fun r2 =>
 if out9.length + r2.length < room 24 then
 L5 n0 more2 begun3 (IntKind.i64.wrap (i10 + 1)) (out9 ++ r2)
 else
 none
 else
 none
 else
 some out9
def spec_l19Lists.l5 (S : Int → Int → Int → List Int → Option (List (List Int))) (n : Nat) : Nat → Int → Int → List Int → Int → List (List Int) → Option (List (List Int))
 | 0 => fun _ _ _ _ _ => none
 | k + 1 => (spec_l19Lists.g5 S) ((spec_l19Lists.l5 S) n k)
def spec_l19Lists.top (S : Int → Int → Int → List Int → Option (List (List Int))) (I5 : Int → Int → List Int → Int → List (List Int) → Option (List (List Int))) (n0 : Int) (from1 : Int) (more2 : Int) (begun3 : List Int) : Option (List (List Int)) :=
 if ((more2 : Int) == 0) = true then
 some ([begun3])
 else
 I5 n0 more2 begun3 from1 []
def spec_l19Lists.fn (S : Int → Int → Int → List Int → Option (List (List Int))) (n : Nat) (n0 : Int) (from1 : Int) (more2 : Int) (begun3 : List Int) : Option (List (List Int)) := (spec_l19Lists.top S) ((spec_l19Lists.l5 S) n n) n0 from1 more2 begun3
def spec_l19Lists.rc : Nat → Int → Int → Int → List Int → Option (List (List Int))
 | 0 => fun _ _ _ _ => none
 | k + 1 => (spec_l19Lists.fn (spec_l19Lists.rc k)) NN
def spec_l19Lists.f (n0 : Int) (from1 : Int) (more2 : Int) (begun3 : List Int) : Option (List (List Int)) := spec_l19Lists.rc NN n0 from1 more2 begun3
end
end Go.Pl

namespace Go.Pl
open Go.Ev
set_option linter.unusedVariables false
noncomputable section
def spec_l01In.top (n0 : Int) (low1 : Int) (high2 : Int) : Option Bool :=
 if (decide ((low1 : Int) ≤ n0)) = true then
 some (decide ((n0 : Int) ≤ high2))
 else
 some false
def spec_l01In.fn (n : Nat) (n0 : Int) (low1 : Int) (high2 : Int) : Option Bool := spec_l01In.top n0 low1 high2
def spec_l01In.f (n0 : Int) (low1 : Int) (high2 : Int) : Option Bool := spec_l01In.fn NN n0 low1 high2
end
end Go.Pl

namespace Go.Pl
open Go.Ev
set_option linter.unusedVariables false
noncomputable section
def spec_l30Cover.g5 (L2 : (List (Int × Int × Int × Int × List Int × Int)) → List Int → Int → Int → Option Bool) (L5 : (List (Int × Int × Int × Int × List Int × Int)) → List Int → Int → Int → Int → Int → Option Bool) (permits0 : List (Int × Int × Int × Int × List Int × Int)) (some1 : List Int) (to3 : Int) (day9 : Int) (last10 : Int) (i11 : Int) : Option Bool :=
 if (decide ((i11 : Int) < (some1.length : Int))) = true then
 if (0 : Int) ≤ i11 ∧ (i11 : Int) < some1.length then
 if (0 : Int) ≤ (some1.getD (i11 : Int).toNat 0) ∧ ((some1.getD (i11 : Int).toNat 0) : Int) < permits0.length then
 (spec_l01In.f day9 ((permits0.getD ((some1.getD (i11 : Int).toNat 0) : Int).toNat (0, (0, (0, (0, ([], 0)))))).1) (((permits0.getD ((some1.getD (i11 : Int).toNat 0) : Int).toNat (0, (0, (0, (0, ([], 0)))))).2).1)).bind fun r1 =>
 if r1 = true then
 L5 permits0 some1 to3 day9 (if (((permits0.getD ((some1.getD (i11 : Int).toNat 0) : Int).toNat (0, (0, (0, (0, ([], 0)))))).2).1) > last10 then (((permits0.getD ((some1.getD (i11 : Int).toNat 0) : Int).toNat (0, (0, (0, (0, ([], 0)))))).2).1) else last10) (IntKind.i64.wrap (i11 + 1))
 else
 L5 permits0 some1 to3 day9 last10 (IntKind.i64.wrap (i11 + 1))
 else
 none
 else
 none
 else if (decide ((last10 : Int) < day9)) = true then
 some false
 else
 L2 permits0 some1 to3 (IntKind.i64.wrap (last10 + 1))
def spec_l30Cover.l5 (n : Nat) (L2 : (List (Int × Int × Int × Int × List Int × Int)) → List Int → Int → Int → Option Bool) : Nat → (List (Int × Int × Int × Int × List Int × Int)) → List Int → Int → Int → Int → Int → Option Bool
 | 0 => fun _ _ _ _ _ _ => none
 | k + 1 => spec_l30Cover.g5 L2 (spec_l30Cover.l5 n L2 k)
def spec_l30Cover.g2 (I5 : (List (Int × Int × Int × Int × List Int × Int)) → List Int → Int → Int → Int → Int → Option Bool) (L2 : (List (Int × Int × Int × Int × List Int × Int)) → List Int → Int → Int → Option Bool) (permits0 : List (Int × Int × Int × Int × List Int × Int)) (some1 : List Int) (to3 : Int) (day9 : Int) : Option Bool :=
 if (decide ((day9 : Int) ≤ to3)) = true then
 I5 permits0 some1 to3 day9 (IntKind.i64.wrap (day9 - 1)) 0
 else
 some true
def spec_l30Cover.l2 (n : Nat) : Nat → (List (Int × Int × Int × Int × List Int × Int)) → List Int → Int → Int → Option Bool
 | 0 => fun _ _ _ _ => none
 | k + 1 => spec_l30Cover.g2 (spec_l30Cover.l5 n (spec_l30Cover.l2 n k) n) (spec_l30Cover.l2 n k)
def spec_l30Cover.top (I2 : (List (Int × Int × Int × Int × List Int × Int)) → List Int → Int → Int → Option Bool) (permits0 : List (Int × Int × Int × Int × List Int × Int)) (some1 : List Int) (from2 : Int) (to3 : Int) : Option Bool :=
 I2 permits0 some1 to3 from2
def spec_l30Cover.fn (n : Nat) (permits0 : List (Int × Int × Int × Int × List Int × Int)) (some1 : List Int) (from2 : Int) (to3 : Int) : Option Bool := spec_l30Cover.top (spec_l30Cover.l2 n n) permits0 some1 from2 to3
def spec_l30Cover.f (permits0 : List (Int × Int × Int × Int × List Int × Int)) (some1 : List Int) (from2 : Int) (to3 : Int) : Option Bool := spec_l30Cover.fn NN permits0 some1 from2 to3
end
end Go.Pl

namespace Go.Pl
open Go.Ev
set_option linter.unusedVariables false
noncomputable section
def spec_l01Rises.g2 (L2 : List Int → Int → Int → Option Bool) (list0 : List Int) (n1 : Int) (i5 : Int) : Option Bool :=
 if (decide ((i5 : Int) < (list0.length : Int))) = true then
 if (0 : Int) ≤ i5 ∧ (i5 : Int) < list0.length then
 (spec_l01In.f (list0.getD (i5 : Int).toNat 0) 0 (IntKind.i64.wrap (n1 - 1))).bind fun r1 =>
 if (!r1) = false then
 if (decide ((0 : Int) < i5)) = true then
 if (0 : Int) ≤ i5 ∧ (i5 : Int) < list0.length then
 if (0 : Int) ≤ (IntKind.i64.wrap (i5 - 1)) ∧ ((IntKind.i64.wrap (i5 - 1)) : Int) < list0.length then
 if (decide (((list0.getD (i5 : Int).toNat 0) : Int) ≤ (list0.getD ((IntKind.i64.wrap (i5 - 1)) : Int).toNat 0))) = true then
 some false
 else
 L2 list0 n1 (IntKind.i64.wrap (i5 + 1))
 else
 none
 else
 none
 else
 L2 list0 n1 (IntKind.i64.wrap (i5 + 1))
 else
 some false
 else
 none
 else
 some true
def spec_l01Rises.l2 (n : Nat) : Nat → List Int → Int → Int → Option Bool
 | 0 => fun _ _ _ => none
 | k + 1 => spec_l01Rises.g2 (spec_l01Rises.l2 n k)
def spec_l01Rises.top (I2 : List Int → Int → Int → Option Bool) (list0 : List Int) (n1 : Int) : Option Bool :=
 I2 list0 n1 0
def spec_l01Rises.fn (n : Nat) (list0 : List Int) (n1 : Int) : Option Bool := spec_l01Rises.top (spec_l01Rises.l2 n n) list0 n1
def spec_l01Rises.f (list0 : List Int) (n1 : Int) : Option Bool := spec_l01Rises.fn NN list0 n1
end
end Go.Pl

namespace Go.Pl
open Go.Ev
set_option linter.unusedVariables false
noncomputable section
def spec_IsPermit.top (p0 : Int × Int × Int × Int × List Int × Int) : Option Bool :=
 (spec_l01In.f p0.1 0 100000).bind fun r1 =>
 if r1 = true then
 (spec_l01In.f p0.2.1 p0.1 100000).bind fun r2 =>
 if r2 = true then
 (spec_l01In.f p0.2.2.1 0 1000000000).bind fun r3 =>
 if r3 = true then
 (spec_l01In.f p0.2.2.2.1 20 300).bind fun r4 =>
 if r4 = true then
 (spec_l01Rises.f p0.2.2.2.2.1 4).bind fun r5 =>
 if r5 = true then
 (spec_l01In.f p0.2.2.2.2.2 0 3).bind fun r6 =>
 some r6
 else
 some false
 else
 some false
 else
 some false
 else
 some false
 else
 some false
def spec_IsPermit.fn (n : Nat) (p0 : Int × Int × Int × Int × List Int × Int) : Option Bool := spec_IsPermit.top p0
def spec_IsPermit.f (p0 : Int × Int × Int × Int × List Int × Int) : Option Bool := spec_IsPermit.fn NN p0
end
end Go.Pl

namespace Go.Pl
open Go.Ev
set_option linter.unusedVariables false
noncomputable section
def spec_l30All.g2 (L2 : (List (Int × Int × Int × Int × List Int × Int)) → Int → Option Bool) (permits0 : List (Int × Int × Int × Int × List Int × Int)) (i3 : Int) : Option Bool :=
 if (decide ((i3 : Int) < (permits0.length : Int))) = true then
 if (0 : Int) ≤ i3 ∧ (i3 : Int) < permits0.length then
 (spec_IsPermit.f (permits0.getD (i3 : Int).toNat (0, (0, (0, (0, ([], 0))))))).bind fun r1 =>
 if (!r1) = true then
 some false
 else
 L2 permits0 (IntKind.i64.wrap (i3 + 1))
 else
 none
 else
 some (decide (((permits0.length : Int) : Int) ≤ 8))
def spec_l30All.l2 (n : Nat) : Nat → (List (Int × Int × Int × Int × List Int × Int)) → Int → Option Bool
 | 0 => fun _ _ => none
 | k + 1 => spec_l30All.g2 (spec_l30All.l2 n k)
def spec_l30All.top (I2 : (List (Int × Int × Int × Int × List Int × Int)) → Int → Option Bool) (permits0 : List (Int × Int × Int × Int × List Int × Int)) : Option Bool :=
 I2 permits0 0
def spec_l30All.fn (n : Nat) (permits0 : List (Int × Int × Int × Int × List Int × Int)) : Option Bool := spec_l30All.top (spec_l30All.l2 n n) permits0
def spec_l30All.f (permits0 : List (Int × Int × Int × Int × List Int × Int)) : Option Bool := spec_l30All.fn NN permits0
end
end Go.Pl

namespace Go.Pl
open Go.Ev
set_option linter.unusedVariables false
noncomputable section
def spec_l30Days.top (permits0 : List (Int × Int × Int × Int × List Int × Int)) (from1 : Int) (to2 : Int) : Option Int :=
 (spec_l30All.f permits0).bind fun r1 =>
 if (!r1) = true then
 some 1
 else
 (spec_l01In.f from1 0 100000).bind fun r2 =>
 if (!r2) = false then
 (spec_l01In.f to2 from1 100000).bind fun r3 =>
 if (!r3) = true then
 some 2
 else
 some 0
 else
 some 2
def spec_l30Days.fn (n : Nat) (permits0 : List (Int × Int × Int × Int × List Int × Int)) (from1 : Int) (to2 : Int) : Option Int := spec_l30Days.top permits0 from1 to2
def spec_l30Days.f (permits0 : List (Int × Int × Int × Int × List Int × Int)) (from1 : Int) (to2 : Int) : Option Int := spec_l30Days.fn NN permits0 from1 to2
end
end Go.Pl

namespace Go.Pl
open Go.Ev
set_option linter.unusedVariables false
noncomputable section
def spec_FewestPermits.g10 (L6 : (List (Int × Int × Int × Int × List Int × Int)) → Int → Int → Int → Int → Option (List Int × Int)) (L10 : (List (Int × Int × Int × Int × List Int × Int)) → Int → Int → Int → Int → Int → List (List Int) → Option (List Int × Int)) (permits0 : List (Int × Int × Int × Int × List Int × Int)) (from1 : Int) (to2 : Int) (n9 : Int) (k10 : Int) (i12 : Int) (lists11 : List (List Int)) : Option (List Int × Int) :=
 if (decide ((i12 : Int) < (lists11.length : Int))) = true then
 if (0 : Int) ≤ i12 ∧ (i12 : Int) < lists11.length then
 (spec_l30Cover.f permits0 (lists11.getD (i12 : Int).toNat []) from1 to2).bind fun r3 =>
 if r3 = true then
 if (0 : Int) ≤ i12 ∧ (i12 : Int) < lists11.length then
 some (lists11.getD (i12 : Int).toNat [], 0)
 else
 none
 else
 L10 permits0 from1 to2 n9 k10 (IntKind.i64.wrap (i12 + 1)) lists11
 else
 none
 else
 L6 permits0 from1 to2 n9 (IntKind.i64.wrap (k10 + 1))
def spec_FewestPermits.l10 (n : Nat) (L6 : (List (Int × Int × Int × Int × List Int × Int)) → Int → Int → Int → Int → Option (List Int × Int)) : Nat → (List (Int × Int × Int × Int × List Int × Int)) → Int → Int → Int → Int → Int → List (List Int) → Option (List Int × Int)
 | 0 => fun _ _ _ _ _ _ _ => none
 | k + 1 => spec_FewestPermits.g10 L6 (spec_FewestPermits.l10 n L6 k)
def spec_FewestPermits.g6 (I10 : (List (Int × Int × Int × Int × List Int × Int)) → Int → Int → Int → Int → Int → List (List Int) → Option (List Int × Int)) (L6 : (List (Int × Int × Int × Int × List Int × Int)) → Int → Int → Int → Int → Option (List Int × Int)) (permits0 : List (Int × Int × Int × Int × List Int × Int)) (from1 : Int) (to2 : Int) (n9 : Int) (k10 : Int) : Option (List Int × Int) :=
 if (decide ((k10 : Int) ≤ n9)) = true then
 (spec_l19Lists.f n9 0 k10 []).bind fun r2 =>
 I10 permits0 from1 to2 n9 k10 0 r2
 else
 some ([], 4)
def spec_FewestPermits.l6 (n : Nat) : Nat → (List (Int × Int × Int × Int × List Int × Int)) → Int → Int → Int → Int → Option (List Int × Int)
 | 0 => fun _ _ _ _ _ => none
 | k + 1 => spec_FewestPermits.g6 (spec_FewestPermits.l10 n (spec_FewestPermits.l6 n k) n) (spec_FewestPermits.l6 n k)
def spec_FewestPermits.top (I6 : (List (Int × Int × Int × Int × List Int × Int)) → Int → Int → Int → Int → Option (List Int × Int)) (permits0 : List (Int × Int × Int × Int × List Int × Int)) (from1 : Int) (to2 : Int) : Option (List Int × Int) :=
 (spec_l30Days.f permits0 from1 to2).bind fun r1 =>
 if ((r1 : Int) != 0) = true then
 some ([], r1)
 else
 I6 permits0 from1 to2 (permits0.length : Int) 1
def spec_FewestPermits.fn (n : Nat) (permits0 : List (Int × Int × Int × Int × List Int × Int)) (from1 : Int) (to2 : Int) : Option (List Int × Int) := spec_FewestPermits.top (spec_FewestPermits.l6 n n) permits0 from1 to2
def spec_FewestPermits.f (permits0 : List (Int × Int × Int × Int × List Int × Int)) (from1 : Int) (to2 : Int) : Option (List Int × Int) := spec_FewestPermits.fn NN permits0 from1 to2
end
end Go.Pl

namespace Go.Ev.Try
open Go.Proofs Go.Pl
set_option linter.unusedVariables false
noncomputable section
def spec_l01In.con : Con := { ps := [(.val, (.int .i64)), (.val, (.int .i64)), (.val, (.int .i64))], rs := [(.val, .bool)], F := fun x => spec_l01In.f x.1 x.2.1 x.2.2 }
def spec_l01In.cs : List (FuncId × Con) := []
def spec_l01In.E : Env := envOf tab spec_l01In.cs 0 false
def spec_l01In.keep (i : Nat) : List Nat := []
set_option maxRecDepth 100000 in
theorem spec_l01In.body (n : Nat) (x : Int × Int × Int) : bodyF spec_l01In.E spec_l01In.keep n Try.f28 spec_l01In.con x = spec_l01In.fn n x.1 x.2.1 x.2.2 := by
 have h : bodyF spec_l01In.E spec_l01In.keep n Try.f28 spec_l01In.con x = spec_l01In.top x.1 x.2.1 x.2.2 := by kernel_rfl
 exact h
set_option maxRecDepth 100000 in
theorem spec_l01In.good : Good Try.prog 28 spec_l01In.con :=
 good_of tabok (cs := spec_l01In.cs) trivial 0 false (fn := Try.f28) Try.func28 rfl (by decide) (by simp [spec_l01In.con]) spec_l01In.keep NN (fun _ => rfl) (fun x => spec_l01In.body NN x)
end
end Go.Ev.Try

namespace Go.Ev.Try
open Go.Proofs Go.Pl
set_option linter.unusedVariables false
noncomputable section
def spec_l01Rises.st2 (list0 : List Int) (n1 : Int) (i5 : Int) : St := ⟨[.dat (.sl 2 (.int .i64)) list0, .dat (.int .i64) n1, .gone, .gone, .gone, .dat (.int .i64) i5, .gone, .gone, .gone, .gone, .gone, .gone, .gone, .gone, .gone, .gone, .gone, .gone, .gone, .gone, .gone, .gone, .gone, .gone, .gone, .gone, .gone, .gone, .gone, .gone, .gone, .gone, .gone, .gone, .gone, .gone], []⟩
def spec_l01Rises.con : Con := { ps := [(.val, (.sl 2 (.int .i64))), (.val, (.int .i64))], rs := [(.val, .bool)], F := fun x => spec_l01Rises.f x.1 x.2 }
def spec_l01Rises.cs : List (FuncId × Con) := [(28, spec_l01In.con)]
def spec_l01Rises.E : Env := envOf tab spec_l01Rises.cs 0 false
def spec_l01Rises.keep (i : Nat) : List Nat := if i = 2 then [0, 1, 5] else []
def spec_l01Rises.at2 (n : Nat) (x : List Int × Int) : Code × (Ex → St → Option (Bool)) := ctx spec_l01Rises.E spec_l01Rises.keep n [.snd, .fst, .snd, .blk] (codeOf Try.f39) (kEnd spec_l01Rises.E Try.f39 spec_l01Rises.con x)
def spec_l01Rises.LN2 (n : Nat) (x : List Int × Int) : Nat → St → Option (Bool) := loopN (exec spec_l01Rises.E spec_l01Rises.keep n (bodyOf (spec_l01Rises.at2 n x).1)) (St.norm 0 (spec_l01Rises.keep 2)) (spec_l01Rises.at2 n x).2
set_option maxRecDepth 100000 in
theorem spec_l01Rises.lem2 (n : Nat) (x : List Int × Int) : ∀ (k : Nat) (list0 : List Int) (n1 : Int) (i5 : Int), spec_l01Rises.LN2 n x k (spec_l01Rises.st2 list0 n1 i5) = spec_l01Rises.l2 n k list0 n1 i5 := by
 intro k
 induction k with
 | zero => intro list0 n1 i5; rfl
 | succ k ih =>
  intro list0 n1 i5
  have h : spec_l01Rises.LN2 n x (k + 1) (spec_l01Rises.st2 list0 n1 i5) = spec_l01Rises.g2 (fun list0 n1 i5 => spec_l01Rises.LN2 n x k (spec_l01Rises.st2 list0 n1 i5)) list0 n1 i5 := by kernel_rfl
  rw [h]
  simp only [ih]
  rfl
set_option maxRecDepth 100000 in
theorem spec_l01Rises.body (n : Nat) (x : List Int × Int) : bodyF spec_l01Rises.E spec_l01Rises.keep n Try.f39 spec_l01Rises.con x = spec_l01Rises.fn n x.1 x.2 := by
 have h : bodyF spec_l01Rises.E spec_l01Rises.keep n Try.f39 spec_l01Rises.con x = spec_l01Rises.top (fun list0 n1 i5 => spec_l01Rises.LN2 n x n (spec_l01Rises.st2 list0 n1 i5)) x.1 x.2 := by kernel_rfl
 rw [h]
 simp only [spec_l01Rises.lem2]
 rfl
set_option maxRecDepth 100000 in
theorem spec_l01Rises.good : Good Try.prog 39 spec_l01Rises.con :=
 good_of tabok (cs := spec_l01Rises.cs) ⟨spec_l01In.good, trivial⟩ 0 false (fn := Try.f39) Try.func39 rfl (by decide) (by simp [spec_l01Rises.con]) spec_l01Rises.keep NN (fun _ => rfl) (fun x => spec_l01Rises.body NN x)
end
end Go.Ev.Try

namespace Go.Ev.Try
open Go.Proofs Go.Pl
set_option linter.unusedVariables false
noncomputable section
def spec_IsPermit.con : Con := { ps := [(.val, (.pair (.int .i64) (.pair (.int .i64) (.pair (.int .i64) (.pair (.int .i64) (.pair (.sl 2 (.int .i64)) (.int .i64)))))))], rs := [(.val, .bool)], F := fun x => spec_IsPermit.f x }
def spec_IsPermit.cs : List (FuncId × Con) := [(28, spec_l01In.con), (39, spec_l01Rises.con)]
def spec_IsPermit.E : Env := envOf tab spec_IsPermit.cs 0 false
def spec_IsPermit.keep (i : Nat) : List Nat := []
set_option maxRecDepth 100000 in
theorem spec_IsPermit.body (n : Nat) (x : Int × Int × Int × Int × List Int × Int) : bodyF spec_IsPermit.E spec_IsPermit.keep n Try.f36 spec_IsPermit.con x = spec_IsPermit.fn n x := by
 have h : bodyF spec_IsPermit.E spec_IsPermit.keep n Try.f36 spec_IsPermit.con x = spec_IsPermit.top x := by kernel_rfl
 exact h
set_option maxRecDepth 100000 in
theorem spec_IsPermit.good : Good Try.prog 36 spec_IsPermit.con :=
 good_of tabok (cs := spec_IsPermit.cs) ⟨spec_l01In.good, spec_l01Rises.good, trivial⟩ 0 false (fn := Try.f36) Try.func36 rfl (by decide) (by simp [spec_IsPermit.con]) spec_IsPermit.keep NN (fun _ => rfl) (fun x => spec_IsPermit.body NN x)
end
end Go.Ev.Try

namespace Go.Ev.Try
open Go.Proofs Go.Pl
set_option linter.unusedVariables false
noncomputable section
def spec_l30All.st2 (permits0 : List (Int × Int × Int × Int × List Int × Int)) (i3 : Int) : St := ⟨[.dat (.sl 42 (.pair (.int .i64) (.pair (.int .i64) (.pair (.int .i64) (.pair (.int .i64) (.pair (.sl 2 (.int .i64)) (.int .i64))))))) permits0, .gone, .gone, .dat (.int .i64) i3, .gone, .gone, .gone, .gone, .gone, .gone, .gone, .gone, .gone, .gone, .gone, .gone, .gone, .gone, .gone], []⟩
def spec_l30All.con : Con := { ps := [(.val, (.sl 42 (.pair (.int .i64) (.pair (.int .i64) (.pair (.int .i64) (.pair (.int .i64) (.pair (.sl 2 (.int .i64)) (.int .i64))))))))], rs := [(.val, .bool)], F := fun x => spec_l30All.f x }
def spec_l30All.cs : List (FuncId × Con) := [(36, spec_IsPermit.con)]
def spec_l30All.E : Env := envOf tab spec_l30All.cs 0 false
def spec_l30All.keep (i : Nat) : List Nat := if i = 2 then [0, 3] else []
def spec_l30All.at2 (n : Nat) (x : List (Int × Int × Int × Int × List Int × Int)) : Code × (Ex → St → Option (Bool)) := ctx spec_l30All.E spec_l30All.keep n [.snd, .fst, .snd, .blk] (codeOf Try.f27) (kEnd spec_l30All.E Try.f27 spec_l30All.con x)
def spec_l30All.LN2 (n : Nat) (x : List (Int × Int × Int × Int × List Int × Int)) : Nat → St → Option (Bool) := loopN (exec spec_l30All.E spec_l30All.keep n (bodyOf (spec_l30All.at2 n x).1)) (St.norm 0 (spec_l30All.keep 2)) (spec_l30All.at2 n x).2
set_option maxRecDepth 100000 in
theorem spec_l30All.lem2 (n : Nat) (x : List (Int × Int × Int × Int × List Int × Int)) : ∀ (k : Nat) (permits0 : List (Int × Int × Int × Int × List Int × Int)) (i3 : Int), spec_l30All.LN2 n x k (spec_l30All.st2 permits0 i3) = spec_l30All.l2 n k permits0 i3 := by
 intro k
 induction k with
 | zero => intro permits0 i3; rfl
 | succ k ih =>
  intro permits0 i3
  have h : spec_l30All.LN2 n x (k + 1) (spec_l30All.st2 permits0 i3) = spec_l30All.g2 (fun permits0 i3 => spec_l30All.LN2 n x k (spec_l30All.st2 permits0 i3)) permits0 i3 := by kernel_rfl
  rw [h]
  simp only [ih]
  rfl
set_option maxRecDepth 100000 in
theorem spec_l30All.body (n : Nat) (x : List (Int × Int × Int × Int × List Int × Int)) : bodyF spec_l30All.E spec_l30All.keep n Try.f27 spec_l30All.con x = spec_l30All.fn n x := by
 have h : bodyF spec_l30All.E spec_l30All.keep n Try.f27 spec_l30All.con x = spec_l30All.top (fun permits0 i3 => spec_l30All.LN2 n x n (spec_l30All.st2 permits0 i3)) x := by kernel_rfl
 rw [h]
 simp only [spec_l30All.lem2]
 rfl
set_option maxRecDepth 100000 in
theorem spec_l30All.good : Good Try.prog 27 spec_l30All.con :=
 good_of tabok (cs := spec_l30All.cs) ⟨spec_IsPermit.good, trivial⟩ 0 false (fn := Try.f27) Try.func27 rfl (by decide) (by simp [spec_l30All.con]) spec_l30All.keep NN (fun _ => rfl) (fun x => spec_l30All.body NN x)
end
end Go.Ev.Try

namespace Go.Ev.Try
open Go.Proofs Go.Pl
set_option linter.unusedVariables false
noncomputable section
def spec_l30Days.con : Con := { ps := [(.val, (.sl 42 (.pair (.int .i64) (.pair (.int .i64) (.pair (.int .i64) (.pair (.int .i64) (.pair (.sl 2 (.int .i64)) (.int .i64)))))))), (.val, (.int .i64)), (.val, (.int .i64))], rs := [(.val, (.int .i64))], F := fun x => spec_l30Days.f x.1 x.2.1 x.2.2 }
def spec_l30Days.cs : List (FuncId × Con) := [(27, spec_l30All.con), (28, spec_l01In.con)]
def spec_l30Days.E : Env := envOf tab spec_l30Days.cs 0 false
def spec_l30Days.keep (i : Nat) : List Nat := []
set_option maxRecDepth 100000 in
theorem spec_l30Days.body (n : Nat) (x : (List (Int × Int × Int × Int × List Int × Int)) × Int × Int) : bodyF spec_l30Days.E spec_l30Days.keep n Try.f14 spec_l30Days.con x = spec_l30Days.fn n x.1 x.2.1 x.2.2 := by
 have h : bodyF spec_l30Days.E spec_l30Days.keep n Try.f14 spec_l30Days.con x = spec_l30Days.top x.1 x.2.1 x.2.2 := by kernel_rfl
 exact h
set_option maxRecDepth 100000 in
theorem spec_l30Days.good : Good Try.prog 14 spec_l30Days.con :=
 good_of tabok (cs := spec_l30Days.cs) ⟨spec_l30All.good, spec_l01In.good, trivial⟩ 0 false (fn := Try.f14) Try.func14 rfl (by decide) (by simp [spec_l30Days.con]) spec_l30Days.keep NN (fun _ => rfl) (fun x => spec_l30Days.body NN x)
end
end Go.Ev.Try

namespace Go.Ev.Try
open Go.Proofs Go.Pl
set_option linter.unusedVariables false
noncomputable section
def spec_l01Own.con : Con := { ps := [(.val, (.sl 2 (.int .i64)))], rs := [(.own, (.sl 2 (.int .i64)))], F := fun x => spec_l01Own.f x }
def spec_l01Own.cs : List (FuncId × Con) := []
def spec_l01Own.E : Env := envOf tab spec_l01Own.cs 0 false
def spec_l01Own.keep (i : Nat) : List Nat := []
set_option maxRecDepth 100000 in
theorem spec_l01Own.body (n : Nat) (x : List Int) : bodyF spec_l01Own.E spec_l01Own.keep n Try.f29 spec_l01Own.con x = spec_l01Own.fn n x := by
 have h : bodyF spec_l01Own.E spec_l01Own.keep n Try.f29 spec_l01Own.con x = spec_l01Own.top x := by kernel_rfl
 exact h
set_option maxRecDepth 100000 in
theorem spec_l01Own.good : Good Try.prog 29 spec_l01Own.con :=
 good_of tabok (cs := spec_l01Own.cs) trivial 0 false (fn := Try.f29) Try.func29 rfl (by decide) (by simp [spec_l01Own.con]) spec_l01Own.keep NN (fun _ => rfl) (fun x => spec_l01Own.body NN x)
end
end Go.Ev.Try

namespace Go.Ev.Try
open Go.Proofs Go.Pl
set_option linter.unusedVariables false
noncomputable section
def spec_l19Lists.st5 (n0 : Int) (more2 : Int) (begun3 : List Int) (i10 : Int) (out9 : List (List Int)) : St := ⟨[.dat (.int .i64) n0, .gone, .dat (.int .i64) more2, .dat (.sl 2 (.int .i64)) begun3, .gone, .gone, .gone, .gone, .gone, .ref 0, .dat (.int .i64) i10, .gone, .gone, .gone, .gone, .gone, .gone, .gone, .gone, .gone, .gone, .gone, .gone, .gone, .gone, .gone, .gone, .gone, .gone, .gone, .gone, .gone, .gone, .gone, .gone, .gone], [.row 24 (.sl 2 (.int .i64)) out9 none]⟩
def spec_l19Lists.con (S : Int → Int → Int → List Int → Option (List (List Int))) : Con := { ps := [(.val, (.int .i64)), (.val, (.int .i64)), (.val, (.int .i64)), (.val, (.sl 2 (.int .i64)))], rs := [(.own, (.sl 24 (.sl 2 (.int .i64))))], F := fun x => S x.1 x.2.1 x.2.2.1 x.2.2.2 }
def spec_l19Lists.cs (S : Int → Int → Int → List Int → Option (List (List Int))) : List (FuncId × Con) := [(15, (spec_l19Lists.con S)), (29, spec_l01Own.con)]
def spec_l19Lists.E (S : Int → Int → Int → List Int → Option (List (List Int))) : Env := envOf tab (spec_l19Lists.cs S) 0 false
def spec_l19Lists.keep (i : Nat) : List Nat := if i = 5 then [0, 2, 3, 9, 10] else []
def spec_l19Lists.at5 (S : Int → Int → Int → List Int → Option (List (List Int))) (n : Nat) (x : Int × Int × Int × List Int) : Code × (Ex → St → Option ((List (List Int)))) := ctx (spec_l19Lists.E S) spec_l19Lists.keep n [.snd, .snd, .snd, .fst, .snd, .blk] (codeOf Try.f15) (kEnd (spec_l19Lists.E S) Try.f15 (spec_l19Lists.con S) x)
def spec_l19Lists.LN5 (S : Int → Int → Int → List Int → Option (List (List Int))) (n : Nat) (x : Int × Int × Int × List Int) : Nat → St → Option ((List (List Int))) := loopN (exec (spec_l19Lists.E S) spec_l19Lists.keep n (bodyOf ((spec_l19Lists.at5 S) n x).1)) (St.norm 0 (spec_l19Lists.keep 5)) ((spec_l19Lists.at5 S) n x).2
set_option maxRecDepth 100000 in
theorem spec_l19Lists.lem5 (S : Int → Int → Int → List Int → Option (List (List Int))) (n : Nat) (x : Int × Int × Int × List Int) : ∀ (k : Nat) (n0 : Int) (more2 : Int) (begun3 : List Int) (i10 : Int) (out9 : List (List Int)), (spec_l19Lists.LN5 S) n x k (spec_l19Lists.st5 n0 more2 begun3 i10 out9) = (spec_l19Lists.l5 S) n k n0 more2 begun3 i10 out9 := by
 intro k
 induction k with
 | zero => intro n0 more2 begun3 i10 out9; rfl
 | succ k ih =>
  intro n0 more2 begun3 i10 out9
  have h : (spec_l19Lists.LN5 S) n x (k + 1) (spec_l19Lists.st5 n0 more2 begun3 i10 out9) = (spec_l19Lists.g5 S) (fun n0 more2 begun3 i10 out9 => (spec_l19Lists.LN5 S) n x k (spec_l19Lists.st5 n0 more2 begun3 i10 out9)) n0 more2 begun3 i10 out9 := by kernel_rfl
  rw [h]
  simp only [ih]
  rfl
set_option maxRecDepth 100000 in
theorem spec_l19Lists.body (S : Int → Int → Int → List Int → Option (List (List Int))) (n : Nat) (x : Int × Int × Int × List Int) : bodyF (spec_l19Lists.E S) spec_l19Lists.keep n Try.f15 (spec_l19Lists.con S) x = (spec_l19Lists.fn S) n x.1 x.2.1 x.2.2.1 x.2.2.2 := by
 have h : bodyF (spec_l19Lists.E S) spec_l19Lists.keep n Try.f15 (spec_l19Lists.con S) x = (spec_l19Lists.top S) (fun n0 more2 begun3 i10 out9 => (spec_l19Lists.LN5 S) n x n (spec_l19Lists.st5 n0 more2 begun3 i10 out9)) x.1 x.2.1 x.2.2.1 x.2.2.2 := by kernel_rfl
 rw [h]
 simp only [(spec_l19Lists.lem5 S)]
 rfl
set_option maxRecDepth 100000 in
theorem spec_l19Lists.goodk : ∀ k : Nat, Good Try.prog 15 (spec_l19Lists.con (spec_l19Lists.rc k)) := by
 intro k
 induction k with
 | zero => exact good_none (fn := Try.f15) Try.func15 rfl (by decide) (by simp [spec_l19Lists.con]) (fun _ => rfl)
 | succ k ih => exact good_of tabok (cs := spec_l19Lists.cs (spec_l19Lists.rc k)) ⟨ih, spec_l01Own.good, trivial⟩ 0 false (fn := Try.f15) Try.func15 rfl (by decide) (by simp [spec_l19Lists.con]) spec_l19Lists.keep NN (fun _ => rfl) (fun x => spec_l19Lists.body (spec_l19Lists.rc k) NN x)
theorem spec_l19Lists.good : Good Try.prog 15 (spec_l19Lists.con (fun n0 from1 more2 begun3 => spec_l19Lists.f n0 from1 more2 begun3)) := spec_l19Lists.goodk NN
end
end Go.Ev.Try

namespace Go.Ev.Try
open Go.Proofs Go.Pl
set_option linter.unusedVariables false
noncomputable section
def spec_l30Cover.st5 (permits0 : List (Int × Int × Int × Int × List Int × Int)) (some1 : List Int) (to3 : Int) (day9 : Int) (last10 : Int) (i11 : Int) : St := ⟨[.dat (.sl 42 (.pair (.int .i64) (.pair (.int .i64) (.pair (.int .i64) (.pair (.int .i64) (.pair (.sl 2 (.int .i64)) (.int .i64))))))) permits0, .dat (.sl 2 (.int .i64)) some1, .gone, .dat (.int .i64) to3, .gone, .gone, .gone, .gone, .gone, .dat (.int .i64) day9, .dat (.int .i64) last10, .dat (.int .i64) i11, .gone, .gone, .gone, .gone, .gone, .gone, .gone, .gone, .gone, .gone, .gone, .gone, .gone, .gone, .gone, .gone, .gone, .gone, .gone, .gone, .gone, .gone, .gone, .gone, .gone, .gone, .gone, .gone, .gone, .gone, .gone, .gone, .gone, .gone, .gone], []⟩
def spec_l30Cover.st2 (permits0 : List (Int × Int × Int × Int × List Int × Int)) (some1 : List Int) (to3 : Int) (day9 : Int) : St := ⟨[.dat (.sl 42 (.pair (.int .i64) (.pair (.int .i64) (.pair (.int .i64) (.pair (.int .i64) (.pair (.sl 2 (.int .i64)) (.int .i64))))))) permits0, .dat (.sl 2 (.int .i64)) some1, .gone, .dat (.int .i64) to3, .gone, .gone, .gone, .gone, .gone, .dat (.int .i64) day9, .gone, .gone, .gone, .gone, .gone, .gone, .gone, .gone, .gone, .gone, .gone, .gone, .gone, .gone, .gone, .gone, .gone, .gone, .gone, .gone, .gone, .gone, .gone, .gone, .gone, .gone, .gone, .gone, .gone, .gone, .gone, .gone, .gone, .gone, .gone, .gone, .gone], []⟩
def spec_l30Cover.con : Con := { ps := [(.val, (.sl 42 (.pair (.int .i64) (.pair (.int .i64) (.pair (.int .i64) (.pair (.int .i64) (.pair (.sl 2 (.int .i64)) (.int .i64)))))))), (.val, (.sl 2 (.int .i64))), (.val, (.int .i64)), (.val, (.int .i64))], rs := [(.val, .bool)], F := fun x => spec_l30Cover.f x.1 x.2.1 x.2.2.1 x.2.2.2 }
def spec_l30Cover.cs : List (FuncId × Con) := [(28, spec_l01In.con)]
def spec_l30Cover.E : Env := envOf tab spec_l30Cover.cs 0 false
def spec_l30Cover.keep (i : Nat) : List Nat := if i = 5 then [0, 1, 3, 9, 10, 11] else if i = 2 then [0, 1, 3, 9] else []
def spec_l30Cover.at5 (n : Nat) (x : (List (Int × Int × Int × Int × List Int × Int)) × List Int × Int × Int) (M2 : St → Option (Bool)) : Code × (Ex → St → Option (Bool)) := ctx spec_l30Cover.E spec_l30Cover.keep n [.snd, .fst, .snd, .blk, .rd M2, .snd, .blk, .snd, .fst, .snd, .blk] (codeOf Try.f16) (kEnd spec_l30Cover.E Try.f16 spec_l30Cover.con x)
def spec_l30Cover.LN5 (n : Nat) (x : (List (Int × Int × Int × Int × List Int × Int)) × List Int × Int × Int) (M2 : St → Option (Bool)) : Nat → St → Option (Bool) := loopN (exec spec_l30Cover.E spec_l30Cover.keep n (bodyOf (spec_l30Cover.at5 n x M2).1)) (St.norm 0 (spec_l30Cover.keep 5)) (spec_l30Cover.at5 n x M2).2
def spec_l30Cover.at2 (n : Nat) (x : (List (Int × Int × Int × Int × List Int × Int)) × List Int × Int × Int) : Code × (Ex → St → Option (Bool)) := ctx spec_l30Cover.E spec_l30Cover.keep n [.snd, .fst, .snd, .blk] (codeOf Try.f16) (kEnd spec_l30Cover.E Try.f16 spec_l30Cover.con x)
def spec_l30Cover.LN2 (n : Nat) (x : (List (Int × Int × Int × Int × List Int × Int)) × List Int × Int × Int) : Nat → St → Option (Bool) := loopN (exec spec_l30Cover.E spec_l30Cover.keep n (bodyOf (spec_l30Cover.at2 n x).1)) (St.norm 0 (spec_l30Cover.keep 2)) (spec_l30Cover.at2 n x).2
set_option maxRecDepth 100000 in
theorem spec_l30Cover.lem5 (n : Nat) (x : (List (Int × Int × Int × Int × List Int × Int)) × List Int × Int × Int) (M2 : St → Option (Bool)) : ∀ (k : Nat) (permits0 : List (Int × Int × Int × Int × List Int × Int)) (some1 : List Int) (to3 : Int) (day9 : Int) (last10 : Int) (i11 : Int), spec_l30Cover.LN5 n x M2 k (spec_l30Cover.st5 permits0 some1 to3 day9 last10 i11) = spec_l30Cover.l5 n (fun permits0 some1 to3 day9 => M2 (spec_l30Cover.st2 permits0 some1 to3 day9)) k permits0 some1 to3 day9 last10 i11 := by
 intro k
 induction k with
 | zero => intro permits0 some1 to3 day9 last10 i11; rfl
 | succ k ih =>
  intro permits0 some1 to3 day9 last10 i11
  have h : spec_l30Cover.LN5 n x M2 (k + 1) (spec_l30Cover.st5 permits0 some1 to3 day9 last10 i11) = spec_l30Cover.g5 (fun permits0 some1 to3 day9 => M2 (spec_l30Cover.st2 permits0 some1 to3 day9)) (fun permits0 some1 to3 day9 last10 i11 => spec_l30Cover.LN5 n x M2 k (spec_l30Cover.st5 permits0 some1 to3 day9 last10 i11)) permits0 some1 to3 day9 last10 i11 := by kernel_rfl
  rw [h]
  simp only [ih]
  rfl
set_option maxRecDepth 100000 in
theorem spec_l30Cover.lem2 (n : Nat) (x : (List (Int × Int × Int × Int × List Int × Int)) × List Int × Int × Int) : ∀ (k : Nat) (permits0 : List (Int × Int × Int × Int × List Int × Int)) (some1 : List Int) (to3 : Int) (day9 : Int), spec_l30Cover.LN2 n x k (spec_l30Cover.st2 permits0 some1 to3 day9) = spec_l30Cover.l2 n k permits0 some1 to3 day9 := by
 intro k
 induction k with
 | zero => intro permits0 some1 to3 day9; rfl
 | succ k ih =>
  intro permits0 some1 to3 day9
  have h : spec_l30Cover.LN2 n x (k + 1) (spec_l30Cover.st2 permits0 some1 to3 day9) = spec_l30Cover.g2 (fun permits0 some1 to3 day9 last10 i11 => spec_l30Cover.LN5 n x (spec_l30Cover.LN2 n x k) n (spec_l30Cover.st5 permits0 some1 to3 day9 last10 i11)) (fun permits0 some1 to3 day9 => spec_l30Cover.LN2 n x k (spec_l30Cover.st2 permits0 some1 to3 day9)) permits0 some1 to3 day9 := by kernel_rfl
  rw [h]
  simp only [ih, spec_l30Cover.lem5]
  rfl
set_option maxRecDepth 100000 in
theorem spec_l30Cover.body (n : Nat) (x : (List (Int × Int × Int × Int × List Int × Int)) × List Int × Int × Int) : bodyF spec_l30Cover.E spec_l30Cover.keep n Try.f16 spec_l30Cover.con x = spec_l30Cover.fn n x.1 x.2.1 x.2.2.1 x.2.2.2 := by
 have h : bodyF spec_l30Cover.E spec_l30Cover.keep n Try.f16 spec_l30Cover.con x = spec_l30Cover.top (fun permits0 some1 to3 day9 => spec_l30Cover.LN2 n x n (spec_l30Cover.st2 permits0 some1 to3 day9)) x.1 x.2.1 x.2.2.1 x.2.2.2 := by kernel_rfl
 rw [h]
 simp only [spec_l30Cover.lem2]
 rfl
set_option maxRecDepth 100000 in
theorem spec_l30Cover.good : Good Try.prog 16 spec_l30Cover.con :=
 good_of tabok (cs := spec_l30Cover.cs) ⟨spec_l01In.good, trivial⟩ 0 false (fn := Try.f16) Try.func16 rfl (by decide) (by simp [spec_l30Cover.con]) spec_l30Cover.keep NN (fun _ => rfl) (fun x => spec_l30Cover.body NN x)
end
end Go.Ev.Try

namespace Go.Ev.Try
open Go.Proofs Go.Pl
set_option linter.unusedVariables false
noncomputable section
def spec_FewestPermits.st10 (permits0 : List (Int × Int × Int × Int × List Int × Int)) (from1 : Int) (to2 : Int) (n9 : Int) (k10 : Int) (i12 : Int) (lists11 : List (List Int)) : St := ⟨[.dat (.sl 42 (.pair (.int .i64) (.pair (.int .i64) (.pair (.int .i64) (.pair (.int .i64) (.pair (.sl 2 (.int .i64)) (.int .i64))))))) permits0, .dat (.int .i64) from1, .dat (.int .i64) to2, .gone, .gone, .gone, .gone, .gone, .gone, .dat (.int .i64) n9, .dat (.int .i64) k10, .ref 0, .dat (.int .i64) i12, .gone, .gone, .gone, .gone, .gone, .gone, .gone, .gone, .gone, .gone, .gone, .gone, .gone, .gone, .gone, .gone, .gone, .gone, .gone, .gone, .gone, .gone, .gone, .gone, .gone, .gone, .gone, .gone, .gone, .gone, .gone, .gone, .gone, .gone, .gone, .gone], [.row 24 (.sl 2 (.int .i64)) lists11 none]⟩
def spec_FewestPermits.st6 (permits0 : List (Int × Int × Int × Int × List Int × Int)) (from1 : Int) (to2 : Int) (n9 : Int) (k10 : Int) : St := ⟨[.dat (.sl 42 (.pair (.int .i64) (.pair (.int .i64) (.pair (.int .i64) (.pair (.int .i64) (.pair (.sl 2 (.int .i64)) (.int .i64))))))) permits0, .dat (.int .i64) from1, .dat (.int .i64) to2, .gone, .gone, .gone, .gone, .gone, .gone, .dat (.int .i64) n9, .dat (.int .i64) k10, .gone, .gone, .gone, .gone, .gone, .gone, .gone, .gone, .gone, .gone, .gone, .gone, .gone, .gone, .gone, .gone, .gone, .gone, .gone, .gone, .gone, .gone, .gone, .gone, .gone, .gone, .gone, .gone, .gone, .gone, .gone, .gone, .gone, .gone, .gone, .gone, .gone, .gone], []⟩
def spec_FewestPermits.con : Con := { ps := [(.val, (.sl 42 (.pair (.int .i64) (.pair (.int .i64) (.pair (.int .i64) (.pair (.int .i64) (.pair (.sl 2 (.int .i64)) (.int .i64)))))))), (.val, (.int .i64)), (.val, (.int .i64))], rs := [(.val, (.sl 2 (.int .i64))), (.val, (.int .i64))], F := fun x => spec_FewestPermits.f x.1 x.2.1 x.2.2 }
def spec_FewestPermits.cs : List (FuncId × Con) := [(14, spec_l30Days.con), (15, (spec_l19Lists.con (fun a0 a1 a2 a3 => spec_l19Lists.f a0 a1 a2 a3))), (16, spec_l30Cover.con)]
def spec_FewestPermits.E : Env := envOf tab spec_FewestPermits.cs 0 false
def spec_FewestPermits.keep (i : Nat) : List Nat := if i = 10 then [0, 1, 2, 9, 10, 11, 12] else if i = 6 then [0, 1, 2, 9, 10] else []
def spec_FewestPermits.at10 (n : Nat) (x : (List (Int × Int × Int × Int × List Int × Int)) × Int × Int) (M6 : St → Option ((List Int × Int))) : Code × (Ex → St → Option ((List Int × Int))) := ctx spec_FewestPermits.E spec_FewestPermits.keep n [.snd, .snd, .snd, .snd, .fst, .snd, .blk, .rd M6, .snd, .fst, .blk, .snd, .snd, .blk] (codeOf Try.f5) (kEnd spec_FewestPermits.E Try.f5 spec_FewestPermits.con x)
def spec_FewestPermits.LN10 (n : Nat) (x : (List (Int × Int × Int × Int × List Int × Int)) × Int × Int) (M6 : St → Option ((List Int × Int))) : Nat → St → Option ((List Int × Int)) := loopN (exec spec_FewestPermits.E spec_FewestPermits.keep n (bodyOf (spec_FewestPermits.at10 n x M6).1)) (St.norm 0 (spec_FewestPermits.keep 10)) (spec_FewestPermits.at10 n x M6).2
def spec_FewestPermits.at6 (n : Nat) (x : (List (Int × Int × Int × Int × List Int × Int)) × Int × Int) : Code × (Ex → St → Option ((List Int × Int))) := ctx spec_FewestPermits.E spec_FewestPermits.keep n [.snd, .snd, .snd, .snd, .fst, .snd, .blk] (codeOf Try.f5) (kEnd spec_FewestPermits.E Try.f5 spec_FewestPermits.con x)
def spec_FewestPermits.LN6 (n : Nat) (x : (List (Int × Int × Int × Int × List Int × Int)) × Int × Int) : Nat → St → Option ((List Int × Int)) := loopN (exec spec_FewestPermits.E spec_FewestPermits.keep n (bodyOf (spec_FewestPermits.at6 n x).1)) (St.norm 0 (spec_FewestPermits.keep 6)) (spec_FewestPermits.at6 n x).2
set_option maxRecDepth 100000 in
theorem spec_FewestPermits.lem10 (n : Nat) (x : (List (Int × Int × Int × Int × List Int × Int)) × Int × Int) (M6 : St → Option ((List Int × Int))) : ∀ (k : Nat) (permits0 : List (Int × Int × Int × Int × List Int × Int)) (from1 : Int) (to2 : Int) (n9 : Int) (k10 : Int) (i12 : Int) (lists11 : List (List Int)), spec_FewestPermits.LN10 n x M6 k (spec_FewestPermits.st10 permits0 from1 to2 n9 k10 i12 lists11) = spec_FewestPermits.l10 n (fun permits0 from1 to2 n9 k10 => M6 (spec_FewestPermits.st6 permits0 from1 to2 n9 k10)) k permits0 from1 to2 n9 k10 i12 lists11 := by
 intro k
 induction k with
 | zero => intro permits0 from1 to2 n9 k10 i12 lists11; rfl
 | succ k ih =>
  intro permits0 from1 to2 n9 k10 i12 lists11
  have h : spec_FewestPermits.LN10 n x M6 (k + 1) (spec_FewestPermits.st10 permits0 from1 to2 n9 k10 i12 lists11) = spec_FewestPermits.g10 (fun permits0 from1 to2 n9 k10 => M6 (spec_FewestPermits.st6 permits0 from1 to2 n9 k10)) (fun permits0 from1 to2 n9 k10 i12 lists11 => spec_FewestPermits.LN10 n x M6 k (spec_FewestPermits.st10 permits0 from1 to2 n9 k10 i12 lists11)) permits0 from1 to2 n9 k10 i12 lists11 := by kernel_rfl
  rw [h]
  simp only [ih]
  rfl
set_option maxRecDepth 100000 in
theorem spec_FewestPermits.lem6 (n : Nat) (x : (List (Int × Int × Int × Int × List Int × Int)) × Int × Int) : ∀ (k : Nat) (permits0 : List (Int × Int × Int × Int × List Int × Int)) (from1 : Int) (to2 : Int) (n9 : Int) (k10 : Int), spec_FewestPermits.LN6 n x k (spec_FewestPermits.st6 permits0 from1 to2 n9 k10) = spec_FewestPermits.l6 n k permits0 from1 to2 n9 k10 := by
 intro k
 induction k with
 | zero => intro permits0 from1 to2 n9 k10; rfl
 | succ k ih =>
  intro permits0 from1 to2 n9 k10
  have h : spec_FewestPermits.LN6 n x (k + 1) (spec_FewestPermits.st6 permits0 from1 to2 n9 k10) = spec_FewestPermits.g6 (fun permits0 from1 to2 n9 k10 i12 lists11 => spec_FewestPermits.LN10 n x (spec_FewestPermits.LN6 n x k) n (spec_FewestPermits.st10 permits0 from1 to2 n9 k10 i12 lists11)) (fun permits0 from1 to2 n9 k10 => spec_FewestPermits.LN6 n x k (spec_FewestPermits.st6 permits0 from1 to2 n9 k10)) permits0 from1 to2 n9 k10 := by kernel_rfl
  rw [h]
  simp only [ih, spec_FewestPermits.lem10]
  rfl
set_option maxRecDepth 100000 in
theorem spec_FewestPermits.body (n : Nat) (x : (List (Int × Int × Int × Int × List Int × Int)) × Int × Int) : bodyF spec_FewestPermits.E spec_FewestPermits.keep n Try.f5 spec_FewestPermits.con x = spec_FewestPermits.fn n x.1 x.2.1 x.2.2 := by
 have h : bodyF spec_FewestPermits.E spec_FewestPermits.keep n Try.f5 spec_FewestPermits.con x = spec_FewestPermits.top (fun permits0 from1 to2 n9 k10 => spec_FewestPermits.LN6 n x n (spec_FewestPermits.st6 permits0 from1 to2 n9 k10)) x.1 x.2.1 x.2.2 := by kernel_rfl
 rw [h]
 simp only [spec_FewestPermits.lem6]
 rfl
set_option maxRecDepth 100000 in
theorem spec_FewestPermits.good : Good Try.prog 5 spec_FewestPermits.con :=
 good_of tabok (cs := spec_FewestPermits.cs) ⟨spec_l30Days.good, spec_l19Lists.good, spec_l30Cover.good, trivial⟩ 0 false (fn := Try.f5) Try.func5 rfl (by decide) (by simp [spec_FewestPermits.con]) spec_FewestPermits.keep NN (fun _ => rfl) (fun x => spec_FewestPermits.body NN x)
end
end Go.Ev.Try

namespace Go.Pl
open Go.Ev
set_option linter.unusedVariables false
noncomputable section
def laws_szInt64S.top (a0 : List Int) (left1 : Int) : Option Int :=
 if (decide (((IntKind.i64.wrap (left1 - (a0.length : Int))) : Int) < 0)) = true then
 some (-1)
 else
 some (IntKind.i64.wrap (left1 - (a0.length : Int)))
def laws_szInt64S.fn (n : Nat) (a0 : List Int) (left1 : Int) : Option Int := laws_szInt64S.top a0 left1
def laws_szInt64S.f (a0 : List Int) (left1 : Int) : Option Int := laws_szInt64S.fn NN a0 left1
end
end Go.Pl

namespace Go.Pl
open Go.Ev
set_option linter.unusedVariables false
noncomputable section
def laws_szPermit.top (a0 : Int × Int × Int × Int × List Int × Int) (left1 : Int) : Option Int :=
 (laws_szInt64S.f a0.2.2.2.2.1 left1).bind fun r1 =>
 if (decide ((r1 : Int) < 0)) = true then
 some (-1)
 else
 some r1
def laws_szPermit.fn (n : Nat) (a0 : Int × Int × Int × Int × List Int × Int) (left1 : Int) : Option Int := laws_szPermit.top a0 left1
def laws_szPermit.f (a0 : Int × Int × Int × Int × List Int × Int) (left1 : Int) : Option Int := laws_szPermit.fn NN a0 left1
end
end Go.Pl

namespace Go.Pl
open Go.Ev
set_option linter.unusedVariables false
noncomputable section
def laws_szPermitS.g5 (L5 : (List (Int × Int × Int × Int × List Int × Int)) → Int → Int → Option Int) (a0 : List (Int × Int × Int × Int × List Int × Int)) (left1 : Int) (i5 : Int) : Option Int :=
 if (decide ((i5 : Int) < (a0.length : Int))) = true then
 if (0 : Int) ≤ i5 ∧ (i5 : Int) < a0.length then
 (laws_szPermit.f (a0.getD (i5 : Int).toNat (0, (0, (0, (0, ([], 0)))))) left1).bind fun r1 =>
 if (decide ((r1 : Int) < 0)) = true then
 some (-1)
 else
 L5 a0 r1 (IntKind.i64.wrap (i5 + 1))
 else
 none
 else
 some left1
def laws_szPermitS.l5 (n : Nat) : Nat → (List (Int × Int × Int × Int × List Int × Int)) → Int → Int → Option Int
 | 0 => fun _ _ _ => none
 | k + 1 => laws_szPermitS.g5 (laws_szPermitS.l5 n k)
def laws_szPermitS.top (I5 : (List (Int × Int × Int × Int × List Int × Int)) → Int → Int → Option Int) (a0 : List (Int × Int × Int × Int × List Int × Int)) (left1 : Int) : Option Int :=
 if (decide (((IntKind.i64.wrap (left1 - (a0.length : Int))) : Int) < 0)) = true then
 some (-1)
 else
 I5 a0 (IntKind.i64.wrap (left1 - (a0.length : Int))) 0
def laws_szPermitS.fn (n : Nat) (a0 : List (Int × Int × Int × Int × List Int × Int)) (left1 : Int) : Option Int := laws_szPermitS.top (laws_szPermitS.l5 n n) a0 left1
def laws_szPermitS.f (a0 : List (Int × Int × Int × Int × List Int × Int)) (left1 : Int) : Option Int := laws_szPermitS.fn NN a0 left1
end
end Go.Pl

namespace Go.Ev.Try
open Go.Proofs Go.Pl
set_option linter.unusedVariables false
noncomputable section
def laws_szInt64S.con : Con := { ps := [(.val, (.sl 2 (.int .i64))), (.val, (.int .i64))], rs := [(.val, (.int .i64))], F := fun x => laws_szInt64S.f x.1 x.2 }
def laws_szInt64S.cs : List (FuncId × Con) := []
def laws_szInt64S.E : Env := envOf tab laws_szInt64S.cs 0 false
def laws_szInt64S.keep (i : Nat) : List Nat := []
set_option maxRecDepth 100000 in
theorem laws_szInt64S.body (n : Nat) (x : List Int × Int) : bodyF laws_szInt64S.E laws_szInt64S.keep n Try.f26 laws_szInt64S.con x = laws_szInt64S.fn n x.1 x.2 := by
 have h : bodyF laws_szInt64S.E laws_szInt64S.keep n Try.f26 laws_szInt64S.con x = laws_szInt64S.top x.1 x.2 := by kernel_rfl
 exact h
set_option maxRecDepth 100000 in
theorem laws_szInt64S.good : Good Try.prog 26 laws_szInt64S.con :=
 good_of tabok (cs := laws_szInt64S.cs) trivial 0 false (fn := Try.f26) Try.func26 rfl (by decide) (by simp [laws_szInt64S.con]) laws_szInt64S.keep NN (fun _ => rfl) (fun x => laws_szInt64S.body NN x)
end
end Go.Ev.Try

namespace Go.Ev.Try
open Go.Proofs Go.Pl
set_option linter.unusedVariables false
noncomputable section
def laws_szPermit.con : Con := { ps := [(.val, (.pair (.int .i64) (.pair (.int .i64) (.pair (.int .i64) (.pair (.int .i64) (.pair (.sl 2 (.int .i64)) (.int .i64))))))), (.val, (.int .i64))], rs := [(.val, (.int .i64))], F := fun x => laws_szPermit.f x.1 x.2 }
def laws_szPermit.cs : List (FuncId × Con) := [(26, laws_szInt64S.con)]
def laws_szPermit.E : Env := envOf tab laws_szPermit.cs 0 false
def laws_szPermit.keep (i : Nat) : List Nat := []
set_option maxRecDepth 100000 in
theorem laws_szPermit.body (n : Nat) (x : (Int × Int × Int × Int × List Int × Int) × Int) : bodyF laws_szPermit.E laws_szPermit.keep n Try.f13 laws_szPermit.con x = laws_szPermit.fn n x.1 x.2 := by
 have h : bodyF laws_szPermit.E laws_szPermit.keep n Try.f13 laws_szPermit.con x = laws_szPermit.top x.1 x.2 := by kernel_rfl
 exact h
set_option maxRecDepth 100000 in
theorem laws_szPermit.good : Good Try.prog 13 laws_szPermit.con :=
 good_of tabok (cs := laws_szPermit.cs) ⟨laws_szInt64S.good, trivial⟩ 0 false (fn := Try.f13) Try.func13 rfl (by decide) (by simp [laws_szPermit.con]) laws_szPermit.keep NN (fun _ => rfl) (fun x => laws_szPermit.body NN x)
end
end Go.Ev.Try

namespace Go.Ev.Try
open Go.Proofs Go.Pl
set_option linter.unusedVariables false
noncomputable section
def laws_szPermitS.st5 (a0 : List (Int × Int × Int × Int × List Int × Int)) (left1 : Int) (i5 : Int) : St := ⟨[.dat (.sl 36 (.pair (.int .i64) (.pair (.int .i64) (.pair (.int .i64) (.pair (.int .i64) (.pair (.sl 2 (.int .i64)) (.int .i64))))))) a0, .dat (.int .i64) left1, .gone, .gone, .gone, .dat (.int .i64) i5, .gone, .gone, .gone, .gone, .gone, .gone, .gone, .gone, .gone, .gone, .gone, .gone, .gone, .gone, .gone, .gone, .gone, .gone, .gone, .gone, .gone], []⟩
def laws_szPermitS.con : Con := { ps := [(.val, (.sl 36 (.pair (.int .i64) (.pair (.int .i64) (.pair (.int .i64) (.pair (.int .i64) (.pair (.sl 2 (.int .i64)) (.int .i64)))))))), (.val, (.int .i64))], rs := [(.val, (.int .i64))], F := fun x => laws_szPermitS.f x.1 x.2 }
def laws_szPermitS.cs : List (FuncId × Con) := [(13, laws_szPermit.con)]
def laws_szPermitS.E : Env := envOf tab laws_szPermitS.cs 0 false
def laws_szPermitS.keep (i : Nat) : List Nat := if i = 5 then [0, 1, 5] else []
def laws_szPermitS.at5 (n : Nat) (x : (List (Int × Int × Int × Int × List Int × Int)) × Int) : Code × (Ex → St → Option (Int)) := ctx laws_szPermitS.E laws_szPermitS.keep n [.snd, .snd, .snd, .fst, .snd, .blk] (codeOf Try.f4) (kEnd laws_szPermitS.E Try.f4 laws_szPermitS.con x)
def laws_szPermitS.LN5 (n : Nat) (x : (List (Int × Int × Int × Int × List Int × Int)) × Int) : Nat → St → Option (Int) := loopN (exec laws_szPermitS.E laws_szPermitS.keep n (bodyOf (laws_szPermitS.at5 n x).1)) (St.norm 0 (laws_szPermitS.keep 5)) (laws_szPermitS.at5 n x).2
set_option maxRecDepth 100000 in
theorem laws_szPermitS.lem5 (n : Nat) (x : (List (Int × Int × Int × Int × List Int × Int)) × Int) : ∀ (k : Nat) (a0 : List (Int × Int × Int × Int × List Int × Int)) (left1 : Int) (i5 : Int), laws_szPermitS.LN5 n x k (laws_szPermitS.st5 a0 left1 i5) = laws_szPermitS.l5 n k a0 left1 i5 := by
 intro k
 induction k with
 | zero => intro a0 left1 i5; rfl
 | succ k ih =>
  intro a0 left1 i5
  have h : laws_szPermitS.LN5 n x (k + 1) (laws_szPermitS.st5 a0 left1 i5) = laws_szPermitS.g5 (fun a0 left1 i5 => laws_szPermitS.LN5 n x k (laws_szPermitS.st5 a0 left1 i5)) a0 left1 i5 := by kernel_rfl
  rw [h]
  simp only [ih]
  rfl
set_option maxRecDepth 100000 in
theorem laws_szPermitS.body (n : Nat) (x : (List (Int × Int × Int × Int × List Int × Int)) × Int) : bodyF laws_szPermitS.E laws_szPermitS.keep n Try.f4 laws_szPermitS.con x = laws_szPermitS.fn n x.1 x.2 := by
 have h : bodyF laws_szPermitS.E laws_szPermitS.keep n Try.f4 laws_szPermitS.con x = laws_szPermitS.top (fun a0 left1 i5 => laws_szPermitS.LN5 n x n (laws_szPermitS.st5 a0 left1 i5)) x.1 x.2 := by kernel_rfl
 rw [h]
 simp only [laws_szPermitS.lem5]
 rfl
set_option maxRecDepth 100000 in
theorem laws_szPermitS.good : Good Try.prog 4 laws_szPermitS.con :=
 good_of tabok (cs := laws_szPermitS.cs) ⟨laws_szPermit.good, trivial⟩ 0 false (fn := Try.f4) Try.func4 rfl (by decide) (by simp [laws_szPermitS.con]) laws_szPermitS.keep NN (fun _ => rfl) (fun x => laws_szPermitS.body NN x)
end
end Go.Ev.Try

namespace Go.Pl
open Go.Ev
set_option linter.unusedVariables false
noncomputable section
def laws_eqInt64S.g4 (L4 : List Int → List Int → Int → Option Bool) (a0 : List Int) (b1 : List Int) (i5 : Int) : Option Bool :=
 if (decide ((i5 : Int) < (a0.length : Int))) = true then
 if (0 : Int) ≤ i5 ∧ (i5 : Int) < a0.length then
 if (0 : Int) ≤ i5 ∧ (i5 : Int) < b1.length then
 if (((a0.getD (i5 : Int).toNat 0) : Int) != (b1.getD (i5 : Int).toNat 0)) = true then
 some false
 else
 L4 a0 b1 (IntKind.i64.wrap (i5 + 1))
 else
 none
 else
 none
 else
 some true
def laws_eqInt64S.l4 (n : Nat) : Nat → List Int → List Int → Int → Option Bool
 | 0 => fun _ _ _ => none
 | k + 1 => laws_eqInt64S.g4 (laws_eqInt64S.l4 n k)
def laws_eqInt64S.top (I4 : List Int → List Int → Int → Option Bool) (a0 : List Int) (b1 : List Int) : Option Bool :=
 if (((a0.length : Int) : Int) != (b1.length : Int)) = true then
 some false
 else
 I4 a0 b1 0
def laws_eqInt64S.fn (n : Nat) (a0 : List Int) (b1 : List Int) : Option Bool := laws_eqInt64S.top (laws_eqInt64S.l4 n n) a0 b1
def laws_eqInt64S.f (a0 : List Int) (b1 : List Int) : Option Bool := laws_eqInt64S.fn NN a0 b1
end
end Go.Pl

namespace Go.Pl
open Go.Ev
set_option linter.unusedVariables false
noncomputable section
def laws_eqPermit.top (a0 : Int × Int × Int × Int × List Int × Int) (b1 : Int × Int × Int × Int × List Int × Int) : Option Bool :=
 if ((a0.1 : Int) != b1.1) = true then
 some false
 else if ((a0.2.1 : Int) != b1.2.1) = true then
 some false
 else if ((a0.2.2.1 : Int) != b1.2.2.1) = true then
 some false
 else if ((a0.2.2.2.1 : Int) != b1.2.2.2.1) = true then
 some false
 else
 (laws_eqInt64S.f a0.2.2.2.2.1 b1.2.2.2.2.1).bind fun r1 =>
 if (!r1) = true then
 some false
 else if ((a0.2.2.2.2.2 : Int) != b1.2.2.2.2.2) = true then
 some false
 else
 some true
def laws_eqPermit.fn (n : Nat) (a0 : Int × Int × Int × Int × List Int × Int) (b1 : Int × Int × Int × Int × List Int × Int) : Option Bool := laws_eqPermit.top a0 b1
def laws_eqPermit.f (a0 : Int × Int × Int × Int × List Int × Int) (b1 : Int × Int × Int × Int × List Int × Int) : Option Bool := laws_eqPermit.fn NN a0 b1
end
end Go.Pl

namespace Go.Pl
open Go.Ev
set_option linter.unusedVariables false
noncomputable section
def laws_eqPermitS.g4 (L4 : (List (Int × Int × Int × Int × List Int × Int)) → (List (Int × Int × Int × Int × List Int × Int)) → Int → Option Bool) (a0 : List (Int × Int × Int × Int × List Int × Int)) (b1 : List (Int × Int × Int × Int × List Int × Int)) (i5 : Int) : Option Bool :=
 if (decide ((i5 : Int) < (a0.length : Int))) = true then
 if (0 : Int) ≤ i5 ∧ (i5 : Int) < a0.length then
 if (0 : Int) ≤ i5 ∧ (i5 : Int) < b1.length then
 (laws_eqPermit.f (a0.getD (i5 : Int).toNat (0, (0, (0, (0, ([], 0)))))) (b1.getD (i5 : Int).toNat (0, (0, (0, (0, ([], 0))))))).bind fun r1 =>
 if (!r1) = true then
 some false
 else
 L4 a0 b1 (IntKind.i64.wrap (i5 + 1))
 else
 none
 else
 none
 else
 some true
def laws_eqPermitS.l4 (n : Nat) : Nat → (List (Int × Int × Int × Int × List Int × Int)) → (List (Int × Int × Int × Int × List Int × Int)) → Int → Option Bool
 | 0 => fun _ _ _ => none
 | k + 1 => laws_eqPermitS.g4 (laws_eqPermitS.l4 n k)
def laws_eqPermitS.top (I4 : (List (Int × Int × Int × Int × List Int × Int)) → (List (Int × Int × Int × Int × List Int × Int)) → Int → Option Bool) (a0 : List (Int × Int × Int × Int × List Int × Int)) (b1 : List (Int × Int × Int × Int × List Int × Int)) : Option Bool :=
 if (((a0.length : Int) : Int) != (b1.length : Int)) = true then
 some false
 else
 I4 a0 b1 0
def laws_eqPermitS.fn (n : Nat) (a0 : List (Int × Int × Int × Int × List Int × Int)) (b1 : List (Int × Int × Int × Int × List Int × Int)) : Option Bool := laws_eqPermitS.top (laws_eqPermitS.l4 n n) a0 b1
def laws_eqPermitS.f (a0 : List (Int × Int × Int × Int × List Int × Int)) (b1 : List (Int × Int × Int × Int × List Int × Int)) : Option Bool := laws_eqPermitS.fn NN a0 b1
end
end Go.Pl

namespace Go.Pl
open Go.Ev
set_option linter.unusedVariables false
noncomputable section
def laws_intactInt64S.top (x0 : List Int × List Int) (y1 : List Int × List Int) : Option Bool :=
 (laws_roomBehind.f (y1.1.length : Int)).bind fun r1 =>
 if (((x0.1.length : Int) : Int) == (y1.1.length : Int)) = true then
 if (0 : Int) ≤ (IntKind.i64.wrap ((y1.1.length : Int) + r1)) ∧ ((IntKind.i64.wrap ((y1.1.length : Int) + r1)) : Int) ≤ (x0.1 ++ x0.2).length then
 if (0 : Int) ≤ (IntKind.i64.wrap ((y1.1.length : Int) + r1)) ∧ ((IntKind.i64.wrap ((y1.1.length : Int) + r1)) : Int) ≤ (y1.1 ++ y1.2).length then
 (laws_eqInt64S.f ((x0.1 ++ x0.2).take ((IntKind.i64.wrap ((y1.1.length : Int) + r1)) : Int).toNat) ((y1.1 ++ y1.2).take ((IntKind.i64.wrap ((y1.1.length : Int) + r1)) : Int).toNat)).bind fun r2 =>
 some r2
 else
 none
 else
 none
 else
 some false
def laws_intactInt64S.fn (n : Nat) (x0 : List Int × List Int) (y1 : List Int × List Int) : Option Bool := laws_intactInt64S.top x0 y1
def laws_intactInt64S.f (x0 : List Int × List Int) (y1 : List Int × List Int) : Option Bool := laws_intactInt64S.fn NN x0 y1
end
end Go.Pl

namespace Go.Pl
open Go.Ev
set_option linter.unusedVariables false
noncomputable section
def laws_intactPermit.top (x0 : Int × Int × Int × Int × (List Int × List Int) × Int) (y1 : Int × Int × Int × Int × (List Int × List Int) × Int) : Option Bool :=
 if ((x0.1 : Int) != y1.1) = true then
 some false
 else if ((x0.2.1 : Int) != y1.2.1) = true then
 some false
 else if ((x0.2.2.1 : Int) != y1.2.2.1) = true then
 some false
 else if ((x0.2.2.2.1 : Int) != y1.2.2.2.1) = true then
 some false
 else
 (laws_intactInt64S.f x0.2.2.2.2.1 y1.2.2.2.2.1).bind fun r1 =>
 if (!r1) = true then
 some false
 else if ((x0.2.2.2.2.2 : Int) != y1.2.2.2.2.2) = true then
 some false
 else
 some true
def laws_intactPermit.fn (n : Nat) (x0 : Int × Int × Int × Int × (List Int × List Int) × Int) (y1 : Int × Int × Int × Int × (List Int × List Int) × Int) : Option Bool := laws_intactPermit.top x0 y1
def laws_intactPermit.f (x0 : Int × Int × Int × Int × (List Int × List Int) × Int) (y1 : Int × Int × Int × Int × (List Int × List Int) × Int) : Option Bool := laws_intactPermit.fn NN x0 y1
end
end Go.Pl

namespace Go.Pl
open Go.Ev
set_option linter.unusedVariables false
noncomputable section
def laws_intactPermitS.g5 (L5 : (List (Int × Int × Int × Int × (List Int × List Int) × Int) × List (Int × Int × Int × Int × (List Int × List Int) × Int)) → (List (Int × Int × Int × Int × (List Int × List Int) × Int) × List (Int × Int × Int × Int × (List Int × List Int) × Int)) → Int → Int → Option Bool) (x0 : List (Int × Int × Int × Int × (List Int × List Int) × Int) × List (Int × Int × Int × Int × (List Int × List Int) × Int)) (y1 : List (Int × Int × Int × Int × (List Int × List Int) × Int) × List (Int × Int × Int × Int × (List Int × List Int) × Int)) (n5 : Int) (i6 : Int) : Option Bool :=
 if (decide ((i6 : Int) < (y1.1.length : Int))) = true then
 if (0 : Int) ≤ i6 ∧ (i6 : Int) < x0.1.length then
 if (0 : Int) ≤ i6 ∧ (i6 : Int) < y1.1.length then
 (laws_intactPermit.f (x0.1.getD (i6 : Int).toNat (0, (0, (0, (0, (([], []), 0)))))) (y1.1.getD (i6 : Int).toNat (0, (0, (0, (0, (([], []), 0))))))).bind fun r2 =>
 if (!r2) = true then
 some false
 else
 L5 x0 y1 n5 (IntKind.i64.wrap (i6 + 1))
 else
 none
 else
 none
 else if (0 : Int) ≤ (y1.1.length : Int) ∧ ((y1.1.length : Int) : Int) ≤ n5 ∧ (n5 : Int) ≤ (x0.1 ++ x0.2).length then
 if (0 : Int) ≤ (y1.1.length : Int) ∧ ((y1.1.length : Int) : Int) ≤ n5 ∧ (n5 : Int) ≤ (y1.1 ++ y1.2).length then
 (laws_eqPermitS.f ((((x0.1 ++ x0.2).take (n5 : Int).toNat).drop ((y1.1.length : Int) : Int).toNat).map (fun y => (y.1, (y.2.1, (y.2.2.1, (y.2.2.2.1, (y.2.2.2.2.1.1, y.2.2.2.2.2))))))) ((((y1.1 ++ y1.2).take (n5 : Int).toNat).drop ((y1.1.length : Int) : Int).toNat).map (fun y => (y.1, (y.2.1, (y.2.2.1, (y.2.2.2.1, (y.2.2.2.2.1.1, y.2.2.2.2.2)))))))).bind fun r3 =>
 some r3
 else
 none
 else
 none
def laws_intactPermitS.l5 (n : Nat) : Nat → (List (Int × Int × Int × Int × (List Int × List Int) × Int) × List (Int × Int × Int × Int × (List Int × List Int) × Int)) → (List (Int × Int × Int × Int × (List Int × List Int) × Int) × List (Int × Int × Int × Int × (List Int × List Int) × Int)) → Int → Int → Option Bool
 | 0 => fun _ _ _ _ => none
 | k + 1 => laws_intactPermitS.g5 (laws_intactPermitS.l5 n k)
def laws_intactPermitS.top (I5 : (List (Int × Int × Int × Int × (List Int × List Int) × Int) × List (Int × Int × Int × Int × (List Int × List Int) × Int)) → (List (Int × Int × Int × Int × (List Int × List Int) × Int) × List (Int × Int × Int × Int × (List Int × List Int) × Int)) → Int → Int → Option Bool) (x0 : List (Int × Int × Int × Int × (List Int × List Int) × Int) × List (Int × Int × Int × Int × (List Int × List Int) × Int)) (y1 : List (Int × Int × Int × Int × (List Int × List Int) × Int) × List (Int × Int × Int × Int × (List Int × List Int) × Int)) : Option Bool :=
 (laws_roomBehind.f (y1.1.length : Int)).bind fun r1 =>
 if (((x0.1.length : Int) : Int) != (y1.1.length : Int)) = true then
 some false
 else
 I5 x0 y1 (IntKind.i64.wrap ((y1.1.length : Int) + r1)) 0
def laws_intactPermitS.fn (n : Nat) (x0 : List (Int × Int × Int × Int × (List Int × List Int) × Int) × List (Int × Int × Int × Int × (List Int × List Int) × Int)) (y1 : List (Int × Int × Int × Int × (List Int × List Int) × Int) × List (Int × Int × Int × Int × (List Int × List Int) × Int)) : Option Bool := laws_intactPermitS.top (laws_intactPermitS.l5 n n) x0 y1
def laws_intactPermitS.f (x0 : List (Int × Int × Int × Int × (List Int × List Int) × Int) × List (Int × Int × Int × Int × (List Int × List Int) × Int)) (y1 : List (Int × Int × Int × Int × (List Int × List Int) × Int) × List (Int × Int × Int × Int × (List Int × List Int) × Int)) : Option Bool := laws_intactPermitS.fn NN x0 y1
end
end Go.Pl

namespace Go.Ev.Try
open Go.Proofs Go.Pl
set_option linter.unusedVariables false
noncomputable section
def laws_eqInt64S.st4 (a0 : List Int) (b1 : List Int) (i5 : Int) : St := ⟨[.dat (.sl 2 (.int .i64)) a0, .dat (.sl 2 (.int .i64)) b1, .gone, .gone, .gone, .dat (.int .i64) i5, .gone, .gone, .gone, .gone, .gone, .gone, .gone, .gone, .gone, .gone, .gone, .gone, .gone, .gone, .gone, .gone, .gone, .gone, .gone, .gone], []⟩
def laws_eqInt64S.con : Con := { ps := [(.val, (.sl 2 (.int .i64))), (.val, (.sl 2 (.int .i64)))], rs := [(.val, .bool)], F := fun x => laws_eqInt64S.f x.1 x.2 }
def laws_eqInt64S.cs : List (FuncId × Con) := []
def laws_eqInt64S.E : Env := envOf tab laws_eqInt64S.cs 0 false
def laws_eqInt64S.keep (i : Nat) : List Nat := if i = 4 then [0, 1, 5] else []
def laws_eqInt64S.at4 (n : Nat) (x : List Int × List Int) : Code × (Ex → St → Option (Bool)) := ctx laws_eqInt64S.E laws_eqInt64S.keep n [.snd, .snd, .fst, .snd, .blk] (codeOf Try.f8) (kEnd laws_eqInt64S.E Try.f8 laws_eqInt64S.con x)
def laws_eqInt64S.LN4 (n : Nat) (x : List Int × List Int) : Nat → St → Option (Bool) := loopN (exec laws_eqInt64S.E laws_eqInt64S.keep n (bodyOf (laws_eqInt64S.at4 n x).1)) (St.norm 0 (laws_eqInt64S.keep 4)) (laws_eqInt64S.at4 n x).2
set_option maxRecDepth 100000 in
theorem laws_eqInt64S.lem4 (n : Nat) (x : List Int × List Int) : ∀ (k : Nat) (a0 : List Int) (b1 : List Int) (i5 : Int), laws_eqInt64S.LN4 n x k (laws_eqInt64S.st4 a0 b1 i5) = laws_eqInt64S.l4 n k a0 b1 i5 := by
 intro k
 induction k with
 | zero => intro a0 b1 i5; rfl
 | succ k ih =>
  intro a0 b1 i5
  have h : laws_eqInt64S.LN4 n x (k + 1) (laws_eqInt64S.st4 a0 b1 i5) = laws_eqInt64S.g4 (fun a0 b1 i5 => laws_eqInt64S.LN4 n x k (laws_eqInt64S.st4 a0 b1 i5)) a0 b1 i5 := by kernel_rfl
  rw [h]
  simp only [ih]
  rfl
set_option maxRecDepth 100000 in
theorem laws_eqInt64S.body (n : Nat) (x : List Int × List Int) : bodyF laws_eqInt64S.E laws_eqInt64S.keep n Try.f8 laws_eqInt64S.con x = laws_eqInt64S.fn n x.1 x.2 := by
 have h : bodyF laws_eqInt64S.E laws_eqInt64S.keep n Try.f8 laws_eqInt64S.con x = laws_eqInt64S.top (fun a0 b1 i5 => laws_eqInt64S.LN4 n x n (laws_eqInt64S.st4 a0 b1 i5)) x.1 x.2 := by kernel_rfl
 rw [h]
 simp only [laws_eqInt64S.lem4]
 rfl
set_option maxRecDepth 100000 in
theorem laws_eqInt64S.good : Good Try.prog 8 laws_eqInt64S.con :=
 good_of tabok (cs := laws_eqInt64S.cs) trivial 0 false (fn := Try.f8) Try.func8 rfl (by decide) (by simp [laws_eqInt64S.con]) laws_eqInt64S.keep NN (fun _ => rfl) (fun x => laws_eqInt64S.body NN x)
end
end Go.Ev.Try

namespace Go.Ev.Try
open Go.Proofs Go.Pl
set_option linter.unusedVariables false
noncomputable section
def laws_intactInt64S.con : Con := { ps := [(.val, (.slb 2 (.int .i64))), (.val, (.slb 2 (.int .i64)))], rs := [(.val, .bool)], F := fun x => laws_intactInt64S.f x.1 x.2 }
def laws_intactInt64S.cs : List (FuncId × Con) := [(8, laws_eqInt64S.con), (17, laws_roomBehind.con)]
def laws_intactInt64S.E : Env := envOf tab laws_intactInt64S.cs 0 false
def laws_intactInt64S.keep (i : Nat) : List Nat := []
set_option maxRecDepth 100000 in
theorem laws_intactInt64S.body (n : Nat) (x : (List Int × List Int) × List Int × List Int) : bodyF laws_intactInt64S.E laws_intactInt64S.keep n Try.f34 laws_intactInt64S.con x = laws_intactInt64S.fn n x.1 x.2 := by
 have h : bodyF laws_intactInt64S.E laws_intactInt64S.keep n Try.f34 laws_intactInt64S.con x = laws_intactInt64S.top x.1 x.2 := by kernel_rfl
 exact h
set_option maxRecDepth 100000 in
theorem laws_intactInt64S.good : Good Try.prog 34 laws_intactInt64S.con :=
 good_of tabok (cs := laws_intactInt64S.cs) ⟨laws_eqInt64S.good, laws_roomBehind.good, trivial⟩ 0 false (fn := Try.f34) Try.func34 rfl (by decide) (by simp [laws_intactInt64S.con]) laws_intactInt64S.keep NN (fun _ => rfl) (fun x => laws_intactInt64S.body NN x)
end
end Go.Ev.Try

namespace Go.Ev.Try
open Go.Proofs Go.Pl
set_option linter.unusedVariables false
noncomputable section
def laws_intactPermit.con : Con := { ps := [(.val, (.pair (.int .i64) (.pair (.int .i64) (.pair (.int .i64) (.pair (.int .i64) (.pair (.slb 2 (.int .i64)) (.int .i64))))))), (.val, (.pair (.int .i64) (.pair (.int .i64) (.pair (.int .i64) (.pair (.int .i64) (.pair (.slb 2 (.int .i64)) (.int .i64)))))))], rs := [(.val, .bool)], F := fun x => laws_intactPermit.f x.1 x.2 }
def laws_intactPermit.cs : List (FuncId × Con) := [(34, laws_intactInt64S.con)]
def laws_intactPermit.E : Env := envOf tab laws_intactPermit.cs 0 false
def laws_intactPermit.keep (i : Nat) : List Nat := []
set_option maxRecDepth 100000 in
theorem laws_intactPermit.body (n : Nat) (x : (Int × Int × Int × Int × (List Int × List Int) × Int) × Int × Int × Int × Int × (List Int × List Int) × Int) : bodyF laws_intactPermit.E laws_intactPermit.keep n Try.f24 laws_intactPermit.con x = laws_intactPermit.fn n x.1 x.2 := by
 have h : bodyF laws_intactPermit.E laws_intactPermit.keep n Try.f24 laws_intactPermit.con x = laws_intactPermit.top x.1 x.2 := by kernel_rfl
 exact h
set_option maxRecDepth 100000 in
theorem laws_intactPermit.good : Good Try.prog 24 laws_intactPermit.con :=
 good_of tabok (cs := laws_intactPermit.cs) ⟨laws_intactInt64S.good, trivial⟩ 0 false (fn := Try.f24) Try.func24 rfl (by decide) (by simp [laws_intactPermit.con]) laws_intactPermit.keep NN (fun _ => rfl) (fun x => laws_intactPermit.body NN x)
end
end Go.Ev.Try

namespace Go.Ev.Try
open Go.Proofs Go.Pl
set_option linter.unusedVariables false
noncomputable section
def laws_eqPermit.con : Con := { ps := [(.val, (.pair (.int .i64) (.pair (.int .i64) (.pair (.int .i64) (.pair (.int .i64) (.pair (.sl 2 (.int .i64)) (.int .i64))))))), (.val, (.pair (.int .i64) (.pair (.int .i64) (.pair (.int .i64) (.pair (.int .i64) (.pair (.sl 2 (.int .i64)) (.int .i64)))))))], rs := [(.val, .bool)], F := fun x => laws_eqPermit.f x.1 x.2 }
def laws_eqPermit.cs : List (FuncId × Con) := [(8, laws_eqInt64S.con)]
def laws_eqPermit.E : Env := envOf tab laws_eqPermit.cs 0 false
def laws_eqPermit.keep (i : Nat) : List Nat := []
set_option maxRecDepth 100000 in
theorem laws_eqPermit.body (n : Nat) (x : (Int × Int × Int × Int × List Int × Int) × Int × Int × Int × Int × List Int × Int) : bodyF laws_eqPermit.E laws_eqPermit.keep n Try.f35 laws_eqPermit.con x = laws_eqPermit.fn n x.1 x.2 := by
 have h : bodyF laws_eqPermit.E laws_eqPermit.keep n Try.f35 laws_eqPermit.con x = laws_eqPermit.top x.1 x.2 := by kernel_rfl
 exact h
set_option maxRecDepth 100000 in
theorem laws_eqPermit.good : Good Try.prog 35 laws_eqPermit.con :=
 good_of tabok (cs := laws_eqPermit.cs) ⟨laws_eqInt64S.good, trivial⟩ 0 false (fn := Try.f35) Try.func35 rfl (by decide) (by simp [laws_eqPermit.con]) laws_eqPermit.keep NN (fun _ => rfl) (fun x => laws_eqPermit.body NN x)
end
end Go.Ev.Try

namespace Go.Ev.Try
open Go.Proofs Go.Pl
set_option linter.unusedVariables false
noncomputable section
def laws_eqPermitS.st4 (a0 : List (Int × Int × Int × Int × List Int × Int)) (b1 : List (Int × Int × Int × Int × List Int × Int)) (i5 : Int) : St := ⟨[.dat (.sl 42 (.pair (.int .i64) (.pair (.int .i64) (.pair (.int .i64) (.pair (.int .i64) (.pair (.sl 2 (.int .i64)) (.int .i64))))))) a0, .dat (.sl 42 (.pair (.int .i64) (.pair (.int .i64) (.pair (.int .i64) (.pair (.int .i64) (.pair (.sl 2 (.int .i64)) (.int .i64))))))) b1, .gone, .gone, .gone, .dat (.int .i64) i5, .gone, .gone, .gone, .gone, .gone, .gone, .gone, .gone, .gone, .gone, .gone, .gone, .gone, .gone, .gone, .gone, .gone, .gone, .gone, .gone, .gone], []⟩
def laws_eqPermitS.con : Con := { ps := [(.val, (.sl 42 (.pair (.int .i64) (.pair (.int .i64) (.pair (.int .i64) (.pair (.int .i64) (.pair (.sl 2 (.int .i64)) (.int .i64)))))))), (.val, (.sl 42 (.pair (.int .i64) (.pair (.int .i64) (.pair (.int .i64) (.pair (.int .i64) (.pair (.sl 2 (.int .i64)) (.int .i64))))))))], rs := [(.val, .bool)], F := fun x => laws_eqPermitS.f x.1 x.2 }
def laws_eqPermitS.cs : List (FuncId × Con) := [(35, laws_eqPermit.con)]
def laws_eqPermitS.E : Env := envOf tab laws_eqPermitS.cs 0 false
def laws_eqPermitS.keep (i : Nat) : List Nat := if i = 4 then [0, 1, 5] else []
def laws_eqPermitS.at4 (n : Nat) (x : (List (Int × Int × Int × Int × List Int × Int)) × List (Int × Int × Int × Int × List Int × Int)) : Code × (Ex → St → Option (Bool)) := ctx laws_eqPermitS.E laws_eqPermitS.keep n [.snd, .snd, .fst, .snd, .blk] (codeOf Try.f25) (kEnd laws_eqPermitS.E Try.f25 laws_eqPermitS.con x)
def laws_eqPermitS.LN4 (n : Nat) (x : (List (Int × Int × Int × Int × List Int × Int)) × List (Int × Int × Int × Int × List Int × Int)) : Nat → St → Option (Bool) := loopN (exec laws_eqPermitS.E laws_eqPermitS.keep n (bodyOf (laws_eqPermitS.at4 n x).1)) (St.norm 0 (laws_eqPermitS.keep 4)) (laws_eqPermitS.at4 n x).2
set_option maxRecDepth 100000 in
theorem laws_eqPermitS.lem4 (n : Nat) (x : (List (Int × Int × Int × Int × List Int × Int)) × List (Int × Int × Int × Int × List Int × Int)) : ∀ (k : Nat) (a0 : List (Int × Int × Int × Int × List Int × Int)) (b1 : List (Int × Int × Int × Int × List Int × Int)) (i5 : Int), laws_eqPermitS.LN4 n x k (laws_eqPermitS.st4 a0 b1 i5) = laws_eqPermitS.l4 n k a0 b1 i5 := by
 intro k
 induction k with
 | zero => intro a0 b1 i5; rfl
 | succ k ih =>
  intro a0 b1 i5
  have h : laws_eqPermitS.LN4 n x (k + 1) (laws_eqPermitS.st4 a0 b1 i5) = laws_eqPermitS.g4 (fun a0 b1 i5 => laws_eqPermitS.LN4 n x k (laws_eqPermitS.st4 a0 b1 i5)) a0 b1 i5 := by kernel_rfl
  rw [h]
  simp only [ih]
  rfl
set_option maxRecDepth 100000 in
theorem laws_eqPermitS.body (n : Nat) (x : (List (Int × Int × Int × Int × List Int × Int)) × List (Int × Int × Int × Int × List Int × Int)) : bodyF laws_eqPermitS.E laws_eqPermitS.keep n Try.f25 laws_eqPermitS.con x = laws_eqPermitS.fn n x.1 x.2 := by
 have h : bodyF laws_eqPermitS.E laws_eqPermitS.keep n Try.f25 laws_eqPermitS.con x = laws_eqPermitS.top (fun a0 b1 i5 => laws_eqPermitS.LN4 n x n (laws_eqPermitS.st4 a0 b1 i5)) x.1 x.2 := by kernel_rfl
 rw [h]
 simp only [laws_eqPermitS.lem4]
 rfl
set_option maxRecDepth 100000 in
theorem laws_eqPermitS.good : Good Try.prog 25 laws_eqPermitS.con :=
 good_of tabok (cs := laws_eqPermitS.cs) ⟨laws_eqPermit.good, trivial⟩ 0 false (fn := Try.f25) Try.func25 rfl (by decide) (by simp [laws_eqPermitS.con]) laws_eqPermitS.keep NN (fun _ => rfl) (fun x => laws_eqPermitS.body NN x)
end
end Go.Ev.Try

namespace Go.Ev.Try
open Go.Proofs Go.Pl
set_option linter.unusedVariables false
noncomputable section
def laws_intactPermitS.st5 (x0 : List (Int × Int × Int × Int × (List Int × List Int) × Int) × List (Int × Int × Int × Int × (List Int × List Int) × Int)) (y1 : List (Int × Int × Int × Int × (List Int × List Int) × Int) × List (Int × Int × Int × Int × (List Int × List Int) × Int)) (n5 : Int) (i6 : Int) : St := ⟨[.dat (.slb 42 (.pair (.int .i64) (.pair (.int .i64) (.pair (.int .i64) (.pair (.int .i64) (.pair (.slb 2 (.int .i64)) (.int .i64))))))) x0, .dat (.slb 42 (.pair (.int .i64) (.pair (.int .i64) (.pair (.int .i64) (.pair (.int .i64) (.pair (.slb 2 (.int .i64)) (.int .i64))))))) y1, .gone, .gone, .gone, .dat (.int .i64) n5, .dat (.int .i64) i6, .gone, .gone, .gone, .gone, .gone, .gone, .gone, .gone, .gone, .gone, .gone, .gone, .gone, .gone, .gone, .gone, .gone, .gone, .gone, .gone, .gone, .gone, .gone, .gone, .gone, .gone, .gone, .gone, .gone, .gone, .gone, .gone, .gone, .gone, .gone, .gone, .gone, .gone], []⟩
def laws_intactPermitS.con : Con := { ps := [(.val, (.slb 42 (.pair (.int .i64) (.pair (.int .i64) (.pair (.int .i64) (.pair (.int .i64) (.pair (.slb 2 (.int .i64)) (.int .i64)))))))), (.val, (.slb 42 (.pair (.int .i64) (.pair (.int .i64) (.pair (.int .i64) (.pair (.int .i64) (.pair (.slb 2 (.int .i64)) (.int .i64))))))))], rs := [(.val, .bool)], F := fun x => laws_intactPermitS.f x.1 x.2 }
def laws_intactPermitS.cs : List (FuncId × Con) := [(17, laws_roomBehind.con), (24, laws_intactPermit.con), (25, laws_eqPermitS.con)]
def laws_intactPermitS.E : Env := envOf tabD laws_intactPermitS.cs 0 false
def laws_intactPermitS.keep (i : Nat) : List Nat := if i = 5 then [0, 1, 5, 6] else []
def laws_intactPermitS.at5 (n : Nat) (x : (List (Int × Int × Int × Int × (List Int × List Int) × Int) × List (Int × Int × Int × Int × (List Int × List Int) × Int)) × List (Int × Int × Int × Int × (List Int × List Int) × Int) × List (Int × Int × Int × Int × (List Int × List Int) × Int)) : Code × (Ex → St → Option (Bool)) := ctx laws_intactPermitS.E laws_intactPermitS.keep n [.snd, .snd, .snd, .fst, .snd, .blk] (codeOf Try.f9) (kEnd laws_intactPermitS.E Try.f9 laws_intactPermitS.con x)
def laws_intactPermitS.LN5 (n : Nat) (x : (List (Int × Int × Int × Int × (List Int × List Int) × Int) × List (Int × Int × Int × Int × (List Int × List Int) × Int)) × List (Int × Int × Int × Int × (List Int × List Int) × Int) × List (Int × Int × Int × Int × (List Int × List Int) × Int)) : Nat → St → Option (Bool) := loopN (exec laws_intactPermitS.E laws_intactPermitS.keep n (bodyOf (laws_intactPermitS.at5 n x).1)) (St.norm 0 (laws_intactPermitS.keep 5)) (laws_intactPermitS.at5 n x).2
set_option maxRecDepth 100000 in
theorem laws_intactPermitS.lem5 (n : Nat) (x : (List (Int × Int × Int × Int × (List Int × List Int) × Int) × List (Int × Int × Int × Int × (List Int × List Int) × Int)) × List (Int × Int × Int × Int × (List Int × List Int) × Int) × List (Int × Int × Int × Int × (List Int × List Int) × Int)) : ∀ (k : Nat) (x0 : List (Int × Int × Int × Int × (List Int × List Int) × Int) × List (Int × Int × Int × Int × (List Int × List Int) × Int)) (y1 : List (Int × Int × Int × Int × (List Int × List Int) × Int) × List (Int × Int × Int × Int × (List Int × List Int) × Int)) (n5 : Int) (i6 : Int), laws_intactPermitS.LN5 n x k (laws_intactPermitS.st5 x0 y1 n5 i6) = laws_intactPermitS.l5 n k x0 y1 n5 i6 := by
 intro k
 induction k with
 | zero => intro x0 y1 n5 i6; rfl
 | succ k ih =>
  intro x0 y1 n5 i6
  have h : laws_intactPermitS.LN5 n x (k + 1) (laws_intactPermitS.st5 x0 y1 n5 i6) = laws_intactPermitS.g5 (fun x0 y1 n5 i6 => laws_intactPermitS.LN5 n x k (laws_intactPermitS.st5 x0 y1 n5 i6)) x0 y1 n5 i6 := by kernel_rfl
  rw [h]
  simp only [ih]
  rfl
set_option maxRecDepth 100000 in
theorem laws_intactPermitS.body (n : Nat) (x : (List (Int × Int × Int × Int × (List Int × List Int) × Int) × List (Int × Int × Int × Int × (List Int × List Int) × Int)) × List (Int × Int × Int × Int × (List Int × List Int) × Int) × List (Int × Int × Int × Int × (List Int × List Int) × Int)) : bodyF laws_intactPermitS.E laws_intactPermitS.keep n Try.f9 laws_intactPermitS.con x = laws_intactPermitS.fn n x.1 x.2 := by
 have h : bodyF laws_intactPermitS.E laws_intactPermitS.keep n Try.f9 laws_intactPermitS.con x = laws_intactPermitS.top (fun x0 y1 n5 i6 => laws_intactPermitS.LN5 n x n (laws_intactPermitS.st5 x0 y1 n5 i6)) x.1 x.2 := by kernel_rfl
 rw [h]
 simp only [laws_intactPermitS.lem5]
 rfl
set_option maxRecDepth 100000 in
theorem laws_intactPermitS.good : Good Try.prog 9 laws_intactPermitS.con :=
 good_of tabokD (cs := laws_intactPermitS.cs) ⟨laws_roomBehind.good, laws_intactPermit.good, laws_eqPermitS.good, trivial⟩ 0 false (fn := Try.f9) Try.func9 rfl (by decide) (by simp [laws_intactPermitS.con]) laws_intactPermitS.keep NN (fun _ => rfl) (fun x => laws_intactPermitS.body NN x)
end
end Go.Ev.Try

namespace Go.Pl
open Go.Ev
set_option linter.unusedVariables false
noncomputable section
def laws_heldInt64S.g2 (L2 : List Int → Int → Int → Option Int) (a0 : List Int) (k1 : Int) (i5 : Int) : Option Int :=
 if (decide ((i5 : Int) < (a0.length : Int))) = true then
 if (0 : Int) ≤ i5 ∧ (i5 : Int) < a0.length then
 if (((a0.getD (i5 : Int).toNat 0) : Int) != k1) = true then
 some (-1)
 else
 L2 a0 (IntKind.i64.wrap (k1 + 1)) (IntKind.i64.wrap (i5 + 1))
 else
 none
 else
 some k1
def laws_heldInt64S.l2 (n : Nat) : Nat → List Int → Int → Int → Option Int
 | 0 => fun _ _ _ => none
 | k + 1 => laws_heldInt64S.g2 (laws_heldInt64S.l2 n k)
def laws_heldInt64S.top (I2 : List Int → Int → Int → Option Int) (a0 : List Int) (k1 : Int) : Option Int :=
 I2 a0 k1 0
def laws_heldInt64S.fn (n : Nat) (a0 : List Int) (k1 : Int) : Option Int := laws_heldInt64S.top (laws_heldInt64S.l2 n n) a0 k1
def laws_heldInt64S.f (a0 : List Int) (k1 : Int) : Option Int := laws_heldInt64S.fn NN a0 k1
end
end Go.Pl

namespace Go.Ev.Try
open Go.Proofs Go.Pl
set_option linter.unusedVariables false
noncomputable section
def laws_heldInt64S.st2 (a0 : List Int) (k1 : Int) (i5 : Int) : St := ⟨[.dat (.sl 2 (.int .i64)) a0, .dat (.int .i64) k1, .gone, .gone, .gone, .dat (.int .i64) i5, .gone, .gone, .gone, .gone, .gone, .gone, .gone, .gone, .gone, .gone, .gone, .gone, .gone, .gone, .gone], []⟩
def laws_heldInt64S.con : Con := { ps := [(.val, (.sl 2 (.int .i64))), (.val, (.int .i64))], rs := [(.val, (.int .i64))], F := fun x => laws_heldInt64S.f x.1 x.2 }
def laws_heldInt64S.cs : List (FuncId × Con) := []
def laws_heldInt64S.E : Env := envOf tab laws_heldInt64S.cs 0 false
def laws_heldInt64S.keep (i : Nat) : List Nat := if i = 2 then [0, 1, 5] else []
def laws_heldInt64S.at2 (n : Nat) (x : List Int × Int) : Code × (Ex → St → Option (Int)) := ctx laws_heldInt64S.E laws_heldInt64S.keep n [.snd, .fst, .snd, .blk] (codeOf Try.f12) (kEnd laws_heldInt64S.E Try.f12 laws_heldInt64S.con x)
def laws_heldInt64S.LN2 (n : Nat) (x : List Int × Int) : Nat → St → Option (Int) := loopN (exec laws_heldInt64S.E laws_heldInt64S.keep n (bodyOf (laws_heldInt64S.at2 n x).1)) (St.norm 0 (laws_heldInt64S.keep 2)) (laws_heldInt64S.at2 n x).2
set_option maxRecDepth 100000 in
theorem laws_heldInt64S.lem2 (n : Nat) (x : List Int × Int) : ∀ (k : Nat) (a0 : List Int) (k1 : Int) (i5 : Int), laws_heldInt64S.LN2 n x k (laws_heldInt64S.st2 a0 k1 i5) = laws_heldInt64S.l2 n k a0 k1 i5 := by
 intro k
 induction k with
 | zero => intro a0 k1 i5; rfl
 | succ k ih =>
  intro a0 k1 i5
  have h : laws_heldInt64S.LN2 n x (k + 1) (laws_heldInt64S.st2 a0 k1 i5) = laws_heldInt64S.g2 (fun a0 k1 i5 => laws_heldInt64S.LN2 n x k (laws_heldInt64S.st2 a0 k1 i5)) a0 k1 i5 := by kernel_rfl
  rw [h]
  simp only [ih]
  rfl
set_option maxRecDepth 100000 in
theorem laws_heldInt64S.body (n : Nat) (x : List Int × Int) : bodyF laws_heldInt64S.E laws_heldInt64S.keep n Try.f12 laws_heldInt64S.con x = laws_heldInt64S.fn n x.1 x.2 := by
 have h : bodyF laws_heldInt64S.E laws_heldInt64S.keep n Try.f12 laws_heldInt64S.con x = laws_heldInt64S.top (fun a0 k1 i5 => laws_heldInt64S.LN2 n x n (laws_heldInt64S.st2 a0 k1 i5)) x.1 x.2 := by kernel_rfl
 rw [h]
 simp only [laws_heldInt64S.lem2]
 rfl
set_option maxRecDepth 100000 in
theorem laws_heldInt64S.good : Good Try.prog 12 laws_heldInt64S.con :=
 good_of tabok (cs := laws_heldInt64S.cs) trivial 0 false (fn := Try.f12) Try.func12 rfl (by decide) (by simp [laws_heldInt64S.con]) laws_heldInt64S.keep NN (fun _ => rfl) (fun x => laws_heldInt64S.body NN x)
end
end Go.Ev.Try

namespace Go.Ev.Try
open Go.Proofs Go.Pl Go.RowKit
set_option linter.unusedVariables false
set_option linter.unusedSimpArgs false
theorem good_raw {P : Program} {f : FuncId} {c : Con} (hG : Good P f c) (hgv : c.gv = false) {x : Tup (c.ps.map (·.2))} {r : Tup ((c.rs ++ iosG c.gv c.ps).map (·.2))} (hF : c.F x = some r) {w : World} {vs : List Value} {m : Nat}
    (hks : KsOk w (fun b => b < w.heap.size) (kds' c.ps (dats _ x)) vs (List.replicate m [])) :
    Calls P f vs.toArray w fun e w' => ∃ us hs, e = .returned (retOf us) ∧ KsOk w' (fun b => b < w'.heap.size) (kds' c.rs (dats _ r)) us hs ∧ Below w.heap.size w w' := by
  have h := hG.1 x r hF w vs (List.replicate m []) (fun b => b < w.heap.size) (fun b hb => ⟨hb, by rw [flat_nil]; simp⟩) (by rw [flat_nil]; simp) (by rw [flat_nil]; simp) hks
  refine h.mono fun e w' hp => ?_
  obtain ⟨us, hs, rfl, _, _, _, h6, _, h7, h8, h9⟩ := hp
  refine ⟨us, hs, rfl, ?_, ⟨h9.1, h9.2.1, h9.2.2, h8, fun b hb => h7 b hb (by rw [flat_nil]; simp)⟩⟩
  have key : ∀ (ks : List (Kn × Dat)) (us : List Value) (hs : List (List Nat)) (S S' : Nat → Prop), (∀ b, S b → S' b) → KsOk w' S ks us hs → KsOk w' S' ks us hs := by
    intro ks
    induction ks with
    | nil => intro us hs S S' hS h; exact h
    | cons k ks ih =>
      obtain ⟨k, d⟩ := k
      intro us hs S S' hS h
      obtain ⟨v, l, g0, g1, e1, e2, h1, h2⟩ := h
      exact ⟨v, l, g0, g1, e1, e2, KOk_S hS h1, ih _ _ _ _ hS h2⟩
  exact key _ _ _ _ _ (fun b hb => hb.2.1) h6
section
variable {W : World}
theorem val_one {t : Ty} (ht : isAgg t = false) {v : Value} {cs : List Value} (h : Val t v cs) : cs = [v] := by
  unfold Val at h
  rw [ht] at h
  simpa using h
theorem kv_of {S : Nat → Prop} {t : Ty} (ht : isAgg t = false) {x : t.I} {u : Value} (h : Rs W S t x [u]) : KOk W S .val t x u [] := ⟨rfl, [u], h, by unfold Val; rw [ht]; simp⟩
theorem sz_at {A : Option Addr} {c : Nat} {ps : List PT.I} {left s : Int} (hA : RowAt W (fun b => b < W.heap.size) (Rs W (fun b => b < W.heap.size) PT) 6 A ps) (hc : ps.length ≤ c) (hs : laws_szPermitS.f ps left = some s) :
    Calls Try.prog 4 #[.slice A ps.length c, .int .i64 left] W fun e W' => e = .returned (.int .i64 s) ∧ Below W.heap.size W W' := by
  refine (good_raw (c := laws_szPermitS.con) laws_szPermitS.good rfl (x := (ps, left)) (r := s) hs (vs := [.slice A ps.length c, .int .i64 left]) (m := 2) ⟨_, _, _, _, rfl, rfl, kv_of rfl ⟨A, c, rfl, hc, hA⟩, _, _, _, _, rfl, rfl, kv_of rfl rfl, rfl, rfl⟩).mono fun e W' hp => ?_
  obtain ⟨us, hs, rfl, ⟨v, l, g0, g1, rfl, rfl, ⟨_, cs, h1, h2⟩, rfl, rfl⟩, hB⟩ := hp
  have h3 := val_one rfl h2
  have h1 : cs = [.int .i64 s] := h1
  rw [h1] at h3
  simp only [List.cons.injEq, and_true] at h3
  exact ⟨by rw [← h3]; rfl, hB⟩
theorem few5_at {ps : List PT.I} {u : Value} {f t : Int} {r : List Int × Int} (hu : Rs W (fun b => b < W.heap.size) (.sl 42 PT) ps [u]) (hF : spec_FewestPermits.f ps f t = some r) :
    Calls Try.prog 5 #[u, .int .i64 f, .int .i64 t] W fun e W' => ∃ v, e = .returned (.tuple #[v, .int .i64 r.2]) ∧ Rs W' (fun b => b < W'.heap.size) (.sl 2 (.int .i64)) r.1 [v] ∧ Below W.heap.size W W' := by
  refine (good_raw (c := spec_FewestPermits.con) spec_FewestPermits.good rfl (x := (ps, f, t)) (r := r) hF (vs := [u, .int .i64 f, .int .i64 t]) (m := 3) ⟨_, _, _, _, rfl, rfl, kv_of rfl hu, _, _, _, _, rfl, rfl, kv_of rfl rfl, _, _, _, _, rfl, rfl, kv_of rfl rfl, rfl, rfl⟩).mono fun e W' hp => ?_
  obtain ⟨us, hs, rfl, ⟨v, l, g0, g1, rfl, rfl, ⟨_, cs, h1, h2⟩, v2, l2, g2, g3, rfl, rfl, ⟨_, cs2, h3, h4⟩, rfl, rfl⟩, hB⟩ := hp
  have h5 := val_one rfl h2
  have h6 := val_one rfl h4
  have h3 : cs2 = [.int .i64 r.2] := h3
  rw [h3] at h6
  simp only [List.cons.injEq, and_true] at h6
  subst h5
  exact ⟨v, by rw [← h6]; rfl, h1, hB⟩
theorem row_parts {S : Nat → Prop} {ps : List PT.I} {u : Value} (hu : Rs W S (.sl 42 PT) ps [u]) : ∃ A c, u = .slice A ps.length c ∧ ps.length ≤ c ∧ RowAt W S (Rs W S PT) 6 A ps := by
  obtain ⟨A, c, h1, h2, h3⟩ := hu
  simp only [List.cons.injEq, and_true] at h1
  exact ⟨A, c, h1, h2, h3⟩
theorem few7_at {ps : List PT.I} {u : Value} {f t : Int} {r : List Int × Int} (hu : Rs W (fun b => b < W.heap.size) (.sl 42 PT) ps [u]) (hF : impl_FewestPermits.f ps f t = some r) :
    Calls Try.prog 7 #[u, .int .i64 f, .int .i64 t] W fun e W' => ∃ v, e = .returned (.tuple #[v, .int .i64 r.2]) ∧ Rs W' (fun b => W.heap.size ≤ b ∧ b < W'.heap.size) (.sl 2 (.int .i64)) r.1 [v] ∧ Below W.heap.size W W' := by
  obtain ⟨A, c, rfl, h2, h3⟩ := row_parts hu
  exact fewest_at h3 h2 hF
theorem own_data {S : Nat → Prop} {r : List PD.I × List PD.I} {u : Value} {hs : List Nat} (h : KOk W S .own (.slb 42 PD) r u hs) : Rs W (fun b => S b ∨ b ∈ hs) (.slb 42 PD) r [u] := by
  obtain ⟨cs, ⟨v, rfl, h1⟩, h2⟩ := h
  have h3 := val_one rfl h2
  simp only [List.cons.injEq, and_true] at h3
  subst h3
  rcases h1 with ⟨rfl, e1, e2, _⟩ | ⟨g, cap, cells, rfl, rfl, h4, h5, h6, h7, h8⟩
  · obtain ⟨a, b⟩ := r
    simp only at e1 e2
    subst e1 e2
    exact ⟨none, 0, rfl, Nat.le_refl _, fun i x hx => by simp at hx⟩
  · refine ⟨some ⟨g, 0, none⟩, cap, rfl, by rw [List.length_append] at h7; exact h7, fun i x hx => ?_⟩
    obtain ⟨c, k1, k2⟩ := h8 i x hx
    refine ⟨_, c, rfl, rfl, .inr List.mem_cons_self, Rs_mono (fun b hb => .inl hb) k1, fun j u hj => ⟨?_, by unfold World.frozen?; simp [h4]⟩⟩
    have := k2 j u hj
    rw [cell_of h4]
    show cells[0 + i * PD.sz + j]? = some u
    rw [Nat.zero_add, ← Array.getElem?_toList]
    exact this
theorem to_at {A : Option Addr} {c : Nat} {ps : List PT.I} (hA : RowAt W (fun b => b < W.heap.size) (Rs W (fun b => b < W.heap.size) PT) 6 A ps) {b : Bool} {r : List PD.I × List PD.I} (hF : laws_toPermitS.f ps b = some r) :
    Calls Try.prog 6 #[.slice A ps.length c, .bool b] W fun e W' => ∃ u, e = .returned u ∧ Rs W' (fun b' => W.heap.size ≤ b' ∧ b' < W'.heap.size) (.slb 42 PD) r [u] ∧ Below W.heap.size W W' := by
  refine (toPermitS_at (c := c) hA hF).mono fun e W' hp => ?_
  obtain ⟨u, hs, rfl, h1, h2, h3, h4, h5, h6, h7, h8⟩ := hp
  refine ⟨u, rfl, Rs_mono (fun b hb => ?_) (own_data h3), ⟨h6, h7, h8, h5, h4⟩⟩
  rcases hb with hb | hb
  · exact ⟨hb.1, hb.2.1⟩
  · exact h2 b hb
theorem pd_pt {S : Nat → Prop} {r : List PD.I × List PD.I} {u : Value} (h : Rs W S (.slb 42 PD) r [u]) : Rs W S (.sl 42 PT) (r.1.map (Ty.cf PD PT)) [u] := by
  refine (coe_sound (.slb 42 PD) (.sl 42 PT) r _ _ ?_ h).1
  have h1 : PD ≠ PT := by decide
  have h2 : PD.le PT = true := by decide
  simp only [Ty.coe]
  rw [dif_neg h1, if_pos ⟨h2, trivial⟩]
theorem eq_at {xs ys : List Int} {u v : Value} {b : Bool} (hu : Rs W (fun b => b < W.heap.size) (.sl 2 (.int .i64)) xs [u]) (hv : Rs W (fun b => b < W.heap.size) (.sl 2 (.int .i64)) ys [v]) (hF : laws_eqInt64S.f xs ys = some b) :
    Calls Try.prog 8 #[u, v] W fun e W' => e = .returned (.bool b) ∧ Below W.heap.size W W' := by
  refine (good_raw (c := laws_eqInt64S.con) laws_eqInt64S.good rfl (x := (xs, ys)) (r := b) hF (vs := [u, v]) (m := 2) ⟨_, _, _, _, rfl, rfl, kv_of rfl hu, _, _, _, _, rfl, rfl, kv_of rfl hv, rfl, rfl⟩).mono fun e W' hp => ?_
  obtain ⟨us, hs, rfl, ⟨v, l, g0, g1, rfl, rfl, ⟨_, cs, h1, h2⟩, rfl, rfl⟩, hB⟩ := hp
  have h3 := val_one rfl h2
  have h1 : cs = [.bool b] := h1
  rw [h1] at h3
  simp only [List.cons.injEq, and_true] at h3
  exact ⟨by rw [← h3]; rfl, hB⟩
theorem intact_at {xs ys : List PD.I × List PD.I} {u v : Value} {b : Bool} (hu : Rs W (fun b => b < W.heap.size) (.slb 42 PD) xs [u]) (hv : Rs W (fun b => b < W.heap.size) (.slb 42 PD) ys [v]) (hF : laws_intactPermitS.f xs ys = some b) :
    Calls Try.prog 9 #[u, v] W fun e W' => e = .returned (.bool b) ∧ Below W.heap.size W W' := by
  refine (good_raw (c := laws_intactPermitS.con) laws_intactPermitS.good rfl (x := (xs, ys)) (r := b) hF (vs := [u, v]) (m := 2) ⟨_, _, _, _, rfl, rfl, kv_of rfl hu, _, _, _, _, rfl, rfl, kv_of rfl hv, rfl, rfl⟩).mono fun e W' hp => ?_
  obtain ⟨us, hs, rfl, ⟨v, l, g0, g1, rfl, rfl, ⟨_, cs, h1, h2⟩, rfl, rfl⟩, hB⟩ := hp
  have h3 := val_one rfl h2
  have h1 : cs = [.bool b] := h1
  rw [h1] at h3
  simp only [List.cons.injEq, and_true] at h3
  exact ⟨by rw [← h3]; rfl, hB⟩
theorem held_at {xs : List Int} {k n : Int} {u : Value} (hu : Rs W (fun b => b < W.heap.size) (.sl 2 (.int .i64)) xs [u]) (hF : laws_heldInt64S.f xs k = some n) :
    Calls Try.prog 12 #[u, .int .i64 k] W fun e W' => e = .returned (.int .i64 n) ∧ Below W.heap.size W W' := by
  refine (good_raw (c := laws_heldInt64S.con) laws_heldInt64S.good rfl (x := (xs, k)) (r := n) hF (vs := [u, .int .i64 k]) (m := 2) ⟨_, _, _, _, rfl, rfl, kv_of rfl hu, _, _, _, _, rfl, rfl, kv_of rfl rfl, rfl, rfl⟩).mono fun e W' hp => ?_
  obtain ⟨us, hs, rfl, ⟨v, l, g0, g1, rfl, rfl, ⟨_, cs, h1, h2⟩, rfl, rfl⟩, hB⟩ := hp
  have h3 := val_one rfl h2
  have h1 : cs = [.int .i64 n] := h1
  rw [h1] at h3
  simp only [List.cons.injEq, and_true] at h3
  exact ⟨by rw [← h3]; rfl, hB⟩
end
end Go.Ev.Try

namespace Go.Ev.Try
open Go.Proofs Go.Pl Go.RowKit
set_option linter.unusedVariables false
set_option linter.unusedSimpArgs false
section
variable {W : World}
def kindsN (y : PD.I) : Nat := y.2.2.2.2.1.1.length
theorem perm_row {S D : Nat → Prop} {r : List PD.I × List PD.I} {u : Value} (hu : Rs W S (.slb 42 PD) r [u]) (hS : ∀ b, S b → D b) : ∃ A c, u = .slice A (r.1.map kindsN).length c ∧ PermRow D W A (r.1.map kindsN) := by
  obtain ⟨A, c, h1, h2, h3⟩ := hu
  simp only [List.cons.injEq, and_true] at h1
  refine ⟨A, c, by rw [h1, List.length_map], fun i m hm => ?_⟩
  rw [List.getElem?_map, Option.map_eq_some_iff] at hm
  obtain ⟨y, hy, rfl⟩ := hm
  have hlt := (List.getElem?_eq_some_iff.1 hy).1
  obtain ⟨p, cs, rfl, k2, k3, k4, k5⟩ := h3 i y (by rw [List.getElem?_append_left hlt]; exact hy)
  obtain ⟨b, o, sp⟩ := p
  simp only at k2
  subst k2
  obtain ⟨y0, y1, y2, y3, ⟨y4, y4'⟩, y5⟩ := y
  obtain ⟨a0, b0, rfl, e0, a1, b1, rfl, e1, a2, b2, rfl, e2, a3, b3, rfl, e3, a4, b4, rfl, ⟨A', c', rfl, g2, g3⟩, e5⟩ := k4
  have e0 : a0 = [.int .i64 y0] := e0
  have e1 : a1 = [.int .i64 y1] := e1
  have e2 : a2 = [.int .i64 y2] := e2
  have e3 : a3 = [.int .i64 y3] := e3
  have e5 : b4 = [.int .i64 y5] := e5
  subst e0 e1 e2 e3 e5
  refine ⟨b, o, rfl, hS _ k3, fun f hf hf4 => ?_, A', c', ?_, fun j hj => ?_, fun hm b' o' e => ?_⟩
  · have : f = 0 ∨ f = 1 ∨ f = 2 ∨ f = 3 ∨ f = 5 := by omega
    rcases this with rfl | rfl | rfl | rfl | rfl
    · exact ⟨y0, k5 0 _ rfl⟩
    · exact ⟨y1, k5 1 _ rfl⟩
    · exact ⟨y2, k5 2 _ rfl⟩
    · exact ⟨y3, k5 3 _ rfl⟩
    · exact ⟨y5, k5 5 _ rfl⟩
  · exact (k5 4 _ rfl).1
  · have hj' : j < y4.length := hj
    obtain ⟨p, cs, rfl, q2, q3, q4, q5⟩ := g3 j y4[j] (by simp only; rw [List.getElem?_append_left hj', List.getElem?_eq_getElem hj'])
    obtain ⟨b', o', sp⟩ := p
    simp only at q2
    subst q2
    have q4 : cs = [.int .i64 y4[j]] := q4
    subst q4
    have q6 := q5 0 _ rfl
    have : o' + j * (Ty.int IntKind.i64).sz + 0 = o' + j := by simp [Ty.sz]
    simp only [this] at q6
    exact ⟨b', o', _, rfl, q6.1, q6.2⟩
  · have hm' : 0 < y4.length := hm
    obtain ⟨p, cs, e', q2, q3, _⟩ := g3 0 y4[0] (by simp only; rw [List.getElem?_append_left hm', List.getElem?_eq_getElem hm'])
    rw [e] at e'
    cases e'
    exact hS _ q3
theorem int_row {S D : Nat → Prop} {xs : List Int} {u : Value} (hu : Rs W S (.sl 2 (.int .i64)) xs [u]) (hS : ∀ b, S b → D b) : ∃ A c, u = .slice A xs.length c ∧ xs.length ≤ c ∧ IntRow W A xs.length ∧ (0 < xs.length → ∀ b o, A = some ⟨b, o, none⟩ → D b) := by
  obtain ⟨A, c, h1, h2, h3⟩ := hu
  simp only [List.cons.injEq, and_true] at h1
  refine ⟨A, c, h1, h2, fun j hj => ?_, fun hm b o e => ?_⟩
  · obtain ⟨p, cs, rfl, q2, q3, q4, q5⟩ := h3 j xs[j] (List.getElem?_eq_getElem hj)
    obtain ⟨b', o', sp⟩ := p
    simp only at q2
    subst q2
    have q4 : cs = [.int .i64 xs[j]] := q4
    subst q4
    have q6 := q5 0 _ rfl
    have : o' + j * (Ty.int IntKind.i64).sz + 0 = o' + j := by simp [Ty.sz]
    simp only [this] at q6
    exact ⟨b', o', _, rfl, q6.1, q6.2⟩
  · obtain ⟨p, cs, e', q2, q3, _⟩ := h3 0 xs[0] (List.getElem?_eq_getElem hm)
    rw [e] at e'
    cases e'
    exact hS _ q3
def mks (k : Int) (n : Nat) : List Int := (List.range n).map fun (j : Nat) => k + (j : Int)
theorem marked {D S : Nat → Prop} {W' : World} {A : Option Addr} {n c : Nat} {k : Int} (hc : n ≤ c) (hrow : IntRow W A n) (hS : 0 < n → ∀ b o, A = some ⟨b, o, none⟩ → S b) (hI : IntsOnly D W W') (hm : ∀ j b o, j < n → A = some ⟨b, o, none⟩ → W'.cell? ⟨b, o + j, none⟩ = some (.int .i64 (k + j))) :
    Rs W' S (.sl 2 (.int .i64)) (mks k n) [.slice A n c] := by
  have hl : (mks k n).length = n := by simp [mks]
  refine ⟨A, c, by rw [hl], by rw [hl]; exact hc, fun i x hx => ?_⟩
  have hi : i < n := by have := (List.getElem?_eq_some_iff.1 hx).1; omega
  have hx' : x = k + (i : Int) := by
    unfold mks at hx
    rw [List.getElem?_map, List.getElem?_range hi] at hx
    simpa using hx.symm
  subst hx'
  obtain ⟨b, o, y, rfl, h1, h2⟩ := hrow i hi
  refine ⟨_, [.int .i64 (k + i)], rfl, rfl, hS (by omega) b o rfl, rfl, fun j u hj => ?_⟩
  have hj0 : j = 0 := by
    cases j with
    | zero => rfl
    | succ j => simp at hj
  subst hj0
  simp at hj
  subst hj
  have : o + i * (Ty.int IntKind.i64).sz + 0 = o + i := by simp [Ty.sz]
  simp only [this]
  exact ⟨hm i b o hi rfl, (hI.fz _).trans h2⟩
theorem IntsOnly.below {D : Nat → Prop} {W W' : World} {B : Nat} (h : IntsOnly D W W') (hD : ∀ b, D b → B ≤ b) : Below B W W' := ⟨h.os, h.tape, h.output, Nat.le_of_eq h.size.symm, fun k hk => h.block k fun hd => absurd (hD k hd) (by omega)⟩
end
end Go.Ev.Try
