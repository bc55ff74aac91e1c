/- Part 12 of what the law FnTop stands on: an evaluator of the model's code, proved sound; the functions as plain texts; their contracts. -/
import Derived.Test.YtideamfpdeojlaaGreatEvTop11
namespace Go.Pl
open Go.Ev
set_option linter.unusedVariables false
set_option linter.unusedSimpArgs false
def SndC : Ctl → Prop
 | (a,b,r,h,s,d) => (0 ≤ d ∧ d ≤ 4) ∧ (h = true → r = true) ∧ (r = true → (a = true ∧ b = true ∧ s = false) ∧ d ≤ 3)
theorem Vg8 {c : Ctl} (h : SndC c) : SndC (tkC c) := by
 obtain ⟨a,b,r,e,s,d⟩ := c
 obtain ⟨h1,h2,h3⟩ := h
 simp only [tkC]
 by_cases h4 : 3 < d + 1
 ·rw [if_pos h4]; exact ⟨⟨by omega,by omega⟩,fun h => (by cases h),fun h => (by cases h)⟩
 ·rw [if_neg h4]; exact ⟨⟨by omega,by omega⟩,h2,fun h => ⟨(h3 h).1,by omega⟩⟩
theorem VhZ {c : Ctl} (h : SndC c) (i : Int) : SndC (giveB c i) := by
 obtain ⟨a,b,r,e,s,d⟩ := c
 have h' := h
 obtain ⟨h1,h2,h3⟩ := h
 unfold giveB giveC
 simp only
 by_cases i0 : i = 0
 ·rw [if_pos i0]
  cases a
  ·exact ⟨h1,h2,fun hr => (by have := (h3 hr).1.1; cases this)⟩
  ·exact ⟨h1,fun h => (by cases h),fun h => (by cases h)⟩
 rw [if_neg i0]
 by_cases i1 : i = 1
 ·rw [if_pos i1]
  cases b
  ·exact ⟨h1,h2,fun hr => (by have := (h3 hr).1.2.1; cases this)⟩
  ·exact ⟨h1,fun h => (by cases h),fun h => (by cases h)⟩
 rw [if_neg i1]
 by_cases i2 : i = 2
 ·rw [if_pos i2]
  by_cases hc : (a && b && !s) = true
  ·rw [if_pos hc]
   simp only [Bool.and_eq_true,Bool.not_eq_true'] at hc
   exact ⟨⟨by omega,by omega⟩,fun _ => rfl,fun _ => ⟨⟨hc.1.1,hc.1.2,hc.2⟩,by omega⟩⟩
  ·rw [if_neg hc]; exact h'
 rw [if_neg i2]
 by_cases i3 : i = 3
 ·rw [if_pos i3]; exact ⟨h1,fun h => (by cases h),fun h => (by cases h)⟩
 rw [if_neg i3]
 by_cases i4 : i = 4
 ·rw [if_pos i4]
  by_cases hc : (r && !e) = true
  ·rw [if_pos hc]
   simp only [Bool.and_eq_true,Bool.not_eq_true'] at hc
   exact ⟨h1,fun _ => hc.1,h3⟩
  ·rw [if_neg hc]; exact h'
 rw [if_neg i4]
 by_cases i5 : i = 5
 ·rw [if_pos i5]
  by_cases hc : e = true
  ·rw [if_pos hc]; exact ⟨h1,fun h => (by cases h),h3⟩
  ·rw [if_neg hc]; exact h'
 rw [if_neg i5]
 by_cases i6 : i = 6
 ·rw [if_pos i6]; exact ⟨h1,fun h => (by cases h),fun h => (by cases h)⟩
 rw [if_neg i6]
 by_cases i7 : i = 7
 ·rw [if_pos i7]; exact ⟨⟨by omega,by omega⟩,h2,fun h => ⟨(h3 h).1,by omega⟩⟩
 rw [if_neg i7]
 by_cases i8 : i = 8
 ·rw [if_pos i8]; exact Vg8 h'
 rw [if_neg i8]
 by_cases hc : (s && !a && !b) = true
 ·rw [if_pos hc]
  simp only [Bool.and_eq_true,Bool.not_eq_true'] at hc
  exact ⟨h1,h2,fun hr => (by have := (h3 hr).1.1; rw [hc.1.2] at this; cases this)⟩
 ·rw [if_neg hc]; exact h'
theorem Vd2 : ∀ (n : Nat) {c : Ctl},SndC c → SndC (tkN n c) := by
 intro n
 induction n with
 | zero => intro c h; exact h
 | succ n ih => intro c h; exact ih (Vg8 h)
theorem ViC (t : Int) : ∀ (l : List Sig) (c : Ctl) (now : Int),SndC c → SndC (atR l c now t) := by
 intro l
 induction l with
 | nil => intro c now h; exact Vd2 _ h
 | cons x r ih =>
  intro c now h
  simp only [atR]
  split
  ·exact ih _ _ (VhZ (Vd2 _ h) _)
  ·exact Vd2 _ h
theorem Vg9 (l : List Sig) (t : Int) : SndC (ctlAt l t) := ViC t l _ 0 ⟨⟨by omega,by omega⟩,fun h => (by cases h),fun h => (by cases h)⟩
theorem Vha {c : Ctl} (h : SndC c) : QaM.f c = some true := by
 obtain ⟨a,b,r,e,s,d⟩ := c
 obtain ⟨h1,h2,h3⟩ := h
 unfold QaM.f QaM.fn QaM.top
 simp only [QaU,show inB d 0 4 = true from inB_iff.2 h1,Option.bind_some]
 cases r
 ·cases e
  ·rfl
  ·exact absurd (h2 rfl) (by decide)
 ·obtain ⟨⟨rfl,rfl,rfl⟩,h4⟩ := h3 rfl
  simp only [show decide (d ≤ 3) = true from decide_eq_true h4]
  cases e <;> rfl
theorem Vhb {c : Ctl} (h : SndC c) : QaN.f c = some (mayC c,0) := by
 unfold QaN.f QaN.fn QaN.top
 rw [Vha h,Option.bind_some,if_neg (by decide),Qbq]
 rfl
theorem Vgi {ms : List Mov} {zs : List ByteArray} (hm : VG ms = true) (hz : VaL zs = true) (h1 : ms.length ≤ 1000000) (h1z : ∀ m ∈ ms,Sz m.2.1) (h2 : zs.length ≤ 1000000) (h2z : ∀ z ∈ zs,Sz z) {t : Int} (ht : 0 ≤ t ∧ t ≤ 10000000) : Qal.f ms zs t = some (zs.all (clrB ms · t),0) := by
 unfold Qal.f Qal.fn Qal.top
 rw [Qa2 ms h1 h1z,hm,Option.bind_some,if_pos (show (!true) = false from rfl),Qbl zs h2 h2z,hz,Option.bind_some,if_neg (show ¬ (!true) = true by decide),Qbu,show inB t 0 10000000 = true from inB_iff.2 ht,Option.bind_some,if_neg (show ¬ (!true) = true by decide),Qbd ms zs ⟨ht.1,by omega⟩ (V1 hm).2.2 h1 h2]
 rfl
theorem ctl_f {l : List Sig} (h : sigsB l = true) (hl : l.length ≤ 1000000) {T : Int} (hT : 0 ≤ T ∧ T ≤ 100000) : Qb.f l T = some (ctlAt l T,0) := by
 rw [(VcI l T hl).2]
 unfold caR
 rw [if_pos h,if_pos (inB_iff.2 hT)]
theorem Vgj {s : List (Int × Int)} (h : VF s = true) (hl : s.length ≤ 140737488355328) {bar beat : Int} (hb : beatB s bar beat = true) : QaG.f s bar beat = some (timeL s bar beat,0) := by
 unfold QaG.f QaG.fn QaG.top
 rw [Qbr s hl,h,Option.bind_some,if_neg (by decide),(Vcp h bar beat).1,hb,Option.bind_some,if_neg (by decide),Qbm h hb]
 rfl
end Go.Pl

namespace Go.Pl
open Go.Ev
set_option linter.unusedVariables false
set_option linter.unusedSimpArgs false
def sumK : List Bk → Int
 | [] => 0
 | b :: r => b.2.2 + sumK r
theorem Vh0 : ∀ (p r : List Bk),sumK (p ++ r) = sumK p + sumK r := by
 intro p
 induction p with
 | nil => intro r; simp [sumK]
 | cons a p ih => intro r; simp only [List.cons_append,sumK,ih]; omega
def sumI : List Int → Int
 | [] => 0
 | b :: r => b + sumI r
theorem Vh1 : ∀ (l : List Int) (i : Nat),i < l.length → sumI (l.set i (l.getD i 0 + 1)) = sumI l + 1 := by
 intro l
 induction l with
 | nil => intro i h; simp at h
 | cons a l ih =>
  intro i h
  cases i with
  | zero => simp [sumI]; omega
  | succ i =>
   have := ih i (by simpa using h)
   simp only [List.set_cons_succ,sumI,List.getD_cons_succ,this]; omega
theorem ViD (x : Show) (fired : List Int) : ∀ (arts : List Art),sumK (extF x fired arts) = sumI (arts.map fun a => (cntN x fired a.1 : Int)) := by
 intro arts
 induction arts with
 | nil => rfl
 | cons a r ih =>
  simp only [extF,Vh0,List.map_cons,sumI,ih]
  split
  ·simp [sumK]
  ·have : cntN x fired a.1 = 0 := by omega
   rw [this]; simp [sumK]
theorem Vh2 (x : Show) (fired : List Int) : ∀ (arts : List Art),∀ b ∈ extF x fired arts,b.1 = 1 ∧ 0 ≤ b.2.2 ∧ b.2.2 ≤ (fired.length : Int) := by
 intro arts
 induction arts with
 | nil => intro b hb; cases hb
 | cons a r ih =>
  intro b hb
  simp only [extF] at hb
  rcases List.mem_append.1 hb with h | h
  ·split at h
   ·rw [List.mem_singleton.1 h]
    have := VcD x fired a.1
    exact ⟨rfl,by simp only; omega,by simp only; omega⟩
   ·cases h
  ·exact ih b h
theorem Vh3 {x : Show} (hx : showB x = true) : ∀ (r p : List Int),p.length + r.length ≤ 1000000 → (∀ f ∈ r,0 ≤ f ∧ f < (x.2.2.length : Int)) → sumI (cntsL x (p ++ r)) = sumI (cntsL x p) + (r.length : Int) := by
 intro r
 induction r with
 | nil => intro p _ _; simp
 | cons f r ih =>
  intro p hl hf
  simp only [List.length_cons] at hl
  have hff := hf f (by simp)
  have ha := Vd0 hx hff.1 hff.2
  have hbd := Vau x.2.1 (cueA x f)
  have hu := Vdb (VaH hx).2.1 p f ha (by omega)
  have hlen : (cntsL x p).length = x.2.1.length := by simp [cntsL]
  have hw : IntKind.i64.wrap ((cntsL x p).getD (artI x.2.1 (cueA x f)).toNat 0 + 1) = (cntsL x p).getD (artI x.2.1 (cueA x f)).toNat 0 + 1 := by
   obtain ⟨h1,h2⟩ := VfR ha
   have hg : (cntsL x p).getD (artI x.2.1 (cueA x f)).toNat 0 = (cntN x p (cueA x f) : Int) := by
    unfold cntsL
    rw [List.getD_eq_getElem?_getD,List.getElem?_map,List.getElem?_eq_getElem h1]
    simp only [Option.map_some,Option.getD_some,h2]
   have := VcD x p (cueA x f)
   rw [hg,w64 (by omega) (by omega)]
  have i := ih (p ++ [f]) (by simp; omega) (fun g hg => hf g (by simp [hg]))
  rw [List.append_assoc] at i
  rw [show p ++ f :: r = p ++ ([f] ++ r) by simp,i,← hu,hw,Vh1 _ _ (by omega)]
  simp only [List.length_cons]; omega
theorem Vhc (x : Show) : sumI (cntsL x []) = 0 := by
 unfold cntsL cntN
 generalize x.2.1 = l
 induction l with
 | nil => rfl
 | cons a r ih => simp only [List.map_cons,sumI,ih]; simp
theorem ViE (books : List Bk) (fired : List Int) (booked : List Bk) (hn : books.length ≤ booked.length) (hbl : booked.length ≤ 1000000) (ht : booked.take books.length = books) : ∀ (r p : List Bk) (tot : Int) (k : Nat),booked = p ++ r → r.length < k → 0 ≤ tot → tot + 1000000 * (r.length : Int) ≤ 1000000000000000 → (∀ b ∈ r,b.1 = 1 ∧ 0 ≤ b.2.2 ∧ b.2.2 ≤ 1000000) → tot + sumK r = (fired.length : Int) →
  Qg.l36 NN k books fired tot p.length booked booked = some true := by
 intro r
 induction r with
 | nil =>
  intro p tot k hb hk _ _ _ hs
  obtain ⟨k,rfl⟩ : ∃ j,k = j + 1 := ⟨k - 1,by omega⟩
  have c : ¬ (p.length : Int) < (booked.length : Int) := by rw [hb]; simp
  have e : (tot == (fired.length : Int)) = true := by rw [← hs]; simp [sumK]
  have n : (0 : Int) ≤ (books.length : Int) ∧ (books.length : Int) ≤ (booked.length : Int) := ⟨by omega,by omega⟩
  simp only [Qg.l36,Qg.g36]
  rw [if_neg (by rw [decide_eq_false c]; decide),if_pos e,if_pos n,Int.toNat_natCast,ht,Va5 books (by omega)]
  rfl
 | cons b r ih =>
  intro p tot k hb hk h0 h1 hf hs
  simp only [List.length_cons] at hk h1
  obtain ⟨k,rfl⟩ : ∃ j,k = j + 1 := ⟨k - 1,by omega⟩
  have hbb := hf b (by simp)
  have hm : p.length < booked.length := by rw [hb]; simp
  have c0 : (0 : Int) ≤ (p.length : Int) := by omega
  have c1 : (p.length : Int) < (booked.length : Int) := by omega
  have cw := w64 (n := (p.length : Int) + 1) (by omega) (by omega)
  have w := w64 (n := tot + b.2.2) (by omega) (by omega)
  have i := ih (p ++ [b]) (tot + b.2.2) k (by rw [hb]; simp) (by omega) (by omega) (by omega) (fun y hy => hf y (by simp [hy])) (by rw [← hs,sumK]; omega)
  rw [Vt] at i
  have e1 : (b.1 != 1) = false := by rw [hbb.1]; rfl
  have hg : booked.getD p.length (0,(ByteArray.empty,0)) = b := by rw [hb,List.getD_eq_getElem?_getD]; simp
  simp only [Qg.l36,Qg.g36,c0,c1,cw,and_self,and_true,true_and,decide_true,decide_false,if_true,if_false,Vd,Ve,Va,Vb,Vf,Option.bind_some,Bool.not_true,Bool.not_false,Bool.false_eq_true,Bool.true_eq_false,beq_self_eq_true,bne_self_eq_false,Int.toNat_natCast,hg,e1,w]
  exact i
theorem ViF (L25 : Int → List Bk → List Int → Int → Int → Int → Show → List (List Int) → List (List Int) → List Bk → List Bk → Option Bool) (one : Int) (books : List Bk) (fired : List Int) (three kk : Int) (x : Show) (W : List (List Int)) (b c : List Bk) (rest : List (List Int)) (hW : W.length ≤ 1000000) (hr : ∀ row rs,rest = row :: rs → row.length = 3 ∧ row.getD 2 0 ≠ kk) : ∀ (rows pre : List (List Int)) (k : Nat),W = pre ++ (rows ++ rest) → rows.length < k → (∀ row ∈ rows,row.length = 3 ∧ row.getD 2 0 = kk) →
  Qg.l30 NN L25 k one books fired three pre.length kk x W W b c = L25 one books fired three ((pre ++ rows).length : Int) (IntKind.i64.wrap (kk + 1)) x W W b c := by
 intro rows
 induction rows with
 | nil =>
  intro pre k hw hk _
  obtain ⟨k,rfl⟩ : ∃ j,k = j + 1 := ⟨k - 1,by omega⟩
  rw [List.nil_append] at hw
  rw [List.append_nil]
  cases rest with
  | nil =>
   have n : ¬ (pre.length : Int) < (W.length : Int) := by rw [hw]; simp
   simp only [Qg.l30,Qg.g30]
   rw [if_neg (by rw [decide_eq_false n]; decide)]
  | cons row rs =>
   obtain ⟨r1,r2⟩ := hr row rs rfl
   have n : (pre.length : Int) < (W.length : Int) := by rw [hw]; simp; omega
   have hg : W.getD ((pre.length : Int)).toNat [] = row := by rw [hw,Int.toNat_natCast,List.getD_eq_getElem?_getD]; simp
   have r2' : ¬ ((row.getD (2 : Int).toNat 0 : Int) == kk) = true := by
    intro h; exact r2 (by simpa using h)
   simp only [Qg.l30,Qg.g30]
   rw [if_pos (decide_eq_true n),if_pos ⟨by omega,n⟩,hg,if_pos ⟨by omega,by rw [r1]; omega⟩,if_neg r2']
 | cons row rows ih =>
  intro pre k hw hk hrow
  simp only [List.length_cons] at hk
  obtain ⟨k,rfl⟩ : ∃ j,k = j + 1 := ⟨k - 1,by omega⟩
  obtain ⟨r1,r2⟩ := hrow row (by simp)
  have n : (pre.length : Int) < (W.length : Int) := by rw [hw]; simp; omega
  have hg : W.getD ((pre.length : Int)).toNat [] = row := by rw [hw,Int.toNat_natCast,List.getD_eq_getElem?_getD]; simp
  have r2' : ((row.getD (2 : Int).toNat 0 : Int) == kk) = true := by
   have : row.getD (2 : Int).toNat 0 = kk := r2
   rw [this]; simp
  have cw := w64 (n := (pre.length : Int) + 1) (by omega) (by omega)
  have i := ih (pre ++ [row]) k (by rw [hw]; simp) (by omega) (fun y hy => hrow y (by simp [hy]))
  rw [Vt,List.append_assoc,List.singleton_append] at i
  simp only [Qg.l30,Qg.g30]
  rw [if_pos (decide_eq_true n),if_pos ⟨by omega,n⟩,hg,if_pos ⟨by omega,by rw [r1]; omega⟩,if_pos r2',cw]
  exact i
theorem Ven (x : Show) (k : Int) (c : Cue) : ∀ row ∈ cueW x k c,row.length = 3 ∧ row.getD 2 0 = k := by
 intro row h
 unfold cueW at h
 obtain ⟨i,_,e⟩ := List.mem_map.1 h
 rw [← e]
 exact ⟨rfl,rfl⟩
theorem Veo (x : Show) : ∀ (r : List Cue) (k : Nat),∀ row ∈ winF x k r,row.length = 3 ∧ (k : Int) ≤ row.getD 2 0 := by
 intro r
 induction r with
 | nil => intro k row h; cases h
 | cons c r ih =>
  intro k row h
  rcases List.mem_append.1 h with h | h
  ·obtain ⟨h1,h2⟩ := Ven x k c row h
   exact ⟨h1,by omega⟩
  ·obtain ⟨h1,h2⟩ := ih (k + 1) row h
   exact ⟨h1,by omega⟩
theorem Vgk {x : Show} {c : Cue} (k : Int) (ha : ArtN (artO x c) (shN (artO x c))) : ∃ tl,cueW x k c = wRow (artO x c) (fireT x c) k 0 :: tl := by
 have h1 := ha.2.2.1
 unfold cueW
 obtain ⟨m,hm⟩ : ∃ m,shN (artO x c) = m + 1 := ⟨shN (artO x c) - 1,by omega⟩
 rw [hm,List.range_succ_eq_map,List.map_cons]
 exact ⟨_,rfl⟩
theorem ViG (x : Show) (hz : x.1.length ≤ 140737488355328) (h1 : VF x.1 = true) (h2 : artsB x.2.1 = true) (books : List Bk) (fired : List Int) (three : Int) (b c : List Bk) : ∀ (r p : List Cue) (pre W : List (List Int)) (k : Nat),x.2.2 = p ++ r → p.length + r.length ≤ 20 → W = pre ++ winF x p.length r → W.length ≤ 1000000 → (∀ d ∈ r,cueB x d = true) → r.length < k →
  Qg.l25 NN k 0 books fired three pre.length p.length x W W b c = if ((three : Int) != 0) = true then some true else Qg.l36 NN NN books fired 0 (books.length : Int) b c := by
 intro r
 induction r with
 | nil =>
  intro p pre W k hx _ _ _ _ hk
  obtain ⟨k,rfl⟩ : ∃ j,k = j + 1 := ⟨k - 1,by omega⟩
  have n : ¬ (p.length : Int) < (x.2.2.length : Int) := by rw [hx]; simp
  simp only [Qg.l25,Qg.g25]
  rw [if_pos (show ((0 : Int) == 0) = true from rfl),if_neg (by rw [decide_eq_false n]; decide)]
 | cons d r ih =>
  intro p pre W k hx hl hW hWl hc hk
  simp only [List.length_cons] at hl hk
  obtain ⟨k,rfl⟩ : ∃ j,k = j + 1 := ⟨k - 1,by omega⟩
  have hdc := hc d (by simp)
  have hb := V8 hdc
  have ha := VaI h2 hb.1
  obtain ⟨tl,htl⟩ := Vgk (p.length : Int) ha
  have k1 : (p.length : Int) < (x.2.2.length : Int) := by rw [hx]; simp; omega
  have k0 : (0 : Int) ≤ (p.length : Int) := by omega
  have hg : x.2.2.getD ((p.length : Int)).toNat (0,(0,(ByteArray.empty,0))) = d := by rw [hx,Int.toNat_natCast,List.getD_eq_getElem?_getD]; simp
  have hW' := hW
  rw [winF] at hW
  have hW2 := hW
  rw [htl] at hW2
  have a1 : (pre.length : Int) < (W.length : Int) := by rw [hW2]; simp; omega
  have a0 : (0 : Int) ≤ (pre.length : Int) := by omega
  have hrow : W.getD ((pre.length : Int)).toNat [] = wRow (artO x d) (fireT x d) (p.length : Int) 0 := by rw [hW2,Int.toNat_natCast,List.getD_eq_getElem?_getD]; simp
  have hT : fireT x d = timeL x.1 d.1 d.2.1 - (artO x d).2.2.2.1 := rfl
  have hat : wAt (artO x d) (fireT x d) 0 = timeL x.1 d.1 d.2.1 := by
   unfold wAt; rw [hT,show ((0 : Nat) : Int) = 0 from rfl,Int.zero_mul]; omega
  have hs := ha.2.1
  have g0 : (0 : Int) ≤ 0 ∧ (0 : Int) < ((wRow (artO x d) (fireT x d) (p.length : Int) 0).length : Int) := ⟨by omega,by simp [wRow]⟩
  have g1 : (0 : Int) ≤ 1 ∧ (1 : Int) < ((wRow (artO x d) (fireT x d) (p.length : Int) 0).length : Int) := ⟨by omega,by simp [wRow]⟩
  have g2 : (0 : Int) ≤ 2 ∧ (2 : Int) < ((wRow (artO x d) (fireT x d) (p.length : Int) 0).length : Int) := ⟨by omega,by simp [wRow]⟩
  have v2 : (((wRow (artO x d) (fireT x d) (p.length : Int) 0).getD (2 : Int).toNat 0 : Int) != (p.length : Int)) = false := by
   show ((p.length : Int) != (p.length : Int)) = false
   simp
  have v0 : decide (timeL x.1 d.1 d.2.1 < (wRow (artO x d) (fireT x d) (p.length : Int) 0).getD (0 : Int).toNat 0) = false := by
   apply decide_eq_false
   show ¬ timeL x.1 d.1 d.2.1 < wAt (artO x d) (fireT x d) 0 - (artO x d).2.2.2.2.1
   omega
  have v1 : ¬ decide ((wRow (artO x d) (fireT x d) (p.length : Int) 0).getD (1 : Int).toNat 0 < timeL x.1 d.1 d.2.1) = true := by
   rw [decide_eq_true_eq]
   show ¬ wAt (artO x d) (fireT x d) 0 + (artO x d).2.2.2.2.1 < timeL x.1 d.1 d.2.1
   omega
  have n1 : decide ((W.length : Int) ≤ (pre.length : Int)) = false := decide_eq_false (by omega)
  simp only [Qg.l25,Qg.g25]
  rw [if_pos (show ((0 : Int) == 0) = true from rfl),if_pos (decide_eq_true k1),if_pos ⟨k0,k1⟩,if_pos ⟨k0,k1⟩,hg,Vgj h1 hz hb.2.1,Option.bind_some,if_pos (show ((0 : Int) != 0) = false from rfl),if_pos n1,if_pos ⟨a0,a1⟩,hrow,if_pos g2,if_pos v2,if_pos ⟨a0,a1⟩,if_pos g0,if_pos v0,if_pos ⟨a0,a1⟩,if_pos g1,if_neg v1]
  have cw := w64 (n := (p.length : Int) + 1) (by omega) (by omega)
  have h3 := ViF (Qg.l25 NN k) 0 books fired three (p.length : Int) x W b c (winF x (p.length + 1) r) hWl (fun row rs e => by
   obtain ⟨q1,q2⟩ := Veo x r (p.length + 1) row (by rw [e]; simp)
   exact ⟨q1,by omega⟩) (cueW x (p.length : Int) d) pre NN hW (NN_lt (by rw [Vbt]; have := ha.2.2.1; omega)) (Ven x _ d)
  have i := ih (p ++ [d]) (pre ++ cueW x (p.length : Int) d) W k (by rw [hx]; simp) (by simp; omega) (by rw [hW,List.append_assoc]; simp) hWl (fun y hy => hc y (by simp [hy])) (by omega)
  rw [Vt] at i
  refine Eq.trans h3 ?_
  rw [cw]
  exact i
theorem ViH (times : List Int) (l : List Sig) (ms : List Mov) (zs : List ByteArray) (hl : l.length ≤ 1000000) (hm1 : ms.length ≤ 1000000) (hm2 : ∀ m ∈ ms,Sz m.2.1) (hz1 : zs.length ≤ 1000000) (hz2 : ∀ z ∈ zs,Sz z) (ok : firOk times l ms zs = true) (one : Int) (books : List Bk) (fired : List Int) (three : Int) (x : Show) (W V : List (List Int)) (b c : List Bk) : ∀ (r p : List Int) (k : Nat),times = p ++ r → r.length < k →
  Qg.l15 NN k times l ms zs 0 one books fired three p.length (times.map (firT l ms zs)) x W V b c = Qg.l25 NN NN one books fired three 0 0 x W V b c := by
 have ok' := ok
 unfold firOk at ok'
 simp only [Bool.and_eq_true,decide_eq_true_eq] at ok'
 obtain ⟨⟨⟨⟨o1,o2⟩,o3⟩,o4⟩,o5⟩ := ok'
 intro r
 induction r with
 | nil =>
  intro p k ht hk
  obtain ⟨k,rfl⟩ : ∃ j,k = j + 1 := ⟨k - 1,by omega⟩
  have n : ¬ (p.length : Int) < (times.length : Int) := by rw [ht]; simp
  simp only [Qg.l15,Qg.g15]
  rw [if_pos (show ((0 : Int) == 0) = true from rfl),if_neg (by rw [decide_eq_false n]; decide)]
 | cons t r ih =>
  intro p k ht hk
  simp only [List.length_cons] at hk
  obtain ⟨k,rfl⟩ : ∃ j,k = j + 1 := ⟨k - 1,by omega⟩
  have htt := inB_iff.1 (List.all_eq_true.1 o2 t (by rw [ht]; simp))
  have hT := Vcn htt
  have n1 : (p.length : Int) < (times.length : Int) := by rw [ht]; simp; omega
  have n0 : (0 : Int) ≤ (p.length : Int) := by omega
  have hlen : p.length < 21 := by omega
  have m1 : (p.length : Int) < ((times.map (firT l ms zs)).length : Int) := by rw [List.length_map]; exact n1
  have hg : times.getD ((p.length : Int)).toNat 0 = t := by rw [ht,Int.toNat_natCast,List.getD_eq_getElem?_getD]; simp
  have hv : (times.map (firT l ms zs)).getD ((p.length : Int)).toNat 0 = firT l ms zs t := by rw [ht,Int.toNat_natCast,List.getD_eq_getElem?_getD]; simp
  have cw := w64 (n := (p.length : Int) + 1) (by omega) (by omega)
  have w1 : IntKind.i64.wrap (Int.tdiv t 100) = tkT t := w64 (n := tkT t) (by omega) (by omega)
  have w2 := w64 (n := tkT t * 100) (by omega) (by omega)
  have i := ih (p ++ [t]) k (by rw [ht]; simp) (by omega)
  rw [Vt] at i
  have hF : firT l ms zs t = if (mayC (ctlAt l (tkT t)) && zs.all (clrB ms · (tkT t * 100))) = true then tkT t else -1 := rfl
  simp only [Qg.l15,Qg.g15]
  rw [if_pos (show ((0 : Int) == 0) = true from rfl),if_pos (decide_eq_true n1),if_pos ⟨n0,n1⟩,hg,hv,w1,w2,ctl_f o3 hl hT,Option.bind_some,Vhb (Vg9 l (tkT t)),Option.bind_some,Vgi o4 o5 hm1 hm2 hz1 hz2 (t := tkT t * 100) ⟨by omega,by omega⟩,Option.bind_some,if_pos (show ((0 : Int) != 0) = false from rfl),if_pos (show ((0 : Int) != 0) = false from rfl),if_pos (show ((0 : Int) != 0) = false from rfl),if_pos ⟨n0,m1⟩,cw]
  simp only
  generalize mayC (ctlAt l (tkT t)) = m at hF ⊢
  generalize zs.all (clrB ms · (tkT t * 100)) = z at hF ⊢
  have q0 : decide ((0 : Int) ≤ tkT t) = true := decide_eq_true hT.1
  have q1 : (tkT t != tkT t) = false := by simp
  have mm := And.intro n0 m1
  cases m
  ·have hF' : firT l ms zs t = -1 := by rw [hF]; rfl
   rw [hF',if_neg (show ¬ false = true by decide),if_pos (show (!(decide ((0 : Int) ≤ -1) == false)) = false from rfl),if_pos mm,if_neg (show ¬ decide ((0 : Int) ≤ -1) = true by decide)]
   exact i
  ·rw [if_pos rfl]
   cases z
   ·have hF' : firT l ms zs t = -1 := by rw [hF]; rfl
    rw [hF',if_pos (show (!(decide ((0 : Int) ≤ -1) == false)) = false from rfl),if_pos mm,if_neg (show ¬ decide ((0 : Int) ≤ -1) = true by decide)]
    exact i
   ·have hF' : firT l ms zs t = tkT t := by rw [hF]; rfl
    rw [hF',if_pos (show (!(decide ((0 : Int) ≤ tkT t) == true)) = false by rw [q0]; rfl),if_pos mm,if_pos q0,if_pos mm,if_neg (show ¬ (tkT t != tkT t) = true by rw [q1]; decide)]
    exact i
theorem ViI (books : List Bk) (x : Show) (fired : List Int) (hl : books.length ≤ 900000) (hf : fired.length ≤ 1000000) : (if (((bookS books x fired).2 : Int) != 0) = true then some true else Qg.l36 NN NN books fired 0 (books.length : Int) (bookS books x fired).1 (bookS books x fired).1) = some true := by
 rcases VcS books x fired with ⟨h1,h2⟩ | ⟨hb0,hs,hfb,hbb,he⟩
 ·rw [if_pos (by simpa using h1)]
 ·rw [he]
  have hv := (V7 hbb).2
  have hext : bookL x fired books = books ++ extF x fired x.2.1 := Vg6 x fired x.2.1 books
  have hin : ∀ f ∈ fired,0 ≤ f ∧ f < (x.2.2.length : Int) := fun f h => by
   unfold Van at hfb
   rw [Bool.and_eq_true] at hfb
   have := inB_iff.1 (List.all_eq_true.1 hfb.1 f h)
   omega
  have hsum : sumK (extF x fired x.2.1) = (fired.length : Int) := by
   rw [ViD]
   have := Vh3 hs fired [] (by simp; omega) hin
   rw [List.nil_append,Vhc] at this
   unfold cntsL at this
   omega
  have hfa := Vh2 x fired x.2.1
  rw [hext] at hv ⊢
  generalize extF x fired x.2.1 = ext at hv hsum hfa
  have hle : books.length + ext.length ≤ 60 := by rw [← List.length_append]; exact hv
  rw [if_neg (by simp)]
  exact ViE books fired (books ++ ext) (by rw [List.length_append]; omega) (by omega) (by simp) ext books 0 NN rfl (NN_lt (by omega)) (by omega) (by omega) (fun b h => by have := hfa b h; omega) (by rw [hsum]; omega)
theorem FnTop_true (code : List Int) (hyp : Ls (Rg .u8) code) : Qg.f code = some true := by
 unfold Qg.f Qg.fn Qg.top QaS.f QaS.fn QaS.top
 rw [Option.bind_some]
 by_cases hb : (4096 : Int) < (code.length : Int)
 ·rw [if_pos (decide_eq_true hb)]
 rw [if_neg (by rw [decide_eq_false hb]; decide)]
 have hcode : VbQ code := Viu hyp hb
 obtain ⟨⟨times,l,ms,zs⟩,e2,y1,y2,⟨y3,y3z⟩,y4,y4z⟩ := Vcs hcode
 obtain ⟨x,e5,hx⟩ := Vdd hcode
 obtain ⟨books,x2,fired,e8,⟨hbl,hbz⟩,hx2,hfl⟩ := VdH hcode
 have hz := VcE hx
 have hz2 := VcE hx2
 simp only at y1 y2 y3 y3z y4 y4z
 rw [e2,Option.bind_some]
 simp only
 have f := Vc7 times l ms zs y1 y2 y3 y3z y4 y4z
 have w := Vd1 x hz
 rw [f.1,Option.bind_some,f.2,Option.bind_some,e5,Option.bind_some,w.1,Option.bind_some,w.2,Option.bind_some,e8,Option.bind_some]
 simp only
 rw [QbW books x2 fired hbl hbz hz2 (by omega),Option.bind_some,QbV books x2 fired hbl hbz hz2 (by omega),Option.bind_some]
 have E := ViI books x2 fired hbl (by omega)
 have hWl : (winR x).1.length ≤ 1000000 ∧ ∀ r ∈ (winR x).1,r.length = 3 := by
  unfold winR
  by_cases h : showB x = true
  ·rw [if_pos h]
   obtain ⟨h1,h2,h3,h4⟩ := Vct h
   have := VhY x h2 x.2.2 0 h4
   exact ⟨by simp only; omega,fun r hr => (Veo x x.2.2 0 r hr).1⟩
  ·rw [if_neg h]; exact ⟨by simp,by simp⟩
 have hFl : (firR times l ms zs).1.length ≤ 1000000 := by
  unfold firR
  split
  ·simp only [List.length_map]; exact y1
  ·simp
 have hBl : (bookS books x2 fired).1.length ≤ 1000000 := by
  rcases VcS books x2 fired with ⟨_,h2⟩ | ⟨_,_,_,hbb,he⟩
  ·rw [h2]; simp
  ·rw [he]; have := (V7 hbb).2; simp only; omega
 have P : Qg.l25 NN NN (winR x).2 books fired (bookS books x2 fired).2 0 0 x (winR x).1 (winR x).1 (bookS books x2 fired).1 (bookS books x2 fired).1 = some true := by
  refine Eq.trans ?_ E
  by_cases h : showB x = true
  ·obtain ⟨h1,h2,h3,h4⟩ := Vct h
   have hw : winR x = (winF x 0 x.2.2,0) := by unfold winR; rw [if_pos h]
   rw [hw] at hWl ⊢
   exact ViG x hz.1 h1 h2 books fired _ _ _ x.2.2 [] [] _ NN rfl (by simp; omega) rfl hWl.1 h4 (NN_lt (by omega))
  ·have hw : winR x = ([],1) := by unfold winR; rw [if_neg h]
   rw [hw]
   obtain ⟨k,hk⟩ : ∃ j,NN = j + 1 := ⟨NN - 1,by have := nn0; omega⟩
   rw [show Qg.l25 NN NN = Qg.l25 NN (k + 1) by rw [← hk]]
   simp only [Qg.l25,Qg.g25]
   rw [if_neg (show ¬ ((1 : Int) == 0) = true by decide)]
 generalize bookS books x2 fired = B at P hBl ⊢
 generalize winR x = W at P hWl ⊢
 rw [if_pos (show ((firR times l ms zs).2 != (firR times l ms zs).2) = false by simp),Vb6 _ (show (firR times l ms zs).1.length ≤ 140737488355328 by omega),Option.bind_some,if_pos (show (!true) = false from rfl),if_pos (show (W.2 != W.2) = false by simp),Vey W.1 (by omega) (fun r hr => by rw [hWl.2 r hr]; omega),Option.bind_some,if_pos (show (!true) = false from rfl),if_pos (show (B.2 != B.2) = false by simp),Va5 B.1 (by omega),Option.bind_some,if_neg (show ¬ (!true) = true by decide)]
 refine Eq.trans ?_ P
 by_cases h : firOk times l ms zs = true
 ·have hf : firR times l ms zs = (times.map (firT l ms zs),0) := by unfold firR; rw [if_pos h]
  rw [hf]
  exact ViH times l ms zs y2 y3 y3z y4 y4z h W.2 books fired B.2 x W.1 W.1 B.1 B.1 times [] NN rfl (NN_lt (by omega))
 ·have hf : firR times l ms zs = ([],1) := by unfold firR; rw [if_neg h]
  rw [hf]
  obtain ⟨k,hk⟩ : ∃ j,NN = j + 1 := ⟨NN - 1,by have := nn0; omega⟩
  rw [show Qg.l15 NN NN = Qg.l15 NN (k + 1) by rw [← hk]]
  simp only [Qg.l15,Qg.g15]
  rw [if_neg (show ¬ ((1 : Int) == 0) = true by decide)]
end Go.Pl
