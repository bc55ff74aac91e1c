/- Part 11 of what the law FnTop stands on: an evaluator of the model's code, proved sound; the functions as plain texts; their contracts. -/
import Derived.Test.YtideamfpdeojlaaGreatEvTop10
namespace Go.Pl
open Go.Ev
set_option linter.unusedVariables false
noncomputable section
end
end Go.Pl

namespace Go.Pl
open Go.Ev
set_option linter.unusedVariables false
noncomputable section
end
end Go.Pl

namespace Go.Pl
open Go.Ev
set_option linter.unusedVariables false
set_option linter.unusedSimpArgs false
end Go.Pl

namespace Go.Pl
open Go.Ev
set_option linter.unusedVariables false
noncomputable section
end
end Go.Pl

namespace Go.Pl
open Go.Ev
set_option linter.unusedVariables false
noncomputable section
end
end Go.Pl

namespace Go.Pl
open Go.Ev
set_option linter.unusedVariables false
set_option linter.unusedSimpArgs false
end Go.Pl

namespace Go.Pl
open Go.Ev
set_option linter.unusedVariables false
noncomputable section
end
end Go.Pl

namespace Go.Pl
open Go.Ev
set_option linter.unusedVariables false
set_option linter.unusedSimpArgs false
end Go.Pl

namespace Go.Pl
open Go.Ev
set_option linter.unusedVariables false
noncomputable section
end
end Go.Pl

namespace Go.Pl
open Go.Ev
set_option linter.unusedVariables false
noncomputable section
end
end Go.Pl

namespace Go.Pl
open Go.Ev
set_option linter.unusedVariables false
set_option linter.unusedSimpArgs false
end Go.Pl

namespace Go.Pl
open Go.Ev
set_option linter.unusedVariables false
noncomputable section
end
end Go.Pl

namespace Go.Pl
open Go.Ev
set_option linter.unusedVariables false
noncomputable section
end
end Go.Pl

namespace Go.Pl
open Go.Ev
set_option linter.unusedVariables false
set_option linter.unusedSimpArgs false
end Go.Pl

namespace Go.Pl
open Go.Ev
set_option linter.unusedVariables false
noncomputable section
end
end Go.Pl

namespace Go.Pl
open Go.Ev
set_option linter.unusedVariables false
noncomputable section
end
end Go.Pl

namespace Go.Pl
open Go.Ev
set_option linter.unusedVariables false
noncomputable section
end
end Go.Pl

namespace Go.Pl
open Go.Ev
set_option linter.unusedVariables false
noncomputable section
end
end Go.Pl

namespace Go.Pl
open Go.Ev
set_option linter.unusedVariables false
set_option linter.unusedSimpArgs false
end Go.Pl

namespace Go.Pl
open Go.Ev
set_option linter.unusedVariables false
set_option linter.unusedSimpArgs false
theorem VaG {n : Nat} (h : n ≤ 2000000) : n < room 16 := by rw [ViU]; omega
end Go.Pl

namespace Go.Pl
open Go.Ev
set_option linter.unusedVariables false
set_option linter.unusedSimpArgs false
def inB (n lo hi : Int) : Bool := decide (lo ≤ n) && decide (n ≤ hi)
theorem inB_iff {n lo hi : Int} : inB n lo hi = true ↔ lo ≤ n ∧ n ≤ hi := by unfold inB; simp
theorem QaU (n lo hi : Int) : Q2.f n lo hi = some (inB n lo hi) := by
 unfold Q2.f Q2.fn Q2.top inB
 by_cases h : lo ≤ n <;> simp [h]
theorem QaT (n lo hi : Int) : Qae.f n lo hi = some (inB n lo hi) := by
 unfold Qae.f Qae.fn Qae.top inB
 by_cases h : lo ≤ n <;> simp [h]
def letB (c : UInt8) : Bool := !(decide ((c.toNat : Int) < 97)) && !(decide (122 < (c.toNat : Int)))
def wordB (s : ByteArray) : Bool := decide (1 ≤ s.size) && decide (s.size ≤ 16) && (bl s).all letB
theorem VdD {s : ByteArray} (h : wordB s = true) : 1 ≤ s.size ∧ s.size ≤ 16 := by
 unfold wordB at h; simp at h; exact h.1
theorem QbG (s : ByteArray) (h : s.size ≤ 140737488355328) : QT.l4 NN NN s 0 = if (bl s).all letB = true then some true else some false := by
 refine Vcj letB (fun s => some true) (fun k s i => QT.l4 NN k s i) ?_ ?_ s h NN (NN_lt (by omega))
 ·intro k p
  show QT.g4 _ (ob p) p.length = _
  simp [QT.g4,VdV,QaT]
 ·intro k p a r c0 c1 cw
  show QT.g4 (QT.l4 NN k) (ob (p ++ a :: r)) p.length = _
  simp only [QT.g4,c0,c1,cw,and_self,and_true,true_and,decide_true,decide_false,if_true,if_false,Vd,Ve,Va,Vb,Vf,Option.bind_some,Bool.not_true,Bool.not_false,Bool.false_eq_true,Bool.true_eq_false,beq_self_eq_true,bne_self_eq_false,Int.toNat_natCast]
  unfold letB
  by_cases h1 : (a.toNat : Int) < 97 <;> by_cases h2 : (122 : Int) < (a.toNat : Int) <;> simp [h1,h2]
theorem QbH (s : ByteArray) (h : s.size ≤ 140737488355328) : QU.l2 NN NN s 0 = if (bl s).all letB = true then some (inB s.size 1 16) else some false := by
 refine Vcj letB (fun s => some (inB s.size 1 16)) (fun k s i => QU.l2 NN k s i) ?_ ?_ s h NN (NN_lt (by omega))
 ·intro k p
  show QU.g2 _ (ob p) p.length = _
  simp [QU.g2,VdV,QaT]
 ·intro k p a r c0 c1 cw
  show QU.g2 (QU.l2 NN k) (ob (p ++ a :: r)) p.length = _
  simp only [QU.g2,c0,c1,cw,and_self,and_true,true_and,decide_true,decide_false,if_true,if_false,Vd,Ve,Va,Vb,Vf,Option.bind_some,Bool.not_true,Bool.not_false,Bool.false_eq_true,Bool.true_eq_false,beq_self_eq_true,bne_self_eq_false,Int.toNat_natCast]
  unfold letB
  by_cases h1 : (a.toNat : Int) < 97 <;> by_cases h2 : (122 : Int) < (a.toNat : Int) <;> simp [h1,h2]
theorem Qa3 (s : ByteArray) (h : s.size ≤ 140737488355328) : QT.f s = some (wordB s) := by
 unfold QT.f QT.fn QT.top
 rw [QbG s h]
 unfold wordB
 by_cases h1 : (s.size : Int) < 1
 ·have : ¬ 1 ≤ s.size := by omega
  simp [h1,this]
 ·have e1 : 1 ≤ s.size := by omega
  by_cases h2 : (16 : Int) < s.size
  ·have : ¬ s.size ≤ 16 := by omega
   simp [h1,h2,this]
  ·have : s.size ≤ 16 := by omega
   cases h3 : (bl s).all letB <;> simp [h1,h2,this,h3,e1]
theorem Qa4 (s : ByteArray) (h : s.size ≤ 140737488355328) : QU.f s = some (wordB s) := by
 unfold QU.f QU.fn QU.top
 rw [QbH s h]
 unfold wordB inB
 have e1 : decide ((1 : Int) ≤ s.size) = decide (1 ≤ s.size) := by congr 1; simp; omega
 have e2 : decide ((s.size : Int) ≤ 16) = decide (s.size ≤ 16) := by congr 1; simp; omega
 rw [e1,e2]
 cases h3 : (bl s).all letB <;> simp
end Go.Pl

namespace Go.Pl
open Go.Ev
set_option linter.unusedVariables false
set_option linter.unusedSimpArgs false
def Ve5 (x : Int × ByteArray × Int) : Prop := Rg .i64 x.1 ∧ Sm x.2.1 ∧ Rg .i64 x.2.2
def Vc4 (x : Int × Int) : Prop := Rg .i64 x.1 ∧ Rg .i64 x.2
def VI (x : Int × ByteArray × Int) : Prop := Rg .i64 x.1 ∧ Sm x.2.1 ∧ Rg .i64 x.2.2
end Go.Pl

namespace Go.Pl
open Go.Ev
set_option linter.unusedVariables false
set_option linter.unusedSimpArgs false
abbrev Mov := Int × ByteArray × Int
def movB (m : Mov) : Bool := inB m.1 0 10000000 && wordB m.2.1 && inB m.2.2 (-1000) 1000 && !decide (m.2.2 = 0)
theorem Vak {m : Mov} (h : movB m = true) : (0 ≤ m.1 ∧ m.1 ≤ 10000000) ∧ wordB m.2.1 = true ∧ (-1000 ≤ m.2.2 ∧ m.2.2 ≤ 1000) := by
 unfold movB at h
 simp only [Bool.and_eq_true,inB_iff] at h
 exact ⟨h.1.1.1,h.1.1.2,h.1.2⟩
theorem Qbu (t : Int) : QaI.f t = some (inB t 0 10000000) := by
 unfold QaI.f QaI.fn QaI.top
 rw [QaU]; rfl
theorem Qbv (t : Int) : QaK.f t = some (inB t 0 100000) := by
 unfold QaK.f QaK.fn QaK.top
 rw [QaU]; rfl
theorem Qbi (t : Int) : Qap.f t = some (inB t 0 10000000) := by
 unfold Qap.f Qap.fn Qap.top
 rw [QaT]; rfl
def addP (z : ByteArray) (s : Int) (m : Mov) : Int := if m.2.1 = z then s + m.2.2 else s
def peopS (xs : List Mov) (z : ByteArray) : Int := xs.foldl (addP z) 0
theorem Vin (z : ByteArray) : ∀ (xs : List Mov) (s : Int),(∀ m ∈ xs,movB m = true) → s - 1000 * (xs.length : Int) ≤ xs.foldl (addP z) s ∧ xs.foldl (addP z) s ≤ s + 1000 * (xs.length : Int) := by
 intro xs
 induction xs with
 | nil => intro s _; simp
 | cons m r ih =>
  intro s h
  have h1 := Vak (h m (by simp))
  have h2 := ih (addP z s m) (fun x hx => h x (by simp [hx]))
  have h3 : s - 1000 ≤ addP z s m ∧ addP z s m ≤ s + 1000 := by unfold addP; split <;> omega
  simp only [List.foldl_cons,List.length_cons]
  omega
theorem QbJ (xs : List Mov) (z : ByteArray) (t : Int) (h : ∀ m ∈ xs,movB m = true) (ht : ∀ m ∈ xs,m.1 ≤ t) (hl : xs.length ≤ 1000000) : QC.f xs z t = some (peopS xs z) := by
 have := (VU (E := fun m : Mov => movB m = true ∧ m.1 ≤ t) (fun p st => -(1000 * (p.length : Int)) ≤ st ∧ st ≤ 1000 * (p.length : Int)) (fun _ => addP z) (fun st => some st) (fun k i st => QC.l3 NN k z t st xs xs.length i) xs ?_ ?_ 0 (fun m hm => ⟨h m hm,ht m hm⟩) (by simp) (by omega) NN (NN_lt (by omega))).2
 ·rw [VP] at this
  exact this
 ·intro k st _
  simp [QC.l3,QC.g3]
 ·intro k p m r st hx hm hI c0 c1 c2 cw g
  have hb := Vak hm.1
  have hp : p.length ≤ 1000000 := by omega
  have w1 := w64 (n := st + m.2.2) (by omega) (by omega)
  have q := hm.2
  refine ⟨by unfold addP; rw [List.length_append,List.length_singleton]; split <;> omega,?_⟩
  simp only [QC.l3,QC.g3,c0,c1,cw,and_self,and_true,true_and,decide_true,decide_false,if_true,if_false,Vd,Ve,Va,Vb,Vf,Option.bind_some,Bool.not_true,Bool.not_false,Bool.false_eq_true,Bool.true_eq_false,beq_self_eq_true,bne_self_eq_false,Int.toNat_natCast,g,Vax,q,w1]
  unfold addP
  by_cases e : m.2.1 = z <;> simp [e]
theorem Qa6 (xs rest : List Mov) (z : ByteArray) (h : ∀ m ∈ xs,movB m = true) (hl : xs.length ≤ 1000000) : Qy.f (xs ++ rest) z xs.length = some (peopS xs z) := by
 have := (VU (E := fun m : Mov => movB m = true) (fun p st => -(1000 * (p.length : Int)) ≤ st ∧ st ≤ 1000 * (p.length : Int)) (fun _ => addP z) (fun st => some st) (fun k i st => Qy.l3 NN k (xs ++ rest) z xs.length st i) xs ?_ ?_ 0 h (by simp) (by omega) NN (NN_lt (by omega))).2
 ·rw [VP] at this
  exact this
 ·intro k st _
  simp [Qy.l3,Qy.g3]
 ·intro k p m r st hx hm hI c0 c1 c2 cw g
  have hb := Vak hm
  have hp : p.length ≤ 1000000 := by omega
  have w1 := w64 (n := st + m.2.2) (by omega) (by omega)
  have c3 : (p.length : Int) < ((xs ++ rest).length : Int) := by simp; omega
  have g2 : ∀ w,(xs ++ rest).getD p.length w = m := fun w => by rw [hx,List.append_assoc,List.cons_append,Va]
  refine ⟨by unfold addP; rw [List.length_append,List.length_singleton]; split <;> omega,?_⟩
  simp only [Qy.l3,Qy.g3,c0,c1,c3,cw,and_self,and_true,true_and,decide_true,decide_false,if_true,if_false,Vd,Ve,Va,Vb,Vf,Option.bind_some,Bool.not_true,Bool.not_false,Bool.false_eq_true,Bool.true_eq_false,beq_self_eq_true,bne_self_eq_false,Int.toNat_natCast,g2,Vax,w1]
  unfold addP
  by_cases e : m.2.1 = z <;> simp [e]
def prevM (p : List Mov) (t : Int) : Bool := match p.getLast? with | none => true | some y => !decide (t < y.1)
def movF (p : List Mov) : List Mov → Bool
 | [] => true
 | m :: r => movB m && (prevM p m.1 && (!decide (peopS (p ++ [m]) m.2.1 < 0) && movF (p ++ [m]) r))
def VG (xs : List Mov) : Bool := decide (xs.length ≤ 40) && movF [] xs
structure MvI (p : List Mov) : Prop where
 ok : ∀ m ∈ p,movB m = true
 le : ∀ m ∈ p,∀ y,p.getLast? = some y → m.1 ≤ y.1
theorem Vc5 {p : List Mov} {m : Mov} (h : MvI p) (hm : movB m = true) (hp : prevM p m.1 = true) : MvI (p ++ [m]) ∧ ∀ x ∈ p ++ [m],x.1 ≤ m.1 := by
 have key : ∀ x ∈ p ++ [m],x.1 ≤ m.1 := fun x hx => by
  rcases List.mem_append.1 hx with h1 | h1
  ·unfold prevM at hp
   cases e : p.getLast? with
   | none => rw [List.getLast?_eq_none_iff.1 e] at h1; cases h1
   | some y =>
    rw [e] at hp
    simp only [Bool.not_eq_true',decide_eq_false_iff_not] at hp
    have := h.le x h1 y e
    omega
  ·rw [List.mem_singleton.1 h1]; omega
 refine ⟨⟨fun x hx => ?_,fun x hx y hy => ?_⟩,key⟩
 ·rcases List.mem_append.1 hx with h1 | h1
  ·exact h.ok x h1
  ·rw [List.mem_singleton.1 h1]; exact hm
 ·rw [List.getLast?_append] at hy
  simp at hy
  rw [← hy]; exact key x hx
theorem VaK {α : Type} (p : List α) : p = [] ∨ ∃ q y,p = q ++ [y] := by
 rcases List.eq_nil_or_concat p with h | ⟨q,y,h⟩
 ·exact .inl h
 ·exact .inr ⟨q,y,by rw [h]; simp⟩
theorem Vam {α : Type} (q : List α) (y : α) : (q ++ [y]).getLast? = some y := by simp
theorem QbK : ∀ (r p : List Mov) (k : Nat),MvI p → (∀ m ∈ r,Sz m.2.1) → p.length + r.length ≤ 1000000 → r.length < k → QG.l4 NN k (p ++ r) (p ++ r) (p ++ r).length p.length = some (movF p r) := by
 intro r
 induction r with
 | nil =>
  intro p k _ _ _ hk
  obtain ⟨k,rfl⟩ : ∃ j,k = j + 1 := ⟨k - 1,by omega⟩
  simp [QG.l4,QG.g4,movF]
 | cons m r ih =>
  intro p k hI hs hb hk
  simp only [List.length_cons] at hb hk
  obtain ⟨k,rfl⟩ : ∃ j,k = j + 1 := ⟨k - 1,by omega⟩
  have hl := VD p r m
  have c0 : (0 : Int) ≤ (p.length : Int) := by omega
  have c1 : (p.length : Int) < ((p ++ m :: r).length : Int) := by omega
  have cw := w64 (n := (p.length : Int) + 1) (by omega) (by omega)
  have c3 : (0 : Int) ≤ (p.length : Int) + 1 := by omega
  have c4 : (p.length : Int) + 1 ≤ ((p ++ m :: r).length : Int) := by omega
  have t1 : ((p.length : Int) + 1).toNat = (p ++ [m]).length := by simp
  have htk : (p ++ m :: r).take (p ++ [m]).length = p ++ [m] := by rw [← Vy p r m,List.take_left]
  simp only [QG.l4,QG.g4,c0,c1,c3,c4,cw,t1,htk,and_self,and_true,true_and,decide_true,decide_false,if_true,if_false,Vd,Ve,Va,Vb,Vf,Option.bind_some,Bool.not_true,Bool.not_false,Bool.false_eq_true,Bool.true_eq_false,beq_self_eq_true,bne_self_eq_false,Int.toNat_natCast,Qbu,Qa3 _ (hs m (by simp)),QaU]
  by_cases hm : movB m = true
  rotate_left
  ·have e : movF p (m :: r) = false := by simp only [movF]; cases q : movB m; rfl; exact absurd q hm
   rw [e]
   unfold movB at hm
   simp only [Bool.and_eq_true,Bool.not_eq_true',decide_eq_false_iff_not,not_and] at hm
   by_cases h1 : inB m.1 0 10000000 = true
   ·by_cases h2 : wordB m.2.1 = true
    ·by_cases h3 : inB m.2.2 (-1000) 1000 = true
     ·have h4 : m.2.2 = 0 := by have := hm ⟨⟨h1,h2⟩,h3⟩; omega
      simp [h1,h2,h3,h4]
     ·simp [h1,h2,h3]
    ·simp [h1,h2]
   ·simp [h1]
  have hm' := hm
  unfold movB at hm'
  simp only [Bool.and_eq_true,Bool.not_eq_true',decide_eq_false_iff_not] at hm'
  obtain ⟨⟨⟨h1,h2⟩,h3⟩,h4⟩ := hm'
  have h4' : (m.2.2 == 0) = false := by simpa using h4
  simp only [h1,h2,h3,h4',and_self,and_true,true_and,decide_true,decide_false,if_true,if_false,Vd,Ve,Va,Vb,Vf,Option.bind_some,Bool.not_true,Bool.not_false,Bool.false_eq_true,Bool.true_eq_false,beq_self_eq_true,bne_self_eq_false,Int.toNat_natCast]
  have fin : prevM p m.1 = true → ((QC.f (p ++ [m]) m.2.1 m.1).bind fun r4 => if (decide (r4 < 0)) = true then some false else QG.l4 NN k (p ++ m :: r) (p ++ m :: r) (p ++ m :: r).length ((p.length : Int) + 1)) = some (movF p (m :: r)) := fun hp => by
   obtain ⟨q1,q2⟩ := Vc5 hI hm hp
   rw [QbJ _ _ _ q1.ok q2 (by simp; omega)]
   have := ih (p ++ [m]) k q1 (fun x hx => hs x (by simp [hx])) (by simp; omega) (by omega)
   rw [Vy,Vt] at this
   simp only [movF,hm,hp,Bool.true_and,Option.bind_some,this]
   by_cases e : peopS (p ++ [m]) m.2.1 < 0 <;> simp [e]
  rcases VaK p with hp | ⟨q,y,hp⟩
  ·have n1 : ¬ (0 : Int) < (p.length : Int) := by rw [hp]; simp
   simp only [n1,and_self,and_true,true_and,decide_true,decide_false,if_true,if_false,Vd,Ve,Va,Vb,Vf,Option.bind_some,Bool.not_true,Bool.not_false,Bool.false_eq_true,Bool.true_eq_false,beq_self_eq_true,bne_self_eq_false,Int.toNat_natCast]
   exact fin (by rw [hp]; rfl)
  ·have hpl : (p.length : Int) - 1 = (q.length : Int) := by rw [hp]; simp
   have n1 : (0 : Int) < (p.length : Int) := by rw [hp]; simp
   have w1 := w64 (n := (q.length : Int)) (by omega) (by omega)
   have q0 : (0 : Int) ≤ (q.length : Int) := by omega
   have q1 : (q.length : Int) < ((p ++ m :: r).length : Int) := by omega
   have g2 : ∀ z,(p ++ m :: r).getD q.length z = y := fun z => by rw [hp,List.append_assoc,List.singleton_append,Va]
   simp only [n1,hpl,w1,q0,q1,g2,and_self,and_true,true_and,decide_true,decide_false,if_true,if_false,Vd,Ve,Va,Vb,Vf,Option.bind_some,Bool.not_true,Bool.not_false,Bool.false_eq_true,Bool.true_eq_false,beq_self_eq_true,bne_self_eq_false,Int.toNat_natCast]
   have hpr : prevM p m.1 = !decide (m.1 < y.1) := by unfold prevM; rw [hp,Vam]
   by_cases e : m.1 < y.1
   ·have : movF p (m :: r) = false := by simp [movF,hpr,e]
    simp [e,this]
   ·simp only [e,and_self,and_true,true_and,decide_true,decide_false,if_true,if_false,Vd,Ve,Va,Vb,Vf,Option.bind_some,Bool.not_true,Bool.not_false,Bool.false_eq_true,Bool.true_eq_false,beq_self_eq_true,bne_self_eq_false,Int.toNat_natCast]
    exact fin (by rw [hpr]; simp [e])
theorem QbL : ∀ (r p : List Mov) (k : Nat),MvI p → (∀ m ∈ r,Sz m.2.1) → p.length + r.length ≤ 1000000 → r.length < k → QE.l2 NN k (p ++ r) p.length = some (movF p r && decide ((p ++ r).length ≤ 40)) := by
 intro r
 induction r with
 | nil =>
  intro p k _ _ _ hk
  obtain ⟨k,rfl⟩ : ∃ j,k = j + 1 := ⟨k - 1,by omega⟩
  have e : decide ((p.length : Int) ≤ 40) = decide (p.length ≤ 40) := by congr 1; exact propext (by omega)
  simp [QE.l2,QE.g2,movF,e]
 | cons m r ih =>
  intro p k hI hs hb hk
  simp only [List.length_cons] at hb hk
  obtain ⟨k,rfl⟩ : ∃ j,k = j + 1 := ⟨k - 1,by omega⟩
  have hl := VD p r m
  have c0 : (0 : Int) ≤ (p.length : Int) := by omega
  have c1 : (p.length : Int) < ((p ++ m :: r).length : Int) := by omega
  have cw := w64 (n := (p.length : Int) + 1) (by omega) (by omega)
  simp only [QE.l2,QE.g2,c0,c1,cw,and_self,and_true,true_and,decide_true,decide_false,if_true,if_false,Vd,Ve,Va,Vb,Vf,Option.bind_some,Bool.not_true,Bool.not_false,Bool.false_eq_true,Bool.true_eq_false,beq_self_eq_true,bne_self_eq_false,Int.toNat_natCast,Qbi,Qa4 _ (hs m (by simp)),QaT]
  by_cases hm : movB m = true
  rotate_left
  ·have e : movF p (m :: r) = false := by simp only [movF]; cases q : movB m; rfl; exact absurd q hm
   rw [e]
   unfold movB at hm
   simp only [Bool.and_eq_true,Bool.not_eq_true',decide_eq_false_iff_not,not_and] at hm
   by_cases h1 : inB m.1 0 10000000 = true
   ·by_cases h2 : wordB m.2.1 = true
    ·by_cases h3 : inB m.2.2 (-1000) 1000 = true
     ·have h4 : m.2.2 = 0 := by have := hm ⟨⟨h1,h2⟩,h3⟩; omega
      simp [h1,h2,h3,h4]
     ·simp [h1,h2,h3]
    ·simp [h1,h2]
   ·simp [h1]
  have hm' := hm
  unfold movB at hm'
  simp only [Bool.and_eq_true,Bool.not_eq_true',decide_eq_false_iff_not] at hm'
  obtain ⟨⟨⟨h1,h2⟩,h3⟩,h4⟩ := hm'
  have h4' : (m.2.2 == 0) = false := by simpa using h4
  simp only [h1,h2,h3,h4',and_self,and_true,true_and,decide_true,decide_false,if_true,if_false,Vd,Ve,Va,Vb,Vf,Option.bind_some,Bool.not_true,Bool.not_false,Bool.false_eq_true,Bool.true_eq_false,beq_self_eq_true,bne_self_eq_false,Int.toNat_natCast]
  have fin : prevM p m.1 = true → ((Qy.f (p ++ m :: r) m.2.1 ((p.length : Int) + 1)).bind fun r4 => if (decide (r4 < 0)) = true then some false else QE.l2 NN k (p ++ m :: r) ((p.length : Int) + 1)) = some (movF p (m :: r) && decide ((p ++ m :: r).length ≤ 40)) := fun hp => by
   obtain ⟨q1,q2⟩ := Vc5 hI hm hp
   have hpe := Qa6 (p ++ [m]) r m.2.1 q1.ok (by simp; omega)
   rw [Vy,Vt] at hpe
   rw [hpe]
   have := ih (p ++ [m]) k q1 (fun x hx => hs x (by simp [hx])) (by simp; omega) (by omega)
   rw [Vy,Vt] at this
   simp only [movF,hm,hp,Bool.true_and,Option.bind_some,this]
   by_cases e : peopS (p ++ [m]) m.2.1 < 0 <;> simp [e]
  rcases VaK p with hp | ⟨q,y,hp⟩
  ·have n1 : ¬ (0 : Int) < (p.length : Int) := by rw [hp]; simp
   simp only [n1,and_self,and_true,true_and,decide_true,decide_false,if_true,if_false,Vd,Ve,Va,Vb,Vf,Option.bind_some,Bool.not_true,Bool.not_false,Bool.false_eq_true,Bool.true_eq_false,beq_self_eq_true,bne_self_eq_false,Int.toNat_natCast]
   exact fin (by rw [hp]; rfl)
  ·have hpl : (p.length : Int) - 1 = (q.length : Int) := by rw [hp]; simp
   have n1 : (0 : Int) < (p.length : Int) := by rw [hp]; simp
   have w1 := w64 (n := (q.length : Int)) (by omega) (by omega)
   have q0 : (0 : Int) ≤ (q.length : Int) := by omega
   have q1 : (q.length : Int) < ((p ++ m :: r).length : Int) := by omega
   have g2 : ∀ z,(p ++ m :: r).getD q.length z = y := fun z => by rw [hp,List.append_assoc,List.singleton_append,Va]
   simp only [n1,hpl,w1,q0,q1,g2,and_self,and_true,true_and,decide_true,decide_false,if_true,if_false,Vd,Ve,Va,Vb,Vf,Option.bind_some,Bool.not_true,Bool.not_false,Bool.false_eq_true,Bool.true_eq_false,beq_self_eq_true,bne_self_eq_false,Int.toNat_natCast]
   have hpr : prevM p m.1 = !decide (m.1 < y.1) := by unfold prevM; rw [hp,Vam]
   by_cases e : m.1 < y.1
   ·have : movF p (m :: r) = false := by simp [movF,hpr,e]
    simp [e,this]
   ·simp only [e,and_self,and_true,true_and,decide_true,decide_false,if_true,if_false,Vd,Ve,Va,Vb,Vf,Option.bind_some,Bool.not_true,Bool.not_false,Bool.false_eq_true,Bool.true_eq_false,beq_self_eq_true,bne_self_eq_false,Int.toNat_natCast]
    exact fin (by rw [hpr]; simp [e])
theorem VdY : MvI [] := ⟨by simp,by simp⟩
theorem Qa2 (xs : List Mov) (hl : xs.length ≤ 1000000) (hs : ∀ m ∈ xs,Sz m.2.1) : QG.f xs = some (VG xs) := by
 unfold QG.f QG.fn QG.top VG
 have := QbK xs [] NN VdY hs (by simpa using hl) (NN_lt (by omega))
 rw [List.nil_append] at this
 by_cases h8 : (40 : Int) < (xs.length : Int)
 ·have : ¬ xs.length ≤ 40 := by omega
  simp [h8,this]
 ·have e8 : xs.length ≤ 40 := by omega
  simp only [h8,e8,and_self,and_true,true_and,decide_true,decide_false,if_true,if_false,Vd,Ve,Va,Vb,Vf,Option.bind_some,Bool.not_true,Bool.not_false,Bool.false_eq_true,Bool.true_eq_false,beq_self_eq_true,bne_self_eq_false,Int.toNat_natCast,Bool.true_and]
  exact this
theorem Qa8 (xs : List Mov) (hl : xs.length ≤ 1000000) (hs : ∀ m ∈ xs,Sz m.2.1) : QE.f xs = some (VG xs) := by
 unfold QE.f QE.fn QE.top VG
 have := QbL xs [] NN VdY hs (by simpa using hl) (NN_lt (by omega))
 rw [List.nil_append] at this
 rw [Bool.and_comm]
 exact this
end Go.Pl

namespace Go.Pl
open Go.Ev
set_option linter.unusedVariables false
set_option linter.unusedSimpArgs false
def valB (b : Int × ByteArray × Int) : Bool := inB b.1 0 3 && wordB b.2.1 && inB b.2.2 1 1000
def addL (a : ByteArray) (s : Int) (b : Int × ByteArray × Int) : Int := if b.2.1 = a then (if b.1 = 0 then s + b.2.2 else s - b.2.2) else s
def VJ (xs : List (Int × ByteArray × Int)) (a : ByteArray) : Int := xs.foldl (addL a) 0
theorem VbD (p : List (Int × ByteArray × Int)) (b : Int × ByteArray × Int) (a : ByteArray) : VJ (p ++ [b]) a = addL a (VJ p a) b := by
 unfold VJ; rw [List.foldl_append]; rfl
theorem VbY {b : Int × ByteArray × Int} (h : valB b = true) : 1 ≤ b.2.2 ∧ b.2.2 ≤ 1000 ∧ 0 ≤ b.1 ∧ b.1 ≤ 3 := by
 unfold valB at h
 simp only [Bool.and_eq_true,inB_iff] at h
 omega
theorem Ved (a : ByteArray) (xs : List (Int × ByteArray × Int)) (h : ∀ b ∈ xs,valB b = true) : -(1000 * (xs.length : Int)) ≤ VJ xs a ∧ VJ xs a ≤ 1000 * (xs.length : Int) := by
 have key : ∀ (ys : List (Int × ByteArray × Int)) (s : Int),(∀ b ∈ ys,valB b = true) → s - 1000 * (ys.length : Int) ≤ ys.foldl (addL a) s ∧ ys.foldl (addL a) s ≤ s + 1000 * (ys.length : Int) := by
  intro ys
  induction ys with
  | nil => intro s _; simp
  | cons b r ih =>
   intro s hb
   have h1 := ih (addL a s b) (fun x hx => hb x (by simp [hx]))
   have h2 := VbY (hb b (by simp))
   simp only [List.foldl_cons,List.length_cons]
   have : s - 1000 ≤ addL a s b ∧ addL a s b ≤ s + 1000 := by
    unfold addL; split <;> (try split) <;> omega
   omega
 have := key xs 0 h
 unfold VJ; omega
theorem Qbn (xs rest : List (Int × ByteArray × Int)) (a : ByteArray) (h : ∀ b ∈ xs,valB b = true) (hl : xs.length ≤ 1000000) : Q0.f (xs ++ rest) a xs.length = some (VJ xs a) := by
 have := (VU (E := fun b => valB b = true) (fun p s => (∀ b ∈ p,valB b = true) ∧ s = VJ p a) (fun _ => addL a) some (fun k i s => Q0.l3 NN k (xs ++ rest) a xs.length s i) xs ?_ ?_ 0 h ⟨by simp,rfl⟩ (by omega) NN (NN_lt (by omega))).2
 ·rw [VP] at this
  exact this
 ·intro k st _
  simp [Q0.l3,Q0.g3]
 ·intro k p b r st hx hb hI c0 c1 c2 cw g
  obtain ⟨h1,rfl⟩ := hI
  have h2 : ∀ x ∈ p ++ [b],valB x = true := fun x hx => by
   rcases List.mem_append.1 hx with h | h
   ·exact h1 x h
   ·rw [List.mem_singleton.1 h]; exact hb
  refine ⟨⟨h2,(VbD p b a).symm⟩,?_⟩
  have c3 : (p.length : Int) < ((xs ++ rest).length : Int) := by rw [List.length_append]; omega
  have g' : ∀ z,(xs ++ rest).getD p.length z = b := fun z => by rw [hx]; simp
  have bd := Ved a (p ++ [b]) h2
  rw [VbD] at bd
  have hpl : p.length ≤ 1000000 := by omega
  simp only [List.length_append,List.length_cons,List.length_nil] at bd
  simp only [Q0.l3,Q0.g3,c0,c1,c3,cw,and_self,and_true,true_and,decide_true,decide_false,if_true,if_false,Vd,Ve,Va,Vb,Vf,Option.bind_some,Bool.not_true,Bool.not_false,Bool.false_eq_true,Bool.true_eq_false,beq_self_eq_true,bne_self_eq_false,Int.toNat_natCast,g',Vax]
  unfold addL at bd ⊢
  by_cases ha : b.2.1 = a
  ·by_cases hz : b.1 = 0
   ·have e := w64 (n := VJ p a + b.2.2) (by simp only [ha,hz,if_true] at bd; omega) (by simp only [ha,hz,if_true] at bd; omega)
    simp [ha,hz,e]
   ·have e := w64 (n := VJ p a - b.2.2) (by simp only [ha,hz,if_true,if_false] at bd; omega) (by simp only [ha,hz,if_true,if_false] at bd; omega)
    simp [ha,hz,e]
  ·simp [ha]
def addT (a : ByteArray) (s : List Int) (b : Int × ByteArray × Int) : List Int := if b.2.1 = a then s.set b.1.toNat (s.getD b.1.toNat 0 + b.2.2) else s
def totL (xs : List (Int × ByteArray × Int)) (a : ByteArray) : List Int := xs.foldl (addT a) [0,0,0,0]
theorem Vee (p : List (Int × ByteArray × Int)) (b : Int × ByteArray × Int) (a : ByteArray) : totL (p ++ [b]) a = addT a (totL p a) b := by
 unfold totL; rw [List.foldl_append]; rfl
theorem VdE (a : ByteArray) (xs : List (Int × ByteArray × Int)) (h : ∀ b ∈ xs,valB b = true) : ∃ t0 t1 t2 t3,totL xs a = [t0,t1,t2,t3] ∧ t0 - t1 - t2 - t3 = VJ xs a ∧ 0 ≤ t0 ∧ 0 ≤ t1 ∧ 0 ≤ t2 ∧ 0 ≤ t3 ∧ t0 + t1 + t2 + t3 ≤ 1000 * (xs.length : Int) := by
 have key : ∀ (n : Nat) (xs : List (Int × ByteArray × Int)),xs.length = n → (∀ b ∈ xs,valB b = true) → ∃ t0 t1 t2 t3,totL xs a = [t0,t1,t2,t3] ∧ t0 - t1 - t2 - t3 = VJ xs a ∧ 0 ≤ t0 ∧ 0 ≤ t1 ∧ 0 ≤ t2 ∧ 0 ≤ t3 ∧ t0 + t1 + t2 + t3 ≤ 1000 * (xs.length : Int) := by
  intro n
  induction n with
  | zero => intro xs hn _; obtain rfl := List.length_eq_zero_iff.1 hn; exact ⟨0,0,0,0,rfl,rfl,by omega,by omega,by omega,by omega,by simp⟩
  | succ n ih =>
   intro xs hn hb
   rcases List.eq_nil_or_concat xs with rfl | ⟨p,b,rfl⟩
   ·simp at hn
   simp only [List.concat_eq_append] at hn hb ⊢
   obtain ⟨t0,t1,t2,t3,e1,e2,e3,e4,e5,e6,e7⟩ := ih p (by simpa using hn) (fun x hx => hb x (by simp [hx]))
   have hv := VbY (hb b (by simp))
   rw [Vee,VbD,e1]
   simp only [List.length_append,List.length_cons,List.length_nil]
   unfold addT addL
   by_cases ha : b.2.1 = a
   ·simp only [ha,if_true]
    obtain h | h | h | h : b.1 = 0 ∨ b.1 = 1 ∨ b.1 = 2 ∨ b.1 = 3 := by omega
    ·exact ⟨t0 + b.2.2,t1,t2,t3,by simp [h],by simp [h]; omega,by omega,by omega,by omega,by omega,by omega⟩
    ·exact ⟨t0,t1 + b.2.2,t2,t3,by simp [h],by simp [h]; omega,by omega,by omega,by omega,by omega,by omega⟩
    ·exact ⟨t0,t1,t2 + b.2.2,t3,by simp [h],by simp [h]; omega,by omega,by omega,by omega,by omega,by omega⟩
    ·exact ⟨t0,t1,t2,t3 + b.2.2,by simp [h],by simp [h]; omega,by omega,by omega,by omega,by omega,by omega⟩
   ·simp only [ha,if_false]
    exact ⟨t0,t1,t2,t3,rfl,by omega,by omega,by omega,by omega,by omega,by omega⟩
 exact key _ xs rfl h
theorem QbM (xs : List (Int × ByteArray × Int)) (a : ByteArray) (h : ∀ b ∈ xs,valB b = true) (hl : xs.length ≤ 1000000) : QO.f xs a = some (totL xs a) := by
 have := (VU (E := fun b => valB b = true) (fun p s => (∀ b ∈ p,valB b = true) ∧ s = totL p a) (fun _ => addT a) some (fun k i s => QO.l3 NN k a xs xs.length i s) xs ?_ ?_ [0,0,0,0] h ⟨by simp,rfl⟩ (by omega) NN (NN_lt (by omega))).2
 ·rw [VP] at this
  unfold QO.f QO.fn QO.top
  rw [if_pos (by rw [room8]; omega)]
  exact this
 ·intro k st _
  simp [QO.l3,QO.g3]
 ·intro k p b r st hx hb hI c0 c1 c2 cw g
  obtain ⟨h1,rfl⟩ := hI
  have h2 : ∀ x ∈ p ++ [b],valB x = true := fun x hx => by
   rcases List.mem_append.1 hx with h | h
   ·exact h1 x h
   ·rw [List.mem_singleton.1 h]; exact hb
  refine ⟨⟨h2,(Vee p b a).symm⟩,?_⟩
  obtain ⟨t0,t1,t2,t3,e1,e2,e3,e4,e5,e6,e7⟩ := VdE a p h1
  have hpl : p.length ≤ 1000000 := by omega
  have hv := VbY hb
  simp only [QO.l3,QO.g3,c0,c1,cw,and_self,and_true,true_and,decide_true,decide_false,if_true,if_false,Vd,Ve,Va,Vb,Vf,Option.bind_some,Bool.not_true,Bool.not_false,Bool.false_eq_true,Bool.true_eq_false,beq_self_eq_true,bne_self_eq_false,Int.toNat_natCast,g,Vax]
  unfold addT
  by_cases ha : b.2.1 = a
  ·have k1 : b.1 < ((totL p a).length : Int) := by rw [e1]; simp; omega
   have k2 : 0 ≤ (totL p a).getD b.1.toNat 0 ∧ (totL p a).getD b.1.toNat 0 ≤ 1000000000 := by
    rw [e1]
    obtain h | h | h | h : b.1 = 0 ∨ b.1 = 1 ∨ b.1 = 2 ∨ b.1 = 3 := by omega
    all_goals (rw [h]; simp; omega)
   have e := w64 (n := (totL p a).getD b.1.toNat 0 + b.2.2) (by omega) (by omega)
   simp only [ha,decide_true,if_true,hv.2.2.1,k1,and_self,e]
  ·simp [ha]
theorem QbB (xs : List (Int × ByteArray × Int)) (a : ByteArray) (h : ∀ b ∈ xs,valB b = true) (hl : xs.length ≤ 1000000) : Qaq.f xs a = some (VJ xs a) := by
 unfold Qaq.f Qaq.fn Qaq.top
 rw [QbM xs a h hl]
 obtain ⟨t0,t1,t2,t3,e1,e2,e3,e4,e5,e6,e7⟩ := VdE a xs h
 have w1 := w64 (n := t0 - t1) (by omega) (by omega)
 have w2 := w64 (n := t0 - t1 - t2) (by omega) (by omega)
 have w3 := w64 (n := t0 - t1 - t2 - t3) (by omega) (by omega)
 have w4 : IntKind.i64.wrap (VJ xs a) = VJ xs a := by rw [← e2]; exact w3
 rw [e1]
 simp [w1,w2,w3,e2,w4]
def Vaz (p : List (Int × ByteArray × Int)) : List (Int × ByteArray × Int) → Bool
 | [] => true
 | b :: r => valB b && decide (0 ≤ VJ (p ++ [b]) b.2.1) && Vaz (p ++ [b]) r
def VB (xs : List (Int × ByteArray × Int)) : Bool := decide (xs.length ≤ 60) && Vaz [] xs
theorem Vga : ∀ (r p : List (Int × ByteArray × Int)),Vaz p r = true → ∀ b ∈ r,valB b = true := by
 intro r
 induction r with
 | nil => intro p _ b hb; cases hb
 | cons x r ih =>
  intro p h b hb
  simp only [Vaz,Bool.and_eq_true] at h
  rcases List.mem_cons.1 hb with rfl | hb
  ·exact h.1.1
  ·exact ih _ h.2 b hb
theorem V7 {xs : List (Int × ByteArray × Int)} (h : VB xs = true) : (∀ b ∈ xs,valB b = true) ∧ xs.length ≤ 60 := by
 unfold VB at h
 simp only [Bool.and_eq_true,decide_eq_true_eq] at h
 exact ⟨Vga _ _ h.2,h.1⟩
theorem VbZ {p : List (Int × ByteArray × Int)} {b : Int × ByteArray × Int} (h1 : ∀ x ∈ p,valB x = true) (hb : valB b = true) : ∀ x ∈ p ++ [b],valB x = true := fun x hx => by
 rcases List.mem_append.1 hx with h | h
 ·exact h1 x h
 ·rw [List.mem_singleton.1 h]; exact hb
theorem Qa7 : ∀ (r p : List (Int × ByteArray × Int)) (k : Nat),(∀ b ∈ p,valB b = true) → (∀ b ∈ r,Sz b.2.1) → p.length + r.length ≤ 1000000 → r.length < k →
  Qm.l2 NN k (p ++ r) p.length = some (Vaz p r && decide ((p ++ r).length ≤ 60)) := by
 intro r
 induction r with
 | nil =>
  intro p k _ _ _ hk
  obtain ⟨k,rfl⟩ : ∃ j,k = j + 1 := ⟨k - 1,by omega⟩
  simp [Qm.l2,Qm.g2,Vaz]
  omega
 | cons b r ih =>
  intro p k hp hr hb hk
  simp only [List.length_cons] at hk hb
  obtain ⟨k,rfl⟩ : ∃ j,k = j + 1 := ⟨k - 1,by omega⟩
  have hm := VD p r b
  have c0 : (0 : Int) ≤ (p.length : Int) := by omega
  have c1 : (p.length : Int) < ((p ++ b :: r).length : Int) := by omega
  have cw := w64 (n := (p.length : Int) + 1) (by omega) (by omega)
  simp only [Qm.l2,Qm.g2,c0,c1,cw,and_self,and_true,true_and,decide_true,decide_false,if_true,if_false,Vd,Ve,Va,Vb,Vf,Option.bind_some,Bool.not_true,Bool.not_false,Bool.false_eq_true,Bool.true_eq_false,beq_self_eq_true,bne_self_eq_false,Int.toNat_natCast,QaT,Qa4 _ (hr b (by simp))]
  have hv : valB b = (inB b.1 0 3 && wordB b.2.1 && inB b.2.2 1 1000) := rfl
  simp only [Vaz]
  cases h1 : inB b.1 0 3
  ·simp [hv,h1]
  cases h2 : wordB b.2.1
  ·simp [hv,h2]
  cases h3 : inB b.2.2 1 1000
  ·simp [hv,h3]
  have hvt : valB b = true := by rw [hv,h1,h2,h3]; rfl
  have hl := Qbn (p ++ [b]) r b.2.1 (VbZ hp hvt) (by simp; omega)
  rw [Vy,Vt] at hl
  have := ih (p ++ [b]) k (VbZ hp hvt) (fun x hx => hr x (by simp [hx])) (by simp; omega) (by omega)
  rw [Vy,Vt] at this
  simp only [hl,this,hvt,and_self,and_true,true_and,decide_true,decide_false,if_true,if_false,Vd,Ve,Va,Vb,Vf,Option.bind_some,Bool.not_true,Bool.not_false,Bool.false_eq_true,Bool.true_eq_false,beq_self_eq_true,bne_self_eq_false,Int.toNat_natCast,decide_eq_true_eq]
  by_cases hn : VJ (p ++ [b]) b.2.1 < 0
  ·have : ¬ 0 ≤ VJ (p ++ [b]) b.2.1 := by omega
   simp [hn,this]
  ·have h4 : 0 ≤ VJ (p ++ [b]) b.2.1 := by omega
   simp [hn,h4]
theorem Qbc (xs : List (Int × ByteArray × Int)) (h : Lm VI xs) : Qm.f xs = some (VB xs) := by
 have := Qa7 xs [] NN (by simp) (fun b hb => Nat.le_trans (h.2 b hb).2.1 (by omega)) (by simpa using h.1) (NN_lt (by have := h.1; omega))
 unfold Qm.f Qm.fn Qm.top VB
 rw [Bool.and_comm]
 simpa using this
theorem Qbo : ∀ (r p : List (Int × ByteArray × Int)) (k : Nat),(∀ b ∈ p,valB b = true) → (∀ b ∈ r,Sz b.2.1) → p.length + r.length ≤ 1000000 → r.length < k →
  Qu.l4 NN k (p ++ r) (p ++ r) (p ++ r).length p.length = some (Vaz p r) := by
 intro r
 induction r with
 | nil =>
  intro p k _ _ _ hk
  obtain ⟨k,rfl⟩ : ∃ j,k = j + 1 := ⟨k - 1,by omega⟩
  simp [Qu.l4,Qu.g4,Vaz]
 | cons b r ih =>
  intro p k hp hr hb hk
  simp only [List.length_cons] at hk hb
  obtain ⟨k,rfl⟩ : ∃ j,k = j + 1 := ⟨k - 1,by omega⟩
  have hm := VD p r b
  have c0 : (0 : Int) ≤ (p.length : Int) := by omega
  have c1 : (p.length : Int) < ((p ++ b :: r).length : Int) := by omega
  have cw := w64 (n := (p.length : Int) + 1) (by omega) (by omega)
  have c2 : (0 : Int) ≤ (p.length : Int) + 1 := by omega
  have c3 : (p.length : Int) + 1 ≤ ((p ++ b :: r).length : Int) := by omega
  have ct : (p ++ b :: r).take ((p.length : Int) + 1).toNat = p ++ [b] := by
   rw [show ((p.length : Int) + 1).toNat = (p ++ [b]).length by simp,show p ++ b :: r = (p ++ [b]) ++ r by simp,List.take_left' rfl]
  simp only [Qu.l4,Qu.g4,c0,c1,c2,c3,cw,ct,and_self,and_true,true_and,decide_true,decide_false,if_true,if_false,Vd,Ve,Va,Vb,Vf,Option.bind_some,Bool.not_true,Bool.not_false,Bool.false_eq_true,Bool.true_eq_false,beq_self_eq_true,bne_self_eq_false,Int.toNat_natCast,QaU,Qa3 _ (hr b (by simp))]
  have hv : valB b = (inB b.1 0 3 && wordB b.2.1 && inB b.2.2 1 1000) := rfl
  simp only [Vaz]
  cases h1 : inB b.1 0 3
  ·simp [hv,h1]
  cases h2 : wordB b.2.1
  ·simp [hv,h2]
  cases h3 : inB b.2.2 1 1000
  ·simp [hv,h3]
  have hvt : valB b = true := by rw [hv,h1,h2,h3]; rfl
  have hl := QbB (p ++ [b]) b.2.1 (VbZ hp hvt) (by simp; omega)
  have := ih (p ++ [b]) k (VbZ hp hvt) (fun x hx => hr x (by simp [hx])) (by simp; omega) (by omega)
  rw [Vy,Vt] at this
  simp only [hl,this,hvt,and_self,and_true,true_and,decide_true,decide_false,if_true,if_false,Vd,Ve,Va,Vb,Vf,Option.bind_some,Bool.not_true,Bool.not_false,Bool.false_eq_true,Bool.true_eq_false,beq_self_eq_true,bne_self_eq_false,Int.toNat_natCast,decide_eq_true_eq]
  by_cases hn : VJ (p ++ [b]) b.2.1 < 0
  ·have : ¬ 0 ≤ VJ (p ++ [b]) b.2.1 := by omega
   simp [hn,this]
  ·have h4 : 0 ≤ VJ (p ++ [b]) b.2.1 := by omega
   simp [hn,h4]
end Go.Pl

namespace Go.Pl
open Go.Ev
set_option linter.unusedVariables false
noncomputable section
end
end Go.Pl

namespace Go.Pl
open Go.Ev
set_option linter.unusedVariables false
noncomputable section
end
end Go.Pl

namespace Go.Pl
open Go.Ev
set_option linter.unusedVariables false
noncomputable section
end
end Go.Pl

namespace Go.Pl
open Go.Ev
set_option linter.unusedVariables false
noncomputable section
end
end Go.Pl

namespace Go.Pl
open Go.Ev
set_option linter.unusedVariables false
set_option linter.unusedSimpArgs false
theorem Vfz (xs : List (Int × ByteArray × Int)) (a : ByteArray) (h : ∀ b ∈ xs,valB b = true) (hl : xs.length ≤ 1000000) : Q0.f xs a xs.length = some (VJ xs a) := by
 have := Qbn xs [] a h hl
 rwa [List.append_nil] at this
end Go.Pl

namespace Go.Pl
open Go.Ev
set_option linter.unusedVariables false
noncomputable section
end
end Go.Pl

namespace Go.Pl
open Go.Ev
set_option linter.unusedVariables false
noncomputable section
end
end Go.Pl

namespace Go.Pl
open Go.Ev
set_option linter.unusedVariables false
set_option linter.unusedSimpArgs false
abbrev Sig := Int × Int
def sigB (m : Sig) : Bool := inB m.1 0 100000 && inB m.2 0 9 && !decide (m.2 = 8)
def prevS (p : List Sig) (t : Int) : Bool := match p.getLast? with | none => true | some y => !decide (t < y.1)
def sigF (p : List Sig) : List Sig → Bool
 | [] => true
 | m :: r => sigB m && (prevS p m.1 && sigF (p ++ [m]) r)
def sigsB (xs : List Sig) : Bool := decide (xs.length ≤ 40) && sigF [] xs
theorem QbC : ∀ (r p : List Sig) (k : Nat),p.length + r.length ≤ 1000000 → r.length < k → Qw.l4 NN k (p ++ r) (p ++ r) (p ++ r).length p.length = some (sigF p r) := by
 intro r
 induction r with
 | nil =>
  intro p k _ hk
  obtain ⟨k,rfl⟩ : ∃ j,k = j + 1 := ⟨k - 1,by omega⟩
  have e : decide ((p.length : Int) ≤ 40) = decide (p.length ≤ 40) := by congr 1; exact propext (by omega)
  simp [Qw.l4,Qw.g4,sigF,e]
 | cons m r ih =>
  intro p k hb hk
  simp only [List.length_cons] at hb hk
  obtain ⟨k,rfl⟩ : ∃ j,k = j + 1 := ⟨k - 1,by omega⟩
  have hl := VD p r m
  have c0 : (0 : Int) ≤ (p.length : Int) := by omega
  have c1 : (p.length : Int) < ((p ++ m :: r).length : Int) := by omega
  have cw := w64 (n := (p.length : Int) + 1) (by omega) (by omega)
  have i1 := ih (p ++ [m]) k (by simp; omega) (by omega)
  rw [Vy,Vt] at i1
  simp only [Qw.l4,Qw.g4,c0,c1,cw,and_self,and_true,true_and,decide_true,decide_false,if_true,if_false,Vd,Ve,Va,Vb,Vf,Option.bind_some,Bool.not_true,Bool.not_false,Bool.false_eq_true,Bool.true_eq_false,beq_self_eq_true,bne_self_eq_false,Int.toNat_natCast,Qbv,QaU]
  by_cases hm : sigB m = true
  rotate_left
  ·have e : sigF p (m :: r) = false := by simp only [sigF]; cases q : sigB m; rfl; exact absurd q hm
   rw [e]
   unfold sigB at hm
   simp only [Bool.and_eq_true,Bool.not_eq_true',decide_eq_false_iff_not,not_and] at hm
   by_cases h1 : inB m.1 0 100000 = true
   ·by_cases h3 : inB m.2 0 9 = true
    ·have h4 : m.2 = 8 := by have := hm ⟨h1,h3⟩; omega
     simp [h1,h3,h4]
    ·simp [h1,h3]
   ·simp [h1]
  have hm' := hm
  unfold sigB at hm'
  simp only [Bool.and_eq_true,Bool.not_eq_true',decide_eq_false_iff_not] at hm'
  obtain ⟨⟨h1,h3⟩,h4⟩ := hm'
  have h4' : (m.2 == 8) = false := by simpa using h4
  simp only [h1,h3,h4',and_self,and_true,true_and,decide_true,decide_false,if_true,if_false,Vd,Ve,Va,Vb,Vf,Option.bind_some,Bool.not_true,Bool.not_false,Bool.false_eq_true,Bool.true_eq_false,beq_self_eq_true,bne_self_eq_false,Int.toNat_natCast]
  rcases VaK p with hp | ⟨q,y,hp⟩
  ·have n1 : ¬ (0 : Int) < (p.length : Int) := by rw [hp]; simp
   have hpr : prevS p m.1 = true := by rw [hp]; rfl
   simp only [n1,and_self,and_true,true_and,decide_true,decide_false,if_true,if_false,Vd,Ve,Va,Vb,Vf,Option.bind_some,Bool.not_true,Bool.not_false,Bool.false_eq_true,Bool.true_eq_false,beq_self_eq_true,bne_self_eq_false,Int.toNat_natCast,i1,sigF,hm,hpr,Bool.true_and]
  ·have hpl : (p.length : Int) - 1 = (q.length : Int) := by rw [hp]; simp
   have n1 : (0 : Int) < (p.length : Int) := by rw [hp]; simp
   have w1 := w64 (n := (q.length : Int)) (by omega) (by omega)
   have q0 : (0 : Int) ≤ (q.length : Int) := by omega
   have q1 : (q.length : Int) < ((p ++ m :: r).length : Int) := by omega
   have g2 : ∀ z,(p ++ m :: r).getD q.length z = y := fun z => by rw [hp,List.append_assoc,List.singleton_append,Va]
   have hpr : prevS p m.1 = !decide (m.1 < y.1) := by unfold prevS; rw [hp,Vam]
   simp only [n1,hpl,w1,q0,q1,g2,and_self,and_true,true_and,decide_true,decide_false,if_true,if_false,Vd,Ve,Va,Vb,Vf,Option.bind_some,Bool.not_true,Bool.not_false,Bool.false_eq_true,Bool.true_eq_false,beq_self_eq_true,bne_self_eq_false,Int.toNat_natCast,i1,sigF,hm,hpr,Bool.true_and]
   by_cases e : m.1 < y.1 <;> simp [e]
theorem QbD : ∀ (r p : List Sig) (k : Nat),p.length + r.length ≤ 1000000 → r.length < k → Qz.l2 NN k (p ++ r) p.length = some (sigF p r && decide ((p ++ r).length ≤ 40)) := by
 intro r
 induction r with
 | nil =>
  intro p k _ hk
  obtain ⟨k,rfl⟩ : ∃ j,k = j + 1 := ⟨k - 1,by omega⟩
  have e : decide ((p.length : Int) ≤ 40) = decide (p.length ≤ 40) := by congr 1; exact propext (by omega)
  simp [Qz.l2,Qz.g2,sigF,e]
 | cons m r ih =>
  intro p k hb hk
  simp only [List.length_cons] at hb hk
  obtain ⟨k,rfl⟩ : ∃ j,k = j + 1 := ⟨k - 1,by omega⟩
  have hl := VD p r m
  have c0 : (0 : Int) ≤ (p.length : Int) := by omega
  have c1 : (p.length : Int) < ((p ++ m :: r).length : Int) := by omega
  have cw := w64 (n := (p.length : Int) + 1) (by omega) (by omega)
  have i1 := ih (p ++ [m]) k (by simp; omega) (by omega)
  rw [Vy,Vt] at i1
  simp only [Qz.l2,Qz.g2,c0,c1,cw,and_self,and_true,true_and,decide_true,decide_false,if_true,if_false,Vd,Ve,Va,Vb,Vf,Option.bind_some,Bool.not_true,Bool.not_false,Bool.false_eq_true,Bool.true_eq_false,beq_self_eq_true,bne_self_eq_false,Int.toNat_natCast,QaT]
  by_cases hm : sigB m = true
  rotate_left
  ·have e : sigF p (m :: r) = false := by simp only [sigF]; cases q : sigB m; rfl; exact absurd q hm
   rw [e]
   unfold sigB at hm
   simp only [Bool.and_eq_true,Bool.not_eq_true',decide_eq_false_iff_not,not_and] at hm
   by_cases h1 : inB m.1 0 100000 = true
   ·by_cases h3 : inB m.2 0 9 = true
    ·have h4 : m.2 = 8 := by have := hm ⟨h1,h3⟩; omega
     simp [h1,h3,h4]
    ·simp [h1,h3]
   ·simp [h1]
  have hm' := hm
  unfold sigB at hm'
  simp only [Bool.and_eq_true,Bool.not_eq_true',decide_eq_false_iff_not] at hm'
  obtain ⟨⟨h1,h3⟩,h4⟩ := hm'
  have h4' : (m.2 == 8) = false := by simpa using h4
  simp only [h1,h3,h4',and_self,and_true,true_and,decide_true,decide_false,if_true,if_false,Vd,Ve,Va,Vb,Vf,Option.bind_some,Bool.not_true,Bool.not_false,Bool.false_eq_true,Bool.true_eq_false,beq_self_eq_true,bne_self_eq_false,Int.toNat_natCast]
  rcases VaK p with hp | ⟨q,y,hp⟩
  ·have n1 : ¬ (0 : Int) < (p.length : Int) := by rw [hp]; simp
   have hpr : prevS p m.1 = true := by rw [hp]; rfl
   simp only [n1,and_self,and_true,true_and,decide_true,decide_false,if_true,if_false,Vd,Ve,Va,Vb,Vf,Option.bind_some,Bool.not_true,Bool.not_false,Bool.false_eq_true,Bool.true_eq_false,beq_self_eq_true,bne_self_eq_false,Int.toNat_natCast,i1,sigF,hm,hpr,Bool.true_and]
  ·have hpl : (p.length : Int) - 1 = (q.length : Int) := by rw [hp]; simp
   have n1 : (0 : Int) < (p.length : Int) := by rw [hp]; simp
   have w1 := w64 (n := (q.length : Int)) (by omega) (by omega)
   have q0 : (0 : Int) ≤ (q.length : Int) := by omega
   have q1 : (q.length : Int) < ((p ++ m :: r).length : Int) := by omega
   have g2 : ∀ z,(p ++ m :: r).getD q.length z = y := fun z => by rw [hp,List.append_assoc,List.singleton_append,Va]
   have hpr : prevS p m.1 = !decide (m.1 < y.1) := by unfold prevS; rw [hp,Vam]
   simp only [n1,hpl,w1,q0,q1,g2,and_self,and_true,true_and,decide_true,decide_false,if_true,if_false,Vd,Ve,Va,Vb,Vf,Option.bind_some,Bool.not_true,Bool.not_false,Bool.false_eq_true,Bool.true_eq_false,beq_self_eq_true,bne_self_eq_false,Int.toNat_natCast,i1,sigF,hm,hpr,Bool.true_and]
   by_cases e : m.1 < y.1 <;> simp [e]
theorem Qbg (xs : List Sig) (hl : xs.length ≤ 1000000) : Qw.f xs = some (sigsB xs) := by
 unfold Qw.f Qw.fn Qw.top sigsB
 have := QbC xs [] NN (by simpa using hl) (NN_lt (by omega))
 rw [List.nil_append] at this
 by_cases h8 : (40 : Int) < (xs.length : Int)
 ·have : ¬ xs.length ≤ 40 := by omega
  simp [h8,this]
 ·have e8 : xs.length ≤ 40 := by omega
  simp only [h8,e8,and_self,and_true,true_and,decide_true,decide_false,if_true,if_false,Vd,Ve,Va,Vb,Vf,Option.bind_some,Bool.not_true,Bool.not_false,Bool.false_eq_true,Bool.true_eq_false,beq_self_eq_true,bne_self_eq_false,Int.toNat_natCast,Bool.true_and]
  exact this
theorem Qbh (xs : List Sig) (hl : xs.length ≤ 1000000) : Qz.f xs = some (sigsB xs) := by
 unfold Qz.f Qz.fn Qz.top sigsB
 have := QbD xs [] NN (by simpa using hl) (NN_lt (by omega))
 rw [List.nil_append] at this
 rw [Bool.and_comm]
 exact this
end Go.Pl

namespace Go.Pl
open Go.Ev
set_option linter.unusedVariables false
set_option linter.unusedSimpArgs false
abbrev Ctl := Bool × Bool × Bool × Bool × Bool × Int
def giveC : Ctl → Int → Option Ctl
 | (a,b,r,h,s,d),i =>
  if i = 0 then some (if a = true then (false,b,false,false,s,d) else (true,b,r,h,s,d))
  else if i = 1 then some (if b = true then (a,false,false,false,s,d) else (a,true,r,h,s,d))
  else if i = 2 then (if (a && b && !s) = true then some (a,b,true,false,s,0) else none)
  else if i = 3 then some (a,b,false,false,s,d)
  else if i = 4 then (if (r && !h) = true then some (a,b,r,true,s,d) else none)
  else if i = 5 then (if h = true then some (a,b,r,false,s,d) else none)
  else if i = 6 then some (a,b,false,false,true,d)
  else if i = 7 then some (a,b,r,h,s,0)
  else if i = 8 then some (if 3 < d + 1 then (a,b,false,false,s,4) else (a,b,r,h,s,d + 1))
  else (if (s && !a && !b) = true then some (a,b,r,h,false,d) else none)
def tkC : Ctl → Ctl
 | (a,b,r,h,s,d) => if 3 < d + 1 then (a,b,false,false,s,4) else (a,b,r,h,s,d + 1)
theorem VfL (c : Ctl) : giveC c 8 = some (tkC c) := rfl
def giveB (c : Ctl) (i : Int) : Ctl := (giveC c i).getD c
def VE (c : Ctl) : Prop := 0 ≤ c.2.2.2.2.2 ∧ c.2.2.2.2.2 ≤ 4
def mayC (c : Ctl) : Bool := c.2.2.1 && !c.2.2.2.1
theorem VcB {c : Ctl} (h : VE c) : VE (tkC c) := by
 obtain ⟨a,b,r,e,s,d⟩ := c
 unfold VE at h ⊢
 simp only at h
 simp only [tkC]
 by_cases h3 : 3 < d + 1
 ·rw [if_pos h3]; simp
 ·rw [if_neg h3]; simp only; omega
theorem Vbx {c : Ctl} (h : VE c) (i : Int) : VE (giveB c i) := by
 obtain ⟨a,b,r,e,s,d⟩ := c
 unfold VE at h ⊢
 simp only at h
 unfold giveB giveC
 simp only
 repeat' split
 all_goals simp only [Option.getD_some,Option.getD_none]
 all_goals omega
def tkN : Nat → Ctl → Ctl
 | 0,c => c
 | n + 1,c => tkN n (tkC c)
theorem VfM : ∀ (m n : Nat) (c : Ctl),tkN (m + n) c = tkN n (tkN m c) := by
 intro m
 induction m with
 | zero => intro n c; rw [Nat.zero_add]; rfl
 | succ m ih => intro n c; rw [Nat.succ_add]; exact ih n (tkC c)
theorem Vhw : ∀ (n : Nat) {c : Ctl},VE c → VE (tkN n c) := by
 intro n
 induction n with
 | zero => intro c h; exact h
 | succ n ih => intro c h; exact ih (VcB h)
theorem tk4 {a b r e s : Bool} {d : Int} (h0 : 0 ≤ d) (h1 : d ≤ 4) : tkN 4 (a,b,r,e,s,d) = (a,b,false,false,s,4) := by
 have : d = 0 ∨ d = 1 ∨ d = 2 ∨ d = 3 ∨ d = 4 := by omega
 rcases this with rfl | rfl | rfl | rfl | rfl <;> rfl
theorem VgN (a b s : Bool) : ∀ n : Nat,tkN n (a,b,false,false,s,4) = (a,b,false,false,s,4) := by
 intro n
 induction n with
 | zero => rfl
 | succ n ih => exact ih
theorem Vio {c : Ctl} (h : VE c) (n : Nat) : tkN (min n 5) c = tkN n c := by
 by_cases hn : n ≤ 5
 ·rw [Nat.min_eq_left hn]
 ·obtain ⟨a,b,r,e,s,d⟩ := c
  rw [Nat.min_eq_right (by omega),show n = 4 + (n - 4) by omega,VfM,tk4 h.1 h.2,VgN,show (5 : Nat) = 4 + 1 from rfl,VfM,tk4 h.1 h.2,VgN]
def SrtF : Int → List Sig → Prop
 | _,[] => True
 | t,x :: r => t ≤ x.1 ∧ SrtF x.1 r
def atR : List Sig → Ctl → Int → Int → Ctl
 | [],c,now,t => tkN (t - now).toNat c
 | x :: r,c,now,t => if x.1 ≤ t then atR r (giveB (tkN (x.1 - now).toNat c) x.2) x.1 t else tkN (t - now).toNat c
theorem Ve6 {l : List Sig} {T t : Int} (c : Ctl) (h : SrtF (T + 1) l) (ht : T + 1 ≤ t) : atR l c T t = atR l (tkC c) (T + 1) t := by
 have key : ∀ u : Int,T + 1 ≤ u → tkN (u - T).toNat c = tkN (u - (T + 1)).toNat (tkC c) := by
  intro u hu
  rw [show (u - T).toNat = (u - (T + 1)).toNat + 1 by omega]; rfl
 cases l with
 | nil => exact key t ht
 | cons x r => simp only [atR]; rw [key t ht,key x.1 h.1]
theorem Vc6 (T i : Int) (r : List Sig) (c : Ctl) {t : Int} (ht : T ≤ t) : atR ((T,i) :: r) c T t = atR r (giveB c i) T t := by
 simp only [atR,ht,if_true]
 rw [show (T - T).toNat = 0 by omega]; rfl
theorem VfN {l : List Sig} {T : Int} (c : Ctl) (h : SrtF (T + 1) l) : atR l c T T = c := by
 have h0 : (T - T).toNat = 0 := by omega
 cases l with
 | nil => simp only [atR,h0]; rfl
 | cons x r =>
  have : ¬ x.1 ≤ T := by have := h.1; omega
  simp only [atR,this,if_false,h0]; rfl
def ctlAt (l : List Sig) (t : Int) : Ctl := atR l (false,false,false,false,false,0) 0 t
theorem Vhx : ∀ {r p : List Sig} {t : Int},sigF p r = true → (∀ y,p.getLast? = some y → t ≤ y.1) → (p = [] → ∀ y r',r = y :: r' → t ≤ y.1) → SrtF t r := by
 intro r
 induction r with
 | nil => intro p t _ _ _; trivial
 | cons x r ih =>
  intro p t h hp hn
  simp only [sigF,Bool.and_eq_true] at h
  have hx : t ≤ x.1 := by
   rcases VaK p with e | ⟨q,y,e⟩
   ·exact hn e x r rfl
   ·have h1 := h.2.1
    unfold prevS at h1
    rw [e,Vam] at h1
    simp only [Bool.not_eq_true',decide_eq_false_iff_not] at h1
    have := hp y (by rw [e,Vam])
    omega
  refine ⟨hx,ih h.2.2 (fun y hy => ?_) (fun e => absurd e (by simp))⟩
  rw [Vam] at hy
  rw [← Option.some.inj hy]; omega
theorem Vhy : ∀ {r p : List Sig},sigF p r = true → ∀ m ∈ r,sigB m = true := by
 intro r
 induction r with
 | nil => intro p _ m hm; cases hm
 | cons x r ih =>
  intro p h m hm
  simp only [sigF,Bool.and_eq_true] at h
  rcases List.mem_cons.1 hm with rfl | hm
  ·exact h.1
  ·exact ih h.2.2 m hm
theorem Vcl {l : List Sig} (h : sigsB l = true) : l.length ≤ 40 ∧ SrtF 0 l ∧ ∀ m ∈ l,(0 ≤ m.1 ∧ m.1 ≤ 100000) ∧ (0 ≤ m.2 ∧ m.2 ≤ 9) ∧ m.2 ≠ 8 := by
 unfold sigsB at h
 simp only [Bool.and_eq_true,decide_eq_true_eq] at h
 have hm := Vhy h.2
 have hk : ∀ m ∈ l,(0 ≤ m.1 ∧ m.1 ≤ 100000) ∧ (0 ≤ m.2 ∧ m.2 ≤ 9) ∧ m.2 ≠ 8 := fun m h1 => by
  have := hm m h1
  unfold sigB at this
  simp only [Bool.and_eq_true,inB_iff,Bool.not_eq_true',decide_eq_false_iff_not] at this
  exact ⟨this.1.1,this.1.2,this.2⟩
 refine ⟨h.1,Vhx h.2 (fun y hy => by simp at hy) (fun _ y r' e => ?_),hk⟩
 exact (hk y (by rw [e]; simp)).1.1
def addZ (z : ByteArray) (t s : Int) (m : Mov) : Int := if m.2.1 = z ∧ m.1 ≤ t then s + m.2.2 else s
def peopT (xs : List Mov) (z : ByteArray) (t : Int) : Int := xs.foldl (addZ z t) 0
def nearB (z : ByteArray) (t : Int) (m : Mov) : Bool := decide (m.2.1 = z) && (decide (m.1 ≤ t) && decide (t - m.1 < 30000))
def clrB (xs : List Mov) (z : ByteArray) (t : Int) : Bool := xs.all (fun m => !nearB z t m) && decide (peopT xs z t = 0)
def upN (t : Int) : List Mov → Nat
 | [] => 0
 | m :: r => if m.1 ≤ t then upN t r + 1 else 0
theorem ViX (t : Int) : ∀ xs : List Mov,upN t xs ≤ xs.length := by
 intro xs
 induction xs with
 | nil => simp [upN]
 | cons m r ih => simp only [upN,List.length_cons]; split <;> omega
def SrtM (xs : List Mov) : Prop := xs.Pairwise fun a b => a.1 ≤ b.1
theorem Vef (t : Int) : ∀ (xs : List Mov),SrtM xs → (∀ m ∈ xs.take (upN t xs),m.1 ≤ t) ∧ ∀ m ∈ xs.drop (upN t xs),t < m.1 := by
 intro xs
 induction xs with
 | nil => intro _; simp
 | cons m r ih =>
  intro h
  have h' := List.pairwise_cons.1 h
  have i := ih h'.2
  by_cases hm : m.1 ≤ t
  ·simp only [upN,hm,if_true,List.take_succ_cons,List.drop_succ_cons]
   refine ⟨fun x hx => ?_,i.2⟩
   rcases List.mem_cons.1 hx with rfl | hx
   ·exact hm
   ·exact i.1 x hx
  ·simp only [upN,hm,if_false,List.take_zero,List.drop_zero]
   refine ⟨by simp,fun x hx => ?_⟩
   rcases List.mem_cons.1 hx with rfl | hx
   ·omega
   ·have := h'.1 x hx; omega
theorem Vip (z : ByteArray) (t : Int) : ∀ (xs : List Mov) (s : Int),(∀ m ∈ xs,m.1 ≤ t) → xs.foldl (addZ z t) s = xs.foldl (addP z) s := by
 intro xs
 induction xs with
 | nil => intro s _; rfl
 | cons m r ih =>
  intro s h
  have := h m (by simp)
  simp only [List.foldl_cons]
  rw [show addZ z t s m = addP z s m by unfold addZ addP; simp [this]]
  exact ih _ (fun x hx => h x (by simp [hx]))
theorem Vhz (z : ByteArray) (t : Int) : ∀ (xs : List Mov) (s : Int),(∀ m ∈ xs,t < m.1) → xs.foldl (addZ z t) s = s := by
 intro xs
 induction xs with
 | nil => intro s _; rfl
 | cons m r ih =>
  intro s h
  have := h m (by simp)
  have n : ¬ m.1 ≤ t := by omega
  simp only [List.foldl_cons]
  rw [show addZ z t s m = s by unfold addZ; simp [n]]
  exact ih _ (fun x hx => h x (by simp [hx]))
theorem VhA {xs : List Mov} (h : SrtM xs) (z : ByteArray) (t : Int) : peopT xs z t = peopS (xs.take (upN t xs)) z := by
 obtain ⟨h1,h2⟩ := Vef t xs h
 unfold peopT peopS
 conv => lhs; rw [← List.take_append_drop (upN t xs) xs]
 rw [List.foldl_append,Vip z t _ _ h1,Vhz z t _ _ h2]
theorem Viq {xs : List Mov} (h : SrtM xs) (z : ByteArray) (t : Int) : xs.all (fun m => !nearB z t m) = (xs.take (upN t xs)).all (fun m => !(decide (m.2.1 = z) && decide (t < m.1 + 30000))) := by
 obtain ⟨h1,h2⟩ := Vef t xs h
 conv => lhs; rw [← List.take_append_drop (upN t xs) xs]
 rw [List.all_append]
 have e2 : (xs.drop (upN t xs)).all (fun m => !nearB z t m) = true := by
  rw [List.all_eq_true]
  intro m hm
  have n : ¬ m.1 ≤ t := by have := h2 m hm; omega
  simp [nearB,n]
 rw [e2,Bool.and_true,Bool.eq_iff_iff,List.all_eq_true,List.all_eq_true]
 refine forall_congr' fun m => forall_congr' fun hm => ?_
 have a1 := h1 m hm
 have e : decide (t - m.1 < 30000) = decide (t < m.1 + 30000) := by congr 1; exact propext (by omega)
 unfold nearB
 rw [e,decide_eq_true a1,Bool.true_and]
theorem VhB : ∀ {r p : List Mov},MvI p → SrtM p → movF p r = true → SrtM (p ++ r) ∧ ∀ m ∈ r,movB m = true := by
 intro r
 induction r with
 | nil => intro p _ hs _; rw [List.append_nil]; exact ⟨hs,fun m hm => by cases hm⟩
 | cons m r ih =>
  intro p hI hs h
  simp only [movF,Bool.and_eq_true] at h
  obtain ⟨j1,j2⟩ := Vc5 hI h.1 h.2.1
  have hs' : SrtM (p ++ [m]) := by
   unfold SrtM
   rw [List.pairwise_append]
   refine ⟨hs,by simp,fun a ha b hb => ?_⟩
   rw [List.mem_singleton.1 hb]; exact j2 a (by simp [ha])
  have i := ih j1 hs' h.2.2.2
  rw [List.append_assoc,List.singleton_append] at i
  refine ⟨i.1,fun x hx => ?_⟩
  rcases List.mem_cons.1 hx with rfl | hx
  ·exact h.1
  ·exact i.2 x hx
theorem V1 {xs : List Mov} (h : VG xs = true) : xs.length ≤ 40 ∧ SrtM xs ∧ ∀ m ∈ xs,movB m = true := by
 unfold VG at h
 simp only [Bool.and_eq_true,decide_eq_true_eq] at h
 have := VhB VdY (by simp [SrtM]) h.2
 rw [List.nil_append] at this
 exact ⟨h.1,this⟩
end Go.Pl

namespace Go.Pl
open Go.Ev
set_option linter.unusedVariables false
set_option linter.unusedSimpArgs false
theorem Qa0 (c : Ctl) (i : Int) (h : VE c) (h0 : 0 ≤ i ∧ i ≤ 9) : Qaj.f c i = some (match giveC c i with | some y => (y,0) | none => ((false,false,false,false,false,0),5)) := by
 obtain ⟨a,b,r,e,s,d⟩ := c
 have hd : 0 ≤ d ∧ d ≤ 4 := h
 have w := w64 (n := d + 1) (by omega) (by omega)
 have hi : i = 0 ∨ i = 1 ∨ i = 2 ∨ i = 3 ∨ i = 4 ∨ i = 5 ∨ i = 6 ∨ i = 7 ∨ i = 8 ∨ i = 9 := by omega
 unfold Qaj.f Qaj.fn Qaj.top QaR.f QaR.fn QaR.top giveC
 rcases hi with rfl | rfl | rfl | rfl | rfl | rfl | rfl | rfl | rfl | rfl
 case inr.inr.inr.inr.inr.inr.inr.inr.inl =>
  simp only [w]
  by_cases h3 : 3 < d + 1
  ·have h4 : d + 1 = 4 ∨ d + 1 = 5 := by omega
   rcases h4 with h4 | h4 <;> simp [h4]
  ·have h4 : ¬ 4 < d + 1 := by omega
   simp [h3,h4]
 all_goals cases a <;> cases b <;> cases r <;> cases e <;> cases s <;> rfl
theorem Qbp (c : Ctl) (i : Int) (h : VE c) (h0 : 0 ≤ i ∧ i ≤ 9) : ∃ y : Ctl × Bool,QaB.f c i = some y ∧ y.2 = (giveC c i).isSome ∧ y.1 = giveB c i := by
 obtain ⟨a,b,r,e,s,d⟩ := c
 have hd : 0 ≤ d ∧ d ≤ 4 := h
 have w := w64 (n := d + 1) (by omega) (by omega)
 have hi : i = 0 ∨ i = 1 ∨ i = 2 ∨ i = 3 ∨ i = 4 ∨ i = 5 ∨ i = 6 ∨ i = 7 ∨ i = 8 ∨ i = 9 := by omega
 unfold QaB.f QaB.fn QaB.top QaP.f QaP.fn QaP.top giveB giveC
 rcases hi with rfl | rfl | rfl | rfl | rfl | rfl | rfl | rfl | rfl | rfl
 case inr.inr.inr.inr.inr.inr.inr.inr.inl =>
  simp only [w]
  have hd5 : d = 0 ∨ d = 1 ∨ d = 2 ∨ d = 3 ∨ d = 4 := by omega
  rcases hd5 with rfl | rfl | rfl | rfl | rfl <;> exact ⟨_,rfl,rfl,rfl⟩
 all_goals cases a <;> cases b <;> cases r <;> cases e <;> cases s <;> exact ⟨_,rfl,rfl,rfl⟩
theorem Qbq (c : Ctl) : QaL.f c = some (mayC c) := by
 obtain ⟨a,b,r,e,s,d⟩ := c
 cases r <;> rfl
theorem QbN (a1 a2 a3 a4 a5 : Bool) (a6 : Int) : ∀ (n : Nat) (c : Ctl) (k : Nat),VE c → n ≤ 1000 → n < k → QI.l2 NN k n c a1 a2 a3 a4 a5 a6 = some (tkN n c) := by
 intro n
 induction n with
 | zero =>
  intro c k _ _ hk
  obtain ⟨k,rfl⟩ : ∃ j,k = j + 1 := ⟨k - 1,by omega⟩
  simp [QI.l2,QI.g2,tkN]
 | succ n ih =>
  intro c k hc hn hk
  obtain ⟨k,rfl⟩ : ∃ j,k = j + 1 := ⟨k - 1,by omega⟩
  obtain ⟨y,e1,e2,e3⟩ := Qbp c 8 hc (by omega)
  have c0 : (0 : Int) < ((n + 1 : Nat) : Int) := by omega
  have w := w64 (n := ((n + 1 : Nat) : Int) - 1) (by omega) (by omega)
  have e4 : giveB c 8 = tkC c := rfl
  rw [e4] at e3
  simp only [QI.l2,QI.g2,c0,w,e1,e3,and_self,and_true,true_and,decide_true,decide_false,if_true,if_false,Vd,Ve,Va,Vb,Vf,Option.bind_some,Bool.not_true,Bool.not_false,Bool.false_eq_true,Bool.true_eq_false,beq_self_eq_true,bne_self_eq_false,Int.toNat_natCast]
  rw [show ((n + 1 : Nat) : Int) - 1 = (n : Int) by omega]
  exact ih _ k (VcB hc) (by omega) (by omega)
theorem Qa9 (c : Ctl) {n : Int} (hc : VE c) (h0 : 0 ≤ n) : QI.f c n = some (tkN n.toNat c) := by
 unfold QI.f QI.fn QI.top
 have e : (if 5 < n then 5 else n) = ((min n.toNat 5 : Nat) : Int) := by split <;> omega
 rw [e,QbN _ _ _ _ _ _ _ _ _ hc (by omega) (NN_lt (by omega)),Vio hc]
theorem Qb8 (t : Int) (ht : 0 ≤ t ∧ t ≤ 1000000) (a1 a2 a3 a4 a5 : Bool) (a6 : Int) : ∀ (r p : List Sig) (now : Int) (c : Ctl) (ref : List Int) (k : Nat),p.length + r.length ≤ 1000000 → r.length < k → VE c → 0 ≤ now → now ≤ t → SrtF now r → (∀ m ∈ r,(0 ≤ m.1 ∧ m.1 ≤ 100000) ∧ (0 ≤ m.2 ∧ m.2 ≤ 9)) → ref.length ≤ p.length →
  ∃ q,QN.l4 NN k (p ++ r) t now p.length a1 a2 a3 a4 a5 a6 c ref = some (atR r c now t,q) := by
 intro r
 induction r with
 | nil =>
  intro p now c ref k _ hk hc hn hnt _ _ _
  obtain ⟨k,rfl⟩ : ∃ j,k = j + 1 := ⟨k - 1,by omega⟩
  have w := w64 (n := t - now) (by omega) (by omega)
  refine ⟨ref,?_⟩
  simp only [List.append_nil,QN.l4,QN.g4,Int.lt_irrefl,w,and_self,and_true,true_and,decide_true,decide_false,if_true,if_false,Vd,Ve,Va,Vb,Vf,Option.bind_some,Bool.not_true,Bool.not_false,Bool.false_eq_true,Bool.true_eq_false,beq_self_eq_true,bne_self_eq_false,Int.toNat_natCast]
  rw [Qa9 c hc (by omega)]; rfl
 | cons m r ih =>
  intro p now c ref k hl hk hc hn hnt hs hm hr
  simp only [List.length_cons] at hl hk
  obtain ⟨k,rfl⟩ : ∃ j,k = j + 1 := ⟨k - 1,by omega⟩
  have hmm := hm m (by simp)
  have hln := VD p r m
  have c0 : (0 : Int) ≤ (p.length : Int) := by omega
  have c1 : (p.length : Int) < ((p ++ m :: r).length : Int) := by omega
  have cw := w64 (n := (p.length : Int) + 1) (by omega) (by omega)
  have w := w64 (n := t - now) (by omega) (by omega)
  have w2 := w64 (n := m.1 - now) (by omega) (by omega)
  have hs1 := hs.1
  by_cases h : m.1 ≤ t
  ·have hd := Vhw (m.1 - now).toNat hc
   obtain ⟨y,e1,e2,e3⟩ := Qbp (tkN (m.1 - now).toNat c) m.2 hd hmm.2
   have st : ∀ ref' : List Int,ref'.length ≤ (p ++ [m]).length → ∃ q,QN.l4 NN k (p ++ m :: r) t m.1 ((p.length : Int) + 1) a1 a2 a3 a4 a5 a6 (giveB (tkN (m.1 - now).toNat c) m.2) ref' = some (atR r (giveB (tkN (m.1 - now).toNat c) m.2) m.1 t,q) := by
    intro ref' hr'
    have i := ih (p ++ [m]) m.1 (giveB (tkN (m.1 - now).toNat c) m.2) ref' k (by simp; omega) (by omega) (Vbx hd _) (by omega) h hs.2 (fun x hx => hm x (by simp [hx])) hr'
    rwa [Vy,Vt] at i
   simp only [QN.l4,QN.g4,c0,c1,cw,w2,h,and_self,and_true,true_and,decide_true,decide_false,if_true,if_false,Vd,Ve,Va,Vb,Vf,Option.bind_some,Bool.not_true,Bool.not_false,Bool.false_eq_true,Bool.true_eq_false,beq_self_eq_true,bne_self_eq_false,Int.toNat_natCast,atR]
   rw [Qa9 c hc (by omega)]
   simp only [Option.bind_some,e1]
   by_cases hy : y.2 = true
   ·rw [if_pos hy,e3]
    exact st ref (by simp; omega)
   ·rw [if_neg hy]
    have hg : giveB (tkN (m.1 - now).toNat c) m.2 = tkN (m.1 - now).toNat c := by
     unfold giveB
     rw [e2] at hy
     cases hq : giveC (tkN (m.1 - now).toNat c) m.2 with
     | none => rfl
     | some z => rw [hq] at hy; simp at hy
    have i := st (ref ++ [(p.length : Int)]) (by simp; omega)
    rw [hg] at i ⊢
    rw [if_pos (by rw [room8]; simp; omega)]
    exact i
  ·refine ⟨ref,?_⟩
   simp only [QN.l4,QN.g4,c0,c1,w,h,and_self,and_true,true_and,decide_true,decide_false,if_true,if_false,Vd,Ve,Va,Vb,Vf,Option.bind_some,Bool.not_true,Bool.not_false,Bool.false_eq_true,Bool.true_eq_false,beq_self_eq_true,bne_self_eq_false,Int.toNat_natCast,atR]
   rw [Qa9 c hc (by omega)]; rfl
theorem Vcm : VE ((false,false,false,false,false,0) : Ctl) := by simp [VE]
theorem Qbx {l : List Sig} (h : sigsB l = true) {t : Int} (ht : 0 ≤ t ∧ t ≤ 1000000) : ∃ q,QN.f l t = some (ctlAt l t,q) := by
 obtain ⟨h1,h2,h3⟩ := Vcl h
 have := Qb8 t ht false false false false false 0 l [] 0 (false,false,false,false,false,0) [] NN (by simp; omega) (NN_lt (by omega)) Vcm (by omega) ht.1 h2 (fun m hm => ⟨(h3 m hm).1,(h3 m hm).2.1⟩) (by simp)
 exact this
theorem QbO (xs : List Mov) (z : ByteArray) (t : Int) (h : ∀ m ∈ xs,movB m = true) (hl : xs.length ≤ 1000000) : QC.f xs z t = some (peopT xs z t) := by
 have := (VU (E := fun m : Mov => movB m = true) (fun p st => -(1000 * (p.length : Int)) ≤ st ∧ st ≤ 1000 * (p.length : Int)) (fun _ => addZ z t) (fun st => some st) (fun k i st => QC.l3 NN k z t st xs xs.length i) xs ?_ ?_ 0 h (by simp) (by omega) NN (NN_lt (by omega))).2
 ·rw [VP] at this
  exact this
 ·intro k st _
  simp [QC.l3,QC.g3]
 ·intro k p m r st hx hm hI c0 c1 c2 cw g
  have hb := Vak hm
  have hp : p.length ≤ 1000000 := by omega
  have w1 := w64 (n := st + m.2.2) (by omega) (by omega)
  refine ⟨by unfold addZ; rw [List.length_append,List.length_singleton]; split <;> omega,?_⟩
  simp only [QC.l3,QC.g3,c0,c1,cw,and_self,and_true,true_and,decide_true,decide_false,if_true,if_false,Vd,Ve,Va,Vb,Vf,Option.bind_some,Bool.not_true,Bool.not_false,Bool.false_eq_true,Bool.true_eq_false,beq_self_eq_true,bne_self_eq_false,Int.toNat_natCast,g,Vax,w1]
  unfold addZ
  by_cases e : m.2.1 = z <;> by_cases q : m.1 ≤ t <;> simp [e,q]
theorem QbX (xs : List Mov) (z : ByteArray) {t : Int} (ht : 0 ≤ t ∧ t ≤ 1000000000) (h : ∀ m ∈ xs,movB m = true) (hl : xs.length ≤ 1000000) : Q5.f xs z t = some (clrB xs z t) := by
 have := V6 (E := fun m : Mov => movB m = true) (fun m => !nearB z t m) (fun v => some (decide (peopT xs z t = 0))) (fun k v i => Q5.l2 NN k xs z t v v.length i) ?_ ?_ xs h (by omega) NN (NN_lt (by omega))
 ·unfold Q5.f Q5.fn Q5.top clrB
  rw [this]
  cases xs.all (fun m => !nearB z t m) <;> rfl
 ·intro k p
  simp only [Q5.l2,Q5.g2,Int.lt_irrefl,and_self,and_true,true_and,decide_true,decide_false,if_true,if_false,Vd,Ve,Va,Vb,Vf,Option.bind_some,Bool.not_true,Bool.not_false,Bool.false_eq_true,Bool.true_eq_false,beq_self_eq_true,bne_self_eq_false,Int.toNat_natCast]
  rw [QbO xs z t h hl]
  rfl
 ·intro k p m r hm c0 c1 cw
  have hb := Vak hm
  have w1 := w64 (n := t - m.1) (by omega) (by omega)
  simp only [Q5.l2,Q5.g2,c0,c1,cw,and_self,and_true,true_and,decide_true,decide_false,if_true,if_false,Vd,Ve,Va,Vb,Vf,Option.bind_some,Bool.not_true,Bool.not_false,Bool.false_eq_true,Bool.true_eq_false,beq_self_eq_true,bne_self_eq_false,Int.toNat_natCast,w1,Vax,nearB]
  by_cases e : m.2.1 = z <;> by_cases q : m.1 ≤ t <;> by_cases q2 : t - m.1 < 30000 <;> simp [e,q,q2]
theorem Qbd (xs : List Mov) (zs : List ByteArray) {t : Int} (ht : 0 ≤ t ∧ t ≤ 1000000000) (h : ∀ m ∈ xs,movB m = true) (hl : xs.length ≤ 1000000) (hz : zs.length ≤ 1000000) : Qt.f xs zs t = some (zs.all (clrB xs · t)) := by
 have := V6 (E := fun _ : ByteArray => True) (clrB xs · t) (fun v => some true) (fun k v i => Qt.l2 NN k xs t v v.length i) ?_ ?_ zs (fun _ _ => trivial) (by omega) NN (NN_lt (by omega))
 ·unfold Qt.f Qt.fn Qt.top
  rw [this]
  cases zs.all (clrB xs · t) <;> rfl
 ·intro k p
  simp [Qt.l2,Qt.g2]
 ·intro k p z r _ c0 c1 cw
  simp only [Qt.l2,Qt.g2,c0,c1,cw,and_self,and_true,true_and,decide_true,decide_false,if_true,if_false,Vd,Ve,Va,Vb,Vf,Option.bind_some,Bool.not_true,Bool.not_false,Bool.false_eq_true,Bool.true_eq_false,beq_self_eq_true,bne_self_eq_false,Int.toNat_natCast]
  rw [QbX xs z ht h hl]
  cases clrB xs z t <;> rfl
theorem QbY (t : Int) : ∀ (r p : List Mov) (k : Nat),p.length + r.length ≤ 1000000 → r.length < k → Q1.l2 NN k (p ++ r) t p.length = some ((p.length + upN t r : Nat) : Int) := by
 intro r
 induction r with
 | nil =>
  intro p k _ hk
  obtain ⟨k,rfl⟩ : ∃ j,k = j + 1 := ⟨k - 1,by omega⟩
  simp [Q1.l2,Q1.g2,upN]
 | cons m r ih =>
  intro p k hl hk
  simp only [List.length_cons] at hl hk
  obtain ⟨k,rfl⟩ : ∃ j,k = j + 1 := ⟨k - 1,by omega⟩
  have hln := VD p r m
  have c0 : (0 : Int) ≤ (p.length : Int) := by omega
  have c1 : (p.length : Int) < ((p ++ m :: r).length : Int) := by omega
  have cw := w64 (n := (p.length : Int) + 1) (by omega) (by omega)
  have i := ih (p ++ [m]) k (by simp; omega) (by omega)
  rw [Vy,Vt] at i
  by_cases h : m.1 ≤ t
  ·simp only [Q1.l2,Q1.g2,c0,c1,cw,h,and_self,and_true,true_and,decide_true,decide_false,if_true,if_false,Vd,Ve,Va,Vb,Vf,Option.bind_some,Bool.not_true,Bool.not_false,Bool.false_eq_true,Bool.true_eq_false,beq_self_eq_true,bne_self_eq_false,Int.toNat_natCast,i,upN]
   congr 1
   simp only [List.length_append,List.length_singleton]; omega
  ·simp only [Q1.l2,Q1.g2,c0,c1,cw,h,and_self,and_true,true_and,decide_true,decide_false,if_true,if_false,Vd,Ve,Va,Vb,Vf,Option.bind_some,Bool.not_true,Bool.not_false,Bool.false_eq_true,Bool.true_eq_false,beq_self_eq_true,bne_self_eq_false,Int.toNat_natCast,upN]
   rfl
theorem QbZ (xs : List Mov) (t : Int) (hl : xs.length ≤ 1000000) : Q1.f xs t = some (upN t xs : Int) := by
 have := QbY t xs [] NN (by simpa using hl) (NN_lt (by omega))
 rw [List.nil_append] at this
 unfold Q1.f Q1.fn Q1.top
 refine this.trans ?_
 simp
theorem QbP (z : ByteArray) (t : Int) (ht : 0 ≤ t ∧ t ≤ 1000000000) (rest : List Mov) (n : Nat) (v : Int) : ∀ (r p : List Mov) (k : Nat),p.length + r.length = n → (∀ m ∈ r,movB m = true) → Qy.f (p ++ (r ++ rest)) z n = some v → n ≤ 1000000 → r.length < k → QQ.l3 NN k (p ++ (r ++ rest)) z t n p.length = if r.all (fun m => !(decide (m.2.1 = z) && decide (t < m.1 + 30000))) = true then some (decide (v = 0)) else some false := by
 intro r
 induction r with
 | nil =>
  intro p k hn _ hv _ hk
  obtain ⟨k,rfl⟩ : ∃ j,k = j + 1 := ⟨k - 1,by omega⟩
  have c1 : ¬ (p.length : Int) < (n : Int) := by simp at hn; omega
  rw [List.nil_append] at hv ⊢
  simp only [QQ.l3,QQ.g3,c1,and_self,and_true,true_and,decide_true,decide_false,if_true,if_false,Vd,Ve,Va,Vb,Vf,Option.bind_some,Bool.not_true,Bool.not_false,Bool.false_eq_true,Bool.true_eq_false,beq_self_eq_true,bne_self_eq_false,Int.toNat_natCast,hv,List.all_nil]
  rfl
 | cons m r ih =>
  intro p k hn hm hv hl hk
  simp only [List.length_cons] at hn hk
  obtain ⟨k,rfl⟩ : ∃ j,k = j + 1 := ⟨k - 1,by omega⟩
  rw [List.cons_append] at hv ⊢
  have hln := VD p (r ++ rest) m
  have hb := Vak (hm m (by simp))
  have c0 : (0 : Int) ≤ (p.length : Int) := by omega
  have c1 : (p.length : Int) < ((p ++ m :: (r ++ rest)).length : Int) := by omega
  have c2 : (p.length : Int) < (n : Int) := by omega
  have cw := w64 (n := (p.length : Int) + 1) (by omega) (by omega)
  have w1 := w64 (n := m.1 + 30000) (by omega) (by omega)
  have i := ih (p ++ [m]) k (by simp; omega) (fun x hx => hm x (by simp [hx])) (by rw [Vy]; exact hv) hl (by omega)
  rw [Vy,Vt] at i
  simp only [QQ.l3,QQ.g3,c0,c1,c2,cw,and_self,and_true,true_and,decide_true,decide_false,if_true,if_false,Vd,Ve,Va,Vb,Vf,Option.bind_some,Bool.not_true,Bool.not_false,Bool.false_eq_true,Bool.true_eq_false,beq_self_eq_true,bne_self_eq_false,Int.toNat_natCast,w1,Vax,List.all_cons]
  by_cases e : m.2.1 = z
  ·by_cases q : t < m.1 + 30000
   ·simp [e,q]
   ·simp only [e,q,and_self,and_true,true_and,decide_true,decide_false,if_true,if_false,Vd,Ve,Va,Vb,Vf,Option.bind_some,Bool.not_true,Bool.not_false,Bool.false_eq_true,Bool.true_eq_false,beq_self_eq_true,bne_self_eq_false,Int.toNat_natCast,Bool.and_false]
    exact i
  ·simp only [e,and_self,and_true,true_and,decide_true,decide_false,if_true,if_false,Vd,Ve,Va,Vb,Vf,Option.bind_some,Bool.not_true,Bool.not_false,Bool.false_eq_true,Bool.true_eq_false,beq_self_eq_true,bne_self_eq_false,Int.toNat_natCast,Bool.false_and]
   exact i
theorem QbQ (xs : List Mov) (z : ByteArray) {t : Int} (ht : 0 ≤ t ∧ t ≤ 1000000000) (hs : SrtM xs) (h : ∀ m ∈ xs,movB m = true) (hl : xs.length ≤ 1000000) : QQ.f xs z t = some (clrB xs z t) := by
 have hu := ViX t xs
 have hpl : (xs.take (upN t xs)).length = upN t xs := by rw [List.length_take]; omega
 have hin : ∀ m ∈ xs.take (upN t xs),movB m = true := fun m hm => h m (List.mem_of_mem_take hm)
 have hsp := Qa6 (xs.take (upN t xs)) (xs.drop (upN t xs)) z hin (by omega)
 rw [List.take_append_drop,hpl,← VhA hs] at hsp
 have := QbP z t ht (xs.drop (upN t xs)) (upN t xs) (peopT xs z t) (xs.take (upN t xs)) [] NN (by rw [hpl]; simp) hin (by rw [List.nil_append,List.take_append_drop]; exact hsp) (by omega) (NN_lt (by omega))
 rw [List.nil_append,List.take_append_drop] at this
 unfold QQ.f QQ.fn QQ.top clrB
 rw [QbZ xs t hl,Option.bind_some,Viq hs]
 refine this.trans ?_
 cases (xs.take (upN t xs)).all (fun m => !(decide (m.2.1 = z) && decide (t < m.1 + 30000))) <;> rfl
end Go.Pl

namespace Go.Pl
open Go.Ev
set_option linter.unusedVariables false
set_option linter.unusedSimpArgs false
end Go.Pl

namespace Go.Pl
open Go.Ev
set_option linter.unusedVariables false
noncomputable section
end
end Go.Pl

namespace Go.Pl
open Go.Ev
set_option linter.unusedVariables false
noncomputable section
end
end Go.Pl

namespace Go.Pl
open Go.Ev
set_option linter.unusedVariables false
set_option linter.unusedSimpArgs false
end Go.Pl

namespace Go.Pl
open Go.Ev
set_option linter.unusedVariables false
noncomputable section
def QaY.top (p : List YD) (m1 : Int × ByteArray × Int) : Option YAD :=
 (QG.f p).bind fun r1 =>
 if (!r1) = true then
 some ([],1)
 else if (((p.length : Int) : Int) == 40) = true then
 some ([],3)
 else if ([] : List YD).length + p.length < room 32 then
 if (([] : List YD) ++ p).length + ([m1]).length < room 32 then
 (QG.f ((([] : List YD) ++ p) ++ ([m1]))).bind fun r2 =>
 if (!r2) = true then
 some ([],5)
 else
 some ((([] : List YD) ++ p) ++ ([m1]),0)
 else
 none
 else
 none
def QaY.fn (n : Nat) (p : List YD) (m1 : Int × ByteArray × Int) : Option YAD := QaY.top p m1
def QaY.f (p : List YD) (m1 : Int × ByteArray × Int) : Option YAD := QaY.fn NN p m1
end
end Go.Pl

namespace Go.Pl
open Go.Ev
set_option linter.unusedVariables false
noncomputable section
end
end Go.Pl

namespace Go.Pl
open Go.Ev
set_option linter.unusedVariables false
noncomputable section
end
end Go.Pl

namespace Go.Pl
open Go.Ev
set_option linter.unusedVariables false
noncomputable section
end
end Go.Pl

namespace Go.Pl
open Go.Ev
set_option linter.unusedVariables false
noncomputable section
end
end Go.Pl

namespace Go.Pl
open Go.Ev
set_option linter.unusedVariables false
noncomputable section
end
end Go.Pl

namespace Go.Pl
open Go.Ev
set_option linter.unusedVariables false
noncomputable section
end
end Go.Pl

namespace Go.Pl
open Go.Ev
set_option linter.unusedVariables false
set_option linter.unusedSimpArgs false
theorem Vat {n : Nat} (h : n ≤ 2000000) : n < room 32 := by rw [Vaa]; omega
def amR (xs : List Mov) (m : Mov) : List Mov × Int := if VG xs = true then (if xs.length = 40 then ([],3) else if VG (xs ++ [m]) = true then (xs ++ [m],0) else ([],5)) else ([],1)
theorem Ve7 (xs : List Mov) (m : Mov) (h1 : xs.length ≤ 1000000) (h2 : ∀ m ∈ xs,Sz m.2.1) (h3 : Sz m.2.1) : Qah.f xs m = some (amR xs m) ∧ QaY.f xs m = some (amR xs m) := by
 have hz : ∀ y ∈ xs ++ [m],Sz y.2.1 := fun y hy => by
  rcases List.mem_append.1 hy with h | h
  ·exact h2 y h
  ·rw [List.mem_singleton.1 h]; exact h3
 unfold Qah.f Qah.fn Qah.top QaY.f QaY.fn QaY.top amR
 rw [Qa8 xs h1 h2,Qa2 xs h1 h2]
 cases hb : VG xs
 ·exact ⟨rfl,rfl⟩
 have hl := (V1 hb).1
 simp only [and_self,and_true,true_and,decide_true,decide_false,if_true,if_false,Vd,Ve,Va,Vb,Vf,Option.bind_some,Bool.not_true,Bool.not_false,Bool.false_eq_true,Bool.true_eq_false,beq_self_eq_true,bne_self_eq_false,Int.toNat_natCast]
 by_cases h40 : xs.length = 40
 ·have e : ((xs.length : Int) == 40) = true := by rw [h40]; rfl
  simp [e,h40]
 have e : ((xs.length : Int) == 40) = false := by simpa using (show ¬ (xs.length : Int) = 40 by omega)
 have r1 : ([] : List Mov).length + xs.length < room 32 := Vat (by simp; omega)
 have r2 : (([] : List Mov) ++ xs).length + [m].length < room 32 := Vat (by simp; omega)
 have r3 : (xs ++ [m]).length ≤ 1000000 := by simp; omega
 rw [List.nil_append] at r2
 simp only [List.nil_append,e,h40,r1,r2,and_self,and_true,true_and,decide_true,decide_false,if_true,if_false,Vd,Ve,Va,Vb,Vf,Option.bind_some,Bool.not_true,Bool.not_false,Bool.false_eq_true,Bool.true_eq_false,beq_self_eq_true,bne_self_eq_false,Int.toNat_natCast]
 rw [Qa8 _ r3 hz,Qa2 _ r3 hz]
 cases VG (xs ++ [m]) <;> exact ⟨rfl,rfl⟩
end Go.Pl

namespace Go.Pl
open Go.Ev
set_option linter.unusedVariables false
set_option linter.unusedSimpArgs false
def tkT (t : Int) : Int := Int.tdiv t 100
theorem Vcn {t : Int} (h : 0 ≤ t ∧ t ≤ 10000000) : 0 ≤ tkT t ∧ tkT t ≤ 100000 := by
 unfold tkT
 rw [Int.tdiv_eq_ediv_of_nonneg h.1]; omega
def firT (l : List Sig) (ms : List Mov) (zs : List ByteArray) (t : Int) : Int := if (mayC (ctlAt l (tkT t)) && zs.all (clrB ms · (tkT t * 100))) = true then tkT t else -1
def firF (l : List Sig) (ms : List Mov) (zs : List ByteArray) (T t : Int) : Int := if tkT t < T then firT l ms zs t else -1
abbrev LF := List Int → List Mov → List ByteArray → Int → List Int → List Sig → Int → Int → Ctl → List Int → Option (List Int)
theorem nn0 : 0 < NN := NN_lt (by omega)
theorem VfA (L10 : LF) (times : List Int) (ms : List Mov) (zs : List ByteArray) (last : Int) (o1 : List Int) (b1 : List Sig) (b2 b3 : Int) (b4 : Ctl) (b5 : List Int) (out : List Int) (T : Int) : ∀ (r p : List Sig) (c : Ctl) (ref : List Int) (k : Nat),p.length + r.length ≤ 1000000 → r.length < k → VE c → SrtF T r → (∀ m ∈ r,0 ≤ m.2 ∧ m.2 ≤ 9) → ref.length ≤ p.length →
    ∃ (p' r' : List Sig) (c' : Ctl) (ref' : List Int),p' ++ r' = p ++ r ∧ SrtF (T + 1) r' ∧ VE c' ∧ ref'.length ≤ p'.length ∧ (∀ t,T ≤ t → atR r' c' T t = atR r c T t) ∧ (∀ m ∈ r',0 ≤ m.2 ∧ m.2 ≤ 9) ∧
      Qc.l120000001 NN L10 k times ms zs last o1 b1 b2 b3 b4 b5 out (p ++ r) p.length T c ref = Qc.lk12 NN L10 NN times ms zs last out (p ++ r) p'.length T c' ref' := by
  intro r
  induction r with
  | nil =>
    intro p c ref k _ hk hc _ _ hr
    obtain ⟨k,rfl⟩ : ∃ j,k = j + 1 := ⟨k - 1,by omega⟩
    refine ⟨p,[],c,ref,rfl,trivial,hc,hr,fun _ _ => rfl,by simp,?_⟩
    simp only [List.append_nil,Qc.l120000001,Qc.g120000001,Int.lt_irrefl,and_self,and_true,true_and,decide_true,decide_false,if_true,if_false,Vd,Ve,Va,Vb,Vf,Option.bind_some,Bool.not_true,Bool.not_false,Bool.false_eq_true,Bool.true_eq_false,beq_self_eq_true,bne_self_eq_false,Int.toNat_natCast]
  | cons m r ih =>
    intro p c ref k hl hk hc hs hm hr
    simp only [List.length_cons] at hl hk
    obtain ⟨k,rfl⟩ : ∃ j,k = j + 1 := ⟨k - 1,by omega⟩
    have hln := VD p r m
    have c0 : (0 : Int) ≤ (p.length : Int) := by omega
    have c1 : (p.length : Int) < ((p ++ m :: r).length : Int) := by omega
    have cw := w64 (n := (p.length : Int) + 1) (by omega) (by omega)
    have hs1 := hs.1
    by_cases h : m.1 = T
    · have st : ∀ (c1 : Ctl) (ref1 : List Int),c1 = giveB c m.2 → ref1.length ≤ p.length + 1 → ∃ (p' r' : List Sig) (c' : Ctl) (ref' : List Int),p' ++ r' = p ++ m :: r ∧ SrtF (T + 1) r' ∧ VE c' ∧ ref'.length ≤ p'.length ∧ (∀ t,T ≤ t → atR r' c' T t = atR (m :: r) c T t) ∧ (∀ m ∈ r',0 ≤ m.2 ∧ m.2 ≤ 9) ∧
          Qc.l120000001 NN L10 k times ms zs last o1 b1 b2 b3 b4 b5 out (p ++ m :: r) ((p.length : Int) + 1) T c1 ref1 = Qc.lk12 NN L10 NN times ms zs last out (p ++ m :: r) p'.length T c' ref' := by
        intro c1 ref1 e1 hr1
        have i := ih (p ++ [m]) c1 ref1 k (by simp; omega) (by omega) (by rw [e1]; exact Vbx hc _) (by rw [← h]; exact hs.2) (fun x hx => hm x (by simp [hx])) (by simp; omega)
        rw [Vy,Vt] at i
        obtain ⟨p',r',c',ref',i1,i2,i3,i4,i5,i6,i7⟩ := i
        refine ⟨p',r',c',ref',i1,i2,i3,i4,fun t ht => ?_,i6,i7⟩
        rw [i5 t ht,e1,show m = (T,m.2) by rw [← h],Vc6 T m.2 r c ht]
      have hg := Qa0 c m.2 hc (hm m (by simp))
      have e0 : (m.1 == T) = true := by rw [h]; simp
      simp only [Qc.l120000001,Qc.g120000001,c0,c1,cw,e0,hg,and_self,and_true,true_and,decide_true,decide_false,if_true,if_false,Vd,Ve,Va,Vb,Vf,Option.bind_some,Bool.not_true,Bool.not_false,Bool.false_eq_true,Bool.true_eq_false,beq_self_eq_true,bne_self_eq_false,Int.toNat_natCast]
      cases hq : giveC c m.2 with
      | some y =>
        simp only [and_self,and_true,true_and,decide_true,decide_false,if_true,if_false,Vd,Ve,Va,Vb,Vf,Option.bind_some,Bool.not_true,Bool.not_false,Bool.false_eq_true,Bool.true_eq_false,beq_self_eq_true,bne_self_eq_false,Int.toNat_natCast]
        exact st y ref (by unfold giveB; rw [hq]; rfl) (by omega)
      | none =>
        have n5 : ((5 : Int) == 0) = false := rfl
        have hro : ref.length + [(p.length : Int)].length < room 8 := by rw [room8]; simp; omega
        simp only [n5,hro,and_self,and_true,true_and,decide_true,decide_false,if_true,if_false,Vd,Ve,Va,Vb,Vf,Option.bind_some,Bool.not_true,Bool.not_false,Bool.false_eq_true,Bool.true_eq_false,beq_self_eq_true,bne_self_eq_false,Int.toNat_natCast]
        exact st c (ref ++ [(p.length : Int)]) (by unfold giveB; rw [hq]; rfl) (by simp; omega)
    · have e0 : (m.1 == T) = false := by simpa using h
      refine ⟨p,m :: r,c,ref,rfl,⟨by omega,hs.2⟩,hc,hr,fun _ _ => rfl,hm,?_⟩
      simp only [Qc.l120000001,Qc.g120000001,c0,c1,e0,and_self,and_true,true_and,decide_true,decide_false,if_true,if_false,Vd,Ve,Va,Vb,Vf,Option.bind_some,Bool.not_true,Bool.not_false,Bool.false_eq_true,Bool.true_eq_false,beq_self_eq_true,bne_self_eq_false,Int.toNat_natCast]
theorem Vgb (L10 : LF) (l : List Sig) (ms : List Mov) (zs : List ByteArray) (hms : ∀ m ∈ ms,movB m = true) (hml : ms.length ≤ 1000000) (hzl : zs.length ≤ 1000000) (last : Int) (T : Int) (hT : 0 ≤ T ∧ T ≤ 1000000) (hmay : mayC (ctlAt l T) = true) (ls : List Sig) (nx : Int) (c : Ctl) (ref : List Int) : ∀ (r p : List Int) (k : Nat),p.length + r.length ≤ 1000000 → r.length < k → (∀ t ∈ r,0 ≤ t ∧ t ≤ 10000000) →
  Qc.l14 NN L10 k (p ++ r) ms zs last (p ++ r) (p ++ r).length p.length (p.map (firF l ms zs (T + 1)) ++ r.map (firF l ms zs T)) ls nx T c ref = Qc.lk19 NN L10 NN (p ++ r) ms zs last ((p ++ r).map (firF l ms zs (T + 1))) ls nx T c ref := by
 intro r
 induction r with
 | nil =>
  intro p k _ hk _
  obtain ⟨k,rfl⟩ : ∃ j,k = j + 1 := ⟨k - 1,by omega⟩
  simp only [List.append_nil,List.map_nil,Qc.l14,Qc.g14,Int.lt_irrefl,and_self,and_true,true_and,decide_true,decide_false,if_true,if_false,Vd,Ve,Va,Vb,Vf,Option.bind_some,Bool.not_true,Bool.not_false,Bool.false_eq_true,Bool.true_eq_false,beq_self_eq_true,bne_self_eq_false,Int.toNat_natCast]
 | cons t r ih =>
  intro p k hl hk ht
  simp only [List.length_cons] at hl hk
  obtain ⟨k,rfl⟩ : ∃ j,k = j + 1 := ⟨k - 1,by omega⟩
  have hln := VD p r t
  have htt := ht t (by simp)
  have hb := Vcn htt
  have c0 : (0 : Int) ≤ (p.length : Int) := by omega
  have c1 : (p.length : Int) < ((p ++ t :: r).length : Int) := by omega
  have cw := w64 (n := (p.length : Int) + 1) (by omega) (by omega)
  have w1 := w64 (n := Int.tdiv t 100) (by unfold tkT at hb; omega) (by unfold tkT at hb; omega)
  have w2 := w64 (n := T * 100) (by omega) (by omega)
  have i := ih (p ++ [t]) k (by simp; omega) (by omega) (fun x hx => ht x (by simp [hx]))
  rw [Vy,Vt] at i
  have cl : (p.length : Int) < ((p.map (firF l ms zs (T + 1)) ++ firF l ms zs T t :: r.map (firF l ms zs T)).length : Int) := by
   rw [VD,List.length_map]; omega
  have hpm : ((p.map (firF l ms zs (T + 1))).length : Int) = (p.length : Int) := by rw [List.length_map]
  rw [List.map_append,List.map_singleton,Vy] at i
  simp only [List.map_cons]
  by_cases h : tkT t = T
  ·have e0 : (Int.tdiv t 100 == T) = true := by unfold tkT at h; rw [h]; simp
   simp only [Qc.l14,Qc.g14,c0,c1,cw,w1,w2,e0,and_self,and_true,true_and,decide_true,decide_false,if_true,if_false,Vd,Ve,Va,Vb,Vf,Option.bind_some,Bool.not_true,Bool.not_false,Bool.false_eq_true,Bool.true_eq_false,beq_self_eq_true,bne_self_eq_false,Int.toNat_natCast]
   rw [Qbd ms zs (by omega) hms hml hzl,Option.bind_some]
   have eF : firF l ms zs (T + 1) t = if zs.all (clrB ms · (T * 100)) = true then T else -1 := by
    unfold firF firT
    rw [h,if_pos (by omega),hmay,Bool.true_and]
   have eN : firF l ms zs T t = -1 := by unfold firF; rw [if_neg (by omega)]
   rw [eF] at i
   by_cases ha : zs.all (clrB ms · (T * 100)) = true
   ·rw [if_pos ha] at i
    rw [if_pos ha,if_pos cl]
    have es : (p.map (firF l ms zs (T + 1)) ++ firF l ms zs T t :: r.map (firF l ms zs T)).set p.length T = p.map (firF l ms zs (T + 1)) ++ T :: r.map (firF l ms zs T) := by
     have := Vb (p.map (firF l ms zs (T + 1))) (r.map (firF l ms zs T)) (firF l ms zs T t) T
     rwa [List.length_map] at this
    rw [es]
    exact i
   ·rw [if_neg ha] at i
    rw [if_neg ha,eN]
    exact i
  ·have e0 : (Int.tdiv t 100 == T) = false := by unfold tkT at h; simpa using h
   have eF : firF l ms zs (T + 1) t = firF l ms zs T t := by
    unfold firF
    by_cases q : tkT t < T
    ·rw [if_pos q,if_pos (by omega)]
    ·rw [if_neg q,if_neg (by omega)]
   rw [eF] at i
   simp only [Qc.l14,Qc.g14,c0,c1,cw,w1,e0,and_self,and_true,true_and,decide_true,decide_false,if_true,if_false,Vd,Ve,Va,Vb,Vf,Option.bind_some,Bool.not_true,Bool.not_false,Bool.false_eq_true,Bool.true_eq_false,beq_self_eq_true,bne_self_eq_false,Int.toNat_natCast]
   exact i
theorem Vgc (l : List Sig) (ms : List Mov) (zs : List ByteArray) (hms : ∀ m ∈ ms,movB m = true) (hml : ms.length ≤ 1000000) (hzl : zs.length ≤ 1000000) (hll : l.length ≤ 1000000) (last : Int) (hlast : last ≤ 100000) (times : List Int) (htl : times.length ≤ 1000000) (ht : ∀ t ∈ times,(0 ≤ t ∧ t ≤ 10000000) ∧ tkT t ≤ last) : ∀ (n : Nat) (T : Int) (p r : List Sig) (c : Ctl) (ref : List Int) (k : Nat),0 ≤ T → T + n = last + 1 → n < k → l = p ++ r → SrtF T r → VE c → ref.length ≤ p.length → (∀ m ∈ r,0 ≤ m.2 ∧ m.2 ≤ 9) → (∀ t,T ≤ t → atR r c T t = ctlAt l t) →
  Qc.l10 NN k times ms zs last (times.map (firF l ms zs T)) l p.length T c ref = some (times.map (firT l ms zs)) := by
 intro n
 induction n with
 | zero =>
  intro T p r c ref k _ hT hk _ _ _ _ _ _
  obtain ⟨k,rfl⟩ : ∃ j,k = j + 1 := ⟨k - 1,by omega⟩
  have c1 : ¬ T ≤ last := by omega
  simp only [Qc.l10,Qc.g10,c1,and_self,and_true,true_and,decide_true,decide_false,if_true,if_false,Vd,Ve,Va,Vb,Vf,Option.bind_some,Bool.not_true,Bool.not_false,Bool.false_eq_true,Bool.true_eq_false,beq_self_eq_true,bne_self_eq_false,Int.toNat_natCast]
  congr 1
  refine List.map_congr_left fun t h => ?_
  have := (ht t h).2
  unfold firF
  rw [if_pos (by omega)]
 | succ n ih =>
  intro T p r c ref k h0 hT hk hl hs hc hr hm hat
  obtain ⟨k,rfl⟩ : ∃ j,k = j + 1 := ⟨k - 1,by omega⟩
  have c1 : T ≤ last := by omega
  have hll2 := hll
  rw [hl,List.length_append] at hll2
  simp only [Qc.l10,Qc.g10,c1,and_self,and_true,true_and,decide_true,decide_false,if_true,if_false,Vd,Ve,Va,Vb,Vf,Option.bind_some,Bool.not_true,Bool.not_false,Bool.false_eq_true,Bool.true_eq_false,beq_self_eq_true,bne_self_eq_false,Int.toNat_natCast]
  rw [Qc.ck11 nn0]
  unfold Qc.gk11
  obtain ⟨p',r',c',ref',b1,b2,b3,b4,b5,b6,b7⟩ := VfA (Qc.l10 NN k) times ms zs last (times.map (firF l ms zs T)) l p.length T c ref (times.map (firF l ms zs T)) T r p c ref NN hll2 (NN_lt (by omega)) hc hs hm hr
  rw [← hl] at b7 b1
  rw [b7,Qc.ck12 nn0]
  unfold Qc.gk12
  rw [Qbq,Option.bind_some]
  have hcT : c' = ctlAt l T := by
   rw [← hat T (Int.le_refl T),← b5 T (Int.le_refl T),VfN c' b2]
  have w1 := w64 (n := T + 1) (by omega) (by omega)
  have hend : Qc.lk19 NN (Qc.l10 NN k) NN times ms zs last (times.map (firF l ms zs (T + 1))) l p'.length T c' ref' = some (times.map (firT l ms zs)) := by
   rw [Qc.ck19 nn0]
   unfold Qc.gk19
   rw [Qa0 c' 8 b3 (by omega),VfL]
   simp only [Option.bind_some,w1]
   exact ih (T + 1) p' r' (tkC c') ref' k (by omega) (by omega) (by omega) b1.symm b2 (VcB b3) b4 b6 (fun t h => by rw [← Ve6 c' b2 h,b5 t (by omega),hat t (by omega)])
  by_cases hmay : mayC c' = true
  ·rw [if_pos hmay]
   have := Vgb (Qc.l10 NN k) l ms zs hms hml hzl last T (by omega) (by rw [← hcT]; exact hmay) l p'.length c' ref' times [] NN (by simpa using htl) (NN_lt (by omega)) (fun t h => (ht t h).1)
   rw [List.nil_append,List.map_nil,List.nil_append] at this
   refine Eq.trans this ?_
   exact hend
  ·rw [if_neg hmay]
   have e : times.map (firF l ms zs T) = times.map (firF l ms zs (T + 1)) := by
    refine List.map_congr_left fun t h => ?_
    unfold firF
    by_cases q : tkT t < T
    ·rw [if_pos q,if_pos (by omega)]
    ·rw [if_neg q]
     by_cases q2 : tkT t < T + 1
     ·have e3 : tkT t = T := by omega
      rw [if_pos q2]
      unfold firT
      rw [e3,← hcT]
      simp [hmay]
     ·rw [if_neg q2]
   rw [e]
   exact hend
theorem VfB (l : List Sig) (ms : List Mov) (zs : List ByteArray) : ∀ (r p : List Int) (last : Int) (k : Nat),p.length + r.length ≤ 1000000 → r.length < k → (∀ t ∈ p,(0 ≤ t ∧ t ≤ 10000000) ∧ tkT t ≤ last) → (∀ t ∈ r,0 ≤ t ∧ t ≤ 10000000) → 0 ≤ last → last ≤ 100000 →
  ∃ last',0 ≤ last' ∧ last' ≤ 100000 ∧ (∀ t ∈ p ++ r,(0 ≤ t ∧ t ≤ 10000000) ∧ tkT t ≤ last') ∧ Qc.l4 NN k (p ++ r) l ms zs last (p ++ r) (p ++ r).length p.length (p.map (fun _ => (-1 : Int)) ++ r.map (fun _ => (0 : Int))) = Qc.l10 NN NN (p ++ r) ms zs last' ((p ++ r).map (fun _ => (-1 : Int))) l 0 0 (false,false,false,false,false,0) [] := by
 intro r
 induction r with
 | nil =>
  intro p last k _ hk hp _ h0 h1
  obtain ⟨k,rfl⟩ : ∃ j,k = j + 1 := ⟨k - 1,by omega⟩
  refine ⟨last,h0,h1,by simpa using hp,?_⟩
  simp only [List.append_nil,List.map_nil,Qc.l4,Qc.g4,Int.lt_irrefl,and_self,and_true,true_and,decide_true,decide_false,if_true,if_false,Vd,Ve,Va,Vb,Vf,Option.bind_some,Bool.not_true,Bool.not_false,Bool.false_eq_true,Bool.true_eq_false,beq_self_eq_true,bne_self_eq_false,Int.toNat_natCast]
 | cons t r ih =>
  intro p last k hl hk hp hr h0 h1
  simp only [List.length_cons] at hl hk
  obtain ⟨k,rfl⟩ : ∃ j,k = j + 1 := ⟨k - 1,by omega⟩
  have hln := VD p r t
  have htt := hr t (by simp)
  have hb := Vcn htt
  have c0 : (0 : Int) ≤ (p.length : Int) := by omega
  have c1 : (p.length : Int) < ((p ++ t :: r).length : Int) := by omega
  have cw := w64 (n := (p.length : Int) + 1) (by omega) (by omega)
  have w1 := w64 (n := Int.tdiv t 100) (by unfold tkT at hb; omega) (by unfold tkT at hb; omega)
  have cl : (p.length : Int) < ((p.map (fun _ => (-1 : Int)) ++ (0 : Int) :: r.map (fun _ => (0 : Int))).length : Int) := by
   rw [VD,List.length_map]; omega
  have es : (p.map (fun _ => (-1 : Int)) ++ (0 : Int) :: r.map (fun _ => (0 : Int))).set p.length (-1) = p.map (fun _ => (-1 : Int)) ++ (-1 : Int) :: r.map (fun _ => (0 : Int)) := by
   have := Vb (p.map (fun _ => (-1 : Int))) (r.map (fun _ => (0 : Int))) (0 : Int) (-1)
   rwa [List.length_map] at this
  have i := ih (p ++ [t]) (if Int.tdiv t 100 > last then Int.tdiv t 100 else last) k (by simp; omega) (by omega) (fun x hx => by
   rcases List.mem_append.1 hx with h | h
   ·have := hp x h
    refine ⟨this.1,?_⟩
    split <;> omega
   ·rw [List.mem_singleton.1 h]
    refine ⟨htt,?_⟩
    unfold tkT
    split <;> omega) (fun x hx => hr x (by simp [hx])) (by unfold tkT at hb; split <;> omega) (by unfold tkT at hb; split <;> omega)
  rw [Vy,Vt,List.map_append,List.map_singleton,Vy] at i
  simp only [List.map_cons,Qc.l4,Qc.g4,c0,c1,cw,w1,cl,and_self,and_true,true_and,decide_true,decide_false,if_true,if_false,Vd,Ve,Va,Vb,Vf,Option.bind_some,Bool.not_true,Bool.not_false,Bool.false_eq_true,Bool.true_eq_false,beq_self_eq_true,bne_self_eq_false,Int.toNat_natCast,es]
  exact i
theorem QbE {l : List Sig} (hl : sigsB l = true) {ms : List Mov} (hm : VG ms = true) (zs : List ByteArray) (hz : zs.length ≤ 1000000) (times : List Int) (htl : times.length ≤ 1000000) (ht : ∀ t ∈ times,0 ≤ t ∧ t ≤ 10000000) : Qc.f times l ms zs = some (times.map (firT l ms zs)) := by
 obtain ⟨h1,h2,h3⟩ := Vcl hl
 obtain ⟨m1,m2,m3⟩ := V1 hm
 obtain ⟨last,l1,l2,l3,l4⟩ := VfB l ms zs times [] 0 NN (by simpa using htl) (NN_lt (by omega)) (by simp) ht (by omega) (by omega)
 rw [List.nil_append] at l3
 simp only [List.nil_append,List.map_nil,List.length_nil] at l4
 have hr : (times.length : Int) < room 8 := by rw [room8]; omega
 unfold Qc.f Qc.fn Qc.top
 rw [if_pos ⟨by omega,hr,rfl⟩,Int.toNat_natCast,← List.map_const']
 refine Eq.trans l4 ?_
 have := Vgc l ms zs m3 (by omega) hz (by omega) last l2 times htl l3 (last + 1).toNat 0 [] l (false,false,false,false,false,0) [] NN (by omega) (by omega) (NN_lt (by omega)) rfl h2 Vcm (by simp) (fun m h => (h3 m h).2.1) (fun t _ => rfl)
 refine Eq.trans ?_ this
 congr 1
 refine List.map_congr_left fun t h => ?_
 have := Vcn (ht t h)
 unfold firF
 rw [if_neg (by omega)]
end Go.Pl

namespace Go.Pl
open Go.Ev
set_option linter.unusedVariables false
noncomputable section
end
end Go.Pl

namespace Go.Pl
open Go.Ev
set_option linter.unusedVariables false
noncomputable section
end
end Go.Pl

namespace Go.Pl
open Go.Ev
set_option linter.unusedVariables false
noncomputable section
end
end Go.Pl

namespace Go.Pl
open Go.Ev
set_option linter.unusedVariables false
noncomputable section
end
end Go.Pl

namespace Go.Pl
open Go.Ev
set_option linter.unusedVariables false
set_option linter.unusedSimpArgs false
theorem QbI (xs : List Int) (lo hi : Int) (h : xs.length ≤ 140737488355328) : QH.f xs lo hi = some (xs.all (inB · lo hi)) := by
 have := V6 (E := fun _ => True) (inB · lo hi) (fun _ => some true) (fun k xs i => QH.l2 NN k lo hi xs xs.length i) ?_ ?_ xs (fun _ _ => trivial) h NN (NN_lt (by omega))
 ·unfold QH.f QH.fn QH.top
  refine this.trans ?_
  cases xs.all (inB · lo hi) <;> simp
 ·intro k p
  simp [QH.l2,QH.g2]
 ·intro k p a r _ c0 c1 cw
  simp only [QH.l2,QH.g2,c0,c1,cw,and_self,and_true,true_and,decide_true,decide_false,if_true,if_false,Vd,Ve,Va,Vb,Vf,Option.bind_some,Bool.not_true,Bool.not_false,Bool.false_eq_true,Bool.true_eq_false,beq_self_eq_true,bne_self_eq_false,Int.toNat_natCast,QaU]
  cases inB a lo hi <;> simp
def risB : List Int → Bool
 | [] => true
 | [_] => true
 | a :: b :: r => decide (a < b) && risB (b :: r)
def risF : Int → List Int → Bool
 | _,[] => true
 | a,b :: r => decide (a < b) && risF b r
theorem Veg (a : Int) (r : List Int) : risB (a :: r) = risF a r := by
 induction r generalizing a with
 | nil => rfl
 | cons b r ih => simp only [risB,risF,ih]
theorem VgO (p r : List Int) (x a z : Int) : (p ++ [x] ++ a :: r).getD p.length z = x := by simp
theorem Qby (n : Int) (hn : Rg .i64 (n - 1)) : ∀ (r p : List Int) (x : Int) (k : Nat),p.length + r.length + 1 ≤ 140737488355328 → r.length < k →
  QD.l2 NN k (p ++ [x] ++ r) n ((p.length : Int) + 1) = some (r.all (inB · 0 (n - 1)) && risF x r) := by
 intro r
 induction r with
 | nil =>
  intro p x k _ hk
  obtain ⟨k,rfl⟩ : ∃ j,k = j + 1 := ⟨k - 1,by omega⟩
  simp [QD.l2,QD.g2,risF]
 | cons a r ih =>
  intro p x k hb hk
  simp only [List.length_cons] at hb hk
  obtain ⟨k,rfl⟩ : ∃ j,k = j + 1 := ⟨k - 1,by omega⟩
  have hl : ((p ++ [x] ++ a :: r).length : Int) = p.length + r.length + 2 := by simp; omega
  have w1 := w64 (n := (p.length : Int) + 1 - 1) (by omega) (by omega)
  have w2 := w64 (n := (p.length : Int) + 1 + 1) (by omega) (by omega)
  have hn' := wf64.1 hn
  have w3 := w64 (n := n - 1) (by omega) (by omega)
  have c1 : (p.length : Int) + 1 < ((p ++ [x] ++ a :: r).length : Int) := by omega
  have c2 : (0 : Int) ≤ (p.length : Int) + 1 - 1 := by omega
  have c3 : (p.length : Int) + 1 - 1 < ((p ++ [x] ++ a :: r).length : Int) := by omega
  have c4 : (0 : Int) ≤ (p.length : Int) + 1 := by omega
  have c5 : (0 : Int) < (p.length : Int) + 1 := by omega
  have g1 : (p ++ [x] ++ a :: r).getD ((p.length : Int) + 1).toNat 0 = a := by
   rw [show ((p.length : Int) + 1).toNat = (p ++ [x]).length by simp,Va]
  have g2 : (p ++ [x] ++ a :: r).getD ((p.length : Int) + 1 - 1).toNat 0 = x := by
   rw [show ((p.length : Int) + 1 - 1).toNat = p.length by omega,VgO]
  simp only [QD.l2,QD.g2,w1,w2,w3,c1,c2,c3,c4,c5,g1,g2,and_self,decide_true,if_true,decide_eq_true_eq,risF,QaT,Option.bind_some,List.all_cons]
  have := ih (p ++ [x]) a k (by simp; omega) (by omega)
  cases h0 : inB a 0 (n - 1)
  ·simp
  by_cases h : a ≤ x
  ·have h' : ¬ x < a := by omega
   simp [h,h']
  ·have h' : x < a := by omega
   simp only [h,h',if_false,decide_true,Bool.true_and,Bool.not_true,if_true]
   rw [← this]
   simp
theorem QbR (xs : List Int) (n : Int) (hn : Rg .i64 (n - 1)) (h : xs.length ≤ 140737488355328) : QD.f xs n = some (xs.all (inB · 0 (n - 1)) && risB xs) := by
 unfold QD.f QD.fn QD.top
 obtain ⟨k,hk⟩ : ∃ j,NN = j + 1 := ⟨NN - 1,by have := NNb; omega⟩
 have hkb : 1000000000000000 < k := by rw [NN_eq] at hk; omega
 cases xs with
 | nil => rw [show QD.l2 NN NN = QD.l2 NN (k + 1) by rw [← hk]]; simp [QD.l2,QD.g2,risB]
 | cons a r =>
  simp only [List.length_cons] at h
  have hl := Qby n hn r [] a k (by simp; omega) (by omega)
  have hn' := wf64.1 hn
  have w3 := w64 (n := n - 1) (by omega) (by omega)
  have w1 := w64 (n := 0 + 1) (by omega) (by omega)
  have c1 : (0 : Int) < ((a :: r).length : Int) := by simp only [List.length_cons]; omega
  rw [show QD.l2 NN NN = QD.l2 NN (k + 1) by rw [← hk]]
  simp only [QD.l2,QD.g2,c1,w1,w3,QaT]
  simp at hl
  simp [Veg,hl]
  cases inB a 0 (n - 1) <;> simp
end Go.Pl

namespace Go.Pl
open Go.Ev
set_option linter.unusedVariables false
set_option linter.unusedSimpArgs false
theorem Qb4 (times : List Int) (l : List Sig) (ms : List Mov) (zs : List ByteArray) (L3 : List Int → List Sig → List Mov → List ByteArray → Int → List Int → Option (List Int)) (hs : SrtM ms) (hms : ∀ m ∈ ms,movB m = true) (hml : ms.length ≤ 1000000) (i T : Int) (hT : 0 ≤ T ∧ T ≤ 1000000) (out : List Int) (ho : out.length ≤ 1000000) : ∀ (r p : List ByteArray) (b : Bool) (k : Nat),zs = p ++ r → p.length + r.length ≤ 1000000 → r.length < k →
  Ql.l9 NN L3 k times l ms zs i T b p.length out = L3 times l ms zs (IntKind.i64.wrap (i + 1)) (out ++ [if (b && r.all (clrB ms · (T * 100))) = true then T else -1]) := by
 intro r
 induction r with
 | nil =>
  intro p b k hz hl hk
  obtain ⟨k,rfl⟩ : ∃ j,k = j + 1 := ⟨k - 1,by omega⟩
  rw [List.append_nil] at hz
  have c1 : ¬ (p.length : Int) < (zs.length : Int) := by rw [hz]; omega
  have h1 : ∀ x : Int,out.length + [x].length < room 8 := fun x => by rw [room8]; simp; omega
  simp only [Ql.l9,Ql.g9,c1,h1,and_self,and_true,true_and,decide_true,decide_false,if_true,if_false,Vd,Ve,Va,Vb,Vf,Option.bind_some,Bool.not_true,Bool.not_false,Bool.false_eq_true,Bool.true_eq_false,beq_self_eq_true,bne_self_eq_false,Int.toNat_natCast,List.all_nil,Bool.and_true]
  cases b <;> rfl
 | cons z r ih =>
  intro p b k hz hl hk
  simp only [List.length_cons] at hl hk
  obtain ⟨k,rfl⟩ : ∃ j,k = j + 1 := ⟨k - 1,by omega⟩
  have c0 : (0 : Int) ≤ (p.length : Int) := by omega
  have c1 : (p.length : Int) < (zs.length : Int) := by rw [hz]; simp; omega
  have cw := w64 (n := (p.length : Int) + 1) (by omega) (by omega)
  have w2 := w64 (n := T * 100) (by omega) (by omega)
  have g : ∀ w,zs.getD p.length w = z := fun w => by rw [hz]; exact Va p r z w
  have i1 := fun b => ih (p ++ [z]) b k (by rw [hz,Vy]) (by simp; omega) (by omega)
  simp only [Vt] at i1
  rw [List.all_cons]
  simp only [Ql.l9,Ql.g9,c0,c1,cw,w2,and_self,and_true,true_and,decide_true,decide_false,if_true,if_false,Vd,Ve,Va,Vb,Vf,Option.bind_some,Bool.not_true,Bool.not_false,Bool.false_eq_true,Bool.true_eq_false,beq_self_eq_true,bne_self_eq_false,Int.toNat_natCast,g]
  cases b
  ·simp only [and_self,and_true,true_and,decide_true,decide_false,if_true,if_false,Vd,Ve,Va,Vb,Vf,Option.bind_some,Bool.not_true,Bool.not_false,Bool.false_eq_true,Bool.true_eq_false,beq_self_eq_true,bne_self_eq_false,Int.toNat_natCast,Bool.false_and]
   have := i1 false
   simp only [Bool.false_and,Bool.false_eq_true,if_false] at this
   exact this
  ·simp only [and_self,and_true,true_and,decide_true,decide_false,if_true,if_false,Vd,Ve,Va,Vb,Vf,Option.bind_some,Bool.not_true,Bool.not_false,Bool.false_eq_true,Bool.true_eq_false,beq_self_eq_true,bne_self_eq_false,Int.toNat_natCast]
   rw [QbQ ms z (by omega) hs hms hml,Option.bind_some,i1,Bool.true_and]
theorem QbS {l : List Sig} (hl : sigsB l = true) {ms : List Mov} (hm : VG ms = true) (zs : List ByteArray) (hz : zs.length ≤ 1000000) (times : List Int) (htl : times.length ≤ 1000000) (ht : ∀ t ∈ times,0 ≤ t ∧ t ≤ 10000000) : Ql.f times l ms zs = some (times.map (firT l ms zs)) := by
 obtain ⟨m1,m2,m3⟩ := V1 hm
 have := (VU (E := fun t : Int => 0 ≤ t ∧ t ≤ 10000000) (fun p (st : List Int) => st = p.map (firT l ms zs)) (fun _ st t => st ++ [firT l ms zs t]) (fun st => some st) (fun k i st => Ql.l3 NN k times l ms zs i st) times ?_ ?_ [] ht rfl (by omega) NN (NN_lt (by omega)))
 ·unfold Ql.f Ql.fn Ql.top
  rw [this.2,this.1]
 ·intro k st _
  simp [Ql.l3,Ql.g3]
 ·intro k p t r st hx htt hI c0 c1 c2 cw g
  have hb := Vcn htt
  have hpl : p.length ≤ 1000000 := by rw [hx] at htl; simp at htl; omega
  have w1 := w64 (n := Int.tdiv t 100) (by unfold tkT at hb; omega) (by unfold tkT at hb; omega)
  refine ⟨by rw [hI]; simp,?_⟩
  obtain ⟨q,hq⟩ := Qbx hl (t := tkT t) (by omega)
  have hb' : 0 ≤ Int.tdiv t 100 ∧ Int.tdiv t 100 ≤ 100000 := hb
  have e1 : tkT t = Int.tdiv t 100 := rfl
  rw [e1] at hq
  simp only [Ql.l3,Ql.g3,c0,c1,and_self,and_true,true_and,decide_true,decide_false,if_true,if_false,Vd,Ve,Va,Vb,Vf,Option.bind_some,Bool.not_true,Bool.not_false,Bool.false_eq_true,Bool.true_eq_false,beq_self_eq_true,bne_self_eq_false,Int.toNat_natCast,g,w1,hq]
  have key := fun b => Qb4 times l ms zs (Ql.l3 NN k) m2 m3 (by omega) (p.length : Int) (Int.tdiv t 100) (by omega) st (by rw [hI,List.length_map]; omega) zs [] b NN rfl (by simpa using hz) (NN_lt (by omega))
  simp only [List.length_nil] at key
  have eF : firT l ms zs t = if (mayC (ctlAt l (Int.tdiv t 100)) && zs.all (clrB ms · (Int.tdiv t 100 * 100))) = true then Int.tdiv t 100 else -1 := rfl
  rw [eF]
  unfold mayC
  generalize ctlAt l (Int.tdiv t 100) = c at *
  obtain ⟨a,b,r2,e,s,d⟩ := c
  cases r2
  ·simp only [and_self,and_true,true_and,decide_true,decide_false,if_true,if_false,Vd,Ve,Va,Vb,Vf,Option.bind_some,Bool.not_true,Bool.not_false,Bool.false_eq_true,Bool.true_eq_false,beq_self_eq_true,bne_self_eq_false,Int.toNat_natCast,Bool.false_and]
   refine (key false).trans ?_
   rw [cw]
   simp
  ·simp only [and_self,and_true,true_and,decide_true,decide_false,if_true,if_false,Vd,Ve,Va,Vb,Vf,Option.bind_some,Bool.not_true,Bool.not_false,Bool.false_eq_true,Bool.true_eq_false,beq_self_eq_true,bne_self_eq_false,Int.toNat_natCast]
   refine (key (!e)).trans ?_
   rw [cw,Bool.true_and]
def VaL (zs : List ByteArray) : Bool := decide (zs.length ≤ 60) && zs.all wordB
theorem Qbl (zs : List ByteArray) (hl : zs.length ≤ 1000000) (hz : ∀ z ∈ zs,Sz z) : QJ.f zs = some (VaL zs) := by
 have := V6 (E := fun z : ByteArray => Sz z) wordB (fun v => some true) (fun k v i => QJ.l4 NN k v v.length i) ?_ ?_ zs hz (by omega) NN (NN_lt (by omega))
 ·unfold QJ.f QJ.fn QJ.top VaL
  by_cases h : (60 : Int) < (zs.length : Int)
  ·have : ¬ zs.length ≤ 60 := by omega
   simp [h,this]
  ·have h2 : zs.length ≤ 60 := by omega
   simp only [h,h2,and_self,and_true,true_and,decide_true,decide_false,if_true,if_false,Vd,Ve,Va,Vb,Vf,Option.bind_some,Bool.not_true,Bool.not_false,Bool.false_eq_true,Bool.true_eq_false,beq_self_eq_true,bne_self_eq_false,Int.toNat_natCast]
   rw [this]
   cases zs.all wordB <;> rfl
 ·intro k p
  simp [QJ.l4,QJ.g4]
 ·intro k p z r hz c0 c1 cw
  simp only [QJ.l4,QJ.g4,c0,c1,cw,and_self,and_true,true_and,decide_true,decide_false,if_true,if_false,Vd,Ve,Va,Vb,Vf,Option.bind_some,Bool.not_true,Bool.not_false,Bool.false_eq_true,Bool.true_eq_false,beq_self_eq_true,bne_self_eq_false,Int.toNat_natCast]
  rw [Qa3 z hz]
  cases wordB z <;> rfl
theorem Qb5 (zs : List ByteArray) (hl : zs.length ≤ 1000000) (hz : ∀ z ∈ zs,Sz z) : Qac.f zs = some (zs.all wordB) := by
 have := V6 (E := fun z : ByteArray => Sz z) wordB (fun v => some true) (fun k v i => Qac.l2 NN k v i) ?_ ?_ zs hz (by omega) NN (NN_lt (by omega))
 ·unfold Qac.f Qac.fn Qac.top
  rw [this]
  cases zs.all wordB <;> rfl
 ·intro k p
  simp [Qac.l2,Qac.g2]
 ·intro k p z r hz c0 c1 cw
  simp only [Qac.l2,Qac.g2,c0,c1,cw,and_self,and_true,true_and,decide_true,decide_false,if_true,if_false,Vd,Ve,Va,Vb,Vf,Option.bind_some,Bool.not_true,Bool.not_false,Bool.false_eq_true,Bool.true_eq_false,beq_self_eq_true,bne_self_eq_false,Int.toNat_natCast]
  rw [Qa4 z hz]
  cases wordB z <;> rfl
def firOk (times : List Int) (l : List Sig) (ms : List Mov) (zs : List ByteArray) : Bool := decide (times.length ≤ 20) && times.all (inB · 0 10000000) && sigsB l && VG ms && VaL zs
def firR (times : List Int) (l : List Sig) (ms : List Mov) (zs : List ByteArray) : List Int × Int := if firOk times l ms zs = true then (times.map (firT l ms zs),0) else ([],1)
theorem QbT (times : List Int) (l : List Sig) (ms : List Mov) (zs : List ByteArray) (h1 : times.length ≤ 1000000) (h2 : l.length ≤ 1000000) (h3 : ms.length ≤ 1000000) (h3z : ∀ m ∈ ms,Sz m.2.1) (h4 : zs.length ≤ 1000000) (h4z : ∀ z ∈ zs,Sz z) : QaH.f times l ms zs = some (firOk times l ms zs) := by
 unfold QaH.f QaH.fn QaH.top Qao.f Qao.fn Qao.top firOk
 rw [QbI times 0 10000000 (by omega),Qbg l h2,Qa2 ms h3 h3z,Qbl zs h4 h4z]
 have e : decide ((times.length : Int) ≤ 20) = decide (times.length ≤ 20) := by congr 1; exact propext (by omega)
 rw [e]
 cases decide (times.length ≤ 20) <;> cases times.all (inB · 0 10000000) <;> cases sigsB l <;> cases VG ms <;> cases VaL zs <;> rfl
theorem QbU (times : List Int) (l : List Sig) (ms : List Mov) (zs : List ByteArray) (h1 : times.length ≤ 1000000) (h2 : l.length ≤ 1000000) (h3 : ms.length ≤ 1000000) (h3z : ∀ m ∈ ms,Sz m.2.1) (h4 : zs.length ≤ 1000000) (h4z : ∀ z ∈ zs,Sz z) : QR.f times l ms zs = some (if firOk times l ms zs = true then 0 else 1) := by
 have key : ∀ (r p : List Int) (k : Nat),p.length + r.length ≤ 1000000 → r.length < k → QR.l2 NN k (p ++ r) l ms zs p.length = some (if (r.all (inB · 0 10000000) && (decide ((p ++ r).length ≤ 20) && sigsB l && VG ms && VaL zs)) = true then 0 else 1) := by
  intro r
  induction r with
  | nil =>
   intro p k _ hk
   obtain ⟨k,rfl⟩ : ∃ j,k = j + 1 := ⟨k - 1,by omega⟩
   simp only [List.append_nil,QR.l2,QR.g2,Int.lt_irrefl,and_self,and_true,true_and,decide_true,decide_false,if_true,if_false,Vd,Ve,Va,Vb,Vf,Option.bind_some,Bool.not_true,Bool.not_false,Bool.false_eq_true,Bool.true_eq_false,beq_self_eq_true,bne_self_eq_false,Int.toNat_natCast,List.all_nil,VaL]
   rw [Qbh l h2,Qa8 ms h3 h3z,Qb5 zs h4 h4z]
   have e : decide ((20 : Int) < (p.length : Int)) = !decide (p.length ≤ 20) := by rw [← decide_not]; congr 1; exact propext (by omega)
   have e2 : decide ((60 : Int) < (zs.length : Int)) = !decide (zs.length ≤ 60) := by rw [← decide_not]; congr 1; exact propext (by omega)
   rw [e,e2]
   cases decide (p.length ≤ 20) <;> cases sigsB l <;> cases VG ms <;> cases zs.all wordB <;> cases decide (zs.length ≤ 60) <;> rfl
  | cons t r ih =>
   intro p k hl hk
   simp only [List.length_cons] at hl hk
   obtain ⟨k,rfl⟩ : ∃ j,k = j + 1 := ⟨k - 1,by omega⟩
   have hln := VD p r t
   have c0 : (0 : Int) ≤ (p.length : Int) := by omega
   have c1 : (p.length : Int) < ((p ++ t :: r).length : Int) := by omega
   have cw := w64 (n := (p.length : Int) + 1) (by omega) (by omega)
   have i := ih (p ++ [t]) k (by simp; omega) (by omega)
   rw [Vy,Vt] at i
   rw [List.all_cons]
   simp only [QR.l2,QR.g2,c0,c1,cw,and_self,and_true,true_and,decide_true,decide_false,if_true,if_false,Vd,Ve,Va,Vb,Vf,Option.bind_some,Bool.not_true,Bool.not_false,Bool.false_eq_true,Bool.true_eq_false,beq_self_eq_true,bne_self_eq_false,Int.toNat_natCast,Qbi]
   cases inB t 0 10000000
   ·simp
   ·simp only [and_self,and_true,true_and,decide_true,decide_false,if_true,if_false,Vd,Ve,Va,Vb,Vf,Option.bind_some,Bool.not_true,Bool.not_false,Bool.false_eq_true,Bool.true_eq_false,beq_self_eq_true,bne_self_eq_false,Int.toNat_natCast]
    exact i
 have := key times [] NN (by simpa using h1) (NN_lt (by omega))
 rw [List.nil_append] at this
 unfold QR.f QR.fn QR.top
 refine Eq.trans this ?_
 have e : (times.all (inB · 0 10000000) && (decide (times.length ≤ 20) && sigsB l && VG ms && VaL zs)) = firOk times l ms zs := by
  unfold firOk
  cases decide (times.length ≤ 20) <;> cases times.all (inB · 0 10000000) <;> cases sigsB l <;> cases VG ms <;> cases VaL zs <;> rfl
 rw [e]
theorem Vc7 (times : List Int) (l : List Sig) (ms : List Mov) (zs : List ByteArray) (h1 : times.length ≤ 1000000) (h2 : l.length ≤ 1000000) (h3 : ms.length ≤ 1000000) (h3z : ∀ m ∈ ms,Sz m.2.1) (h4 : zs.length ≤ 1000000) (h4z : ∀ z ∈ zs,Sz z) : Qam.f times l ms zs = some (firR times l ms zs) ∧ Qan.f times l ms zs = some (firR times l ms zs) := by
 unfold Qam.f Qam.fn Qam.top Qan.f Qan.fn Qan.top firR
 rw [QbT times l ms zs h1 h2 h3 h3z h4 h4z,QbU times l ms zs h1 h2 h3 h3z h4 h4z]
 by_cases h : firOk times l ms zs = true
 ·have h' := h
  unfold firOk at h'
  simp only [Bool.and_eq_true,decide_eq_true_eq,List.all_eq_true,inB_iff] at h'
  rw [h]
  simp only [and_self,and_true,true_and,decide_true,decide_false,if_true,if_false,Vd,Ve,Va,Vb,Vf,Option.bind_some,Bool.not_true,Bool.not_false,Bool.false_eq_true,Bool.true_eq_false,beq_self_eq_true,bne_self_eq_false,Int.toNat_natCast]
  rw [QbE h'.1.1.2 h'.1.2 zs h4 times h1 (fun t ht => h'.1.1.1.2 t ht),QbS h'.1.1.2 h'.1.2 zs h4 times h1 (fun t ht => h'.1.1.1.2 t ht)]
  exact ⟨rfl,rfl⟩
 ·have h' : firOk times l ms zs = false := by simpa using h
  rw [h']
  exact ⟨rfl,rfl⟩
end Go.Pl

namespace Go.Pl
open Go.Ev
set_option linter.unusedVariables false
noncomputable section
def QaZ.top (p : List YC) (q : Int) : Option Int :=
 (Qz.f p).bind fun r1 =>
 if (!r1) = true then
 some 1
 else
 (Qae.f q 0 100000).bind fun r2 =>
 if (!r2) = true then
 some 2
 else
 some 0
def QaZ.fn (n : Nat) (p : List YC) (q : Int) : Option Int := QaZ.top p q
def QaZ.f (p : List YC) (q : Int) : Option Int := QaZ.fn NN p q
end
end Go.Pl

namespace Go.Pl
open Go.Ev
set_option linter.unusedVariables false
noncomputable section
def QaV.top (p : List YC) (q : Int) : Option YW :=
 (QaZ.f p q).bind fun r1 =>
 if ((r1 : Int) != 0) = true then
 some ((false,(false,(false,(false,(false,0))))),r1)
 else
 (QN.f p q).bind fun r2 =>
 some ((r2.1.1,(r2.1.2.1,(r2.1.2.2.1,(r2.1.2.2.2.1,(r2.1.2.2.2.2.1,r2.1.2.2.2.2.2))))),0)
def QaV.fn (n : Nat) (p : List YC) (q : Int) : Option YW := QaV.top p q
def QaV.f (p : List YC) (q : Int) : Option YW := QaV.fn NN p q
end
end Go.Pl

namespace Go.Pl
open Go.Ev
set_option linter.unusedVariables false
set_option linter.unusedSimpArgs false
abbrev LC := Int → Bool → Bool → Bool → Bool → Bool → Int → List Sig → Int → Int → Ctl → List Int → Option (Ctl × Int)
theorem Vir (L7 : LC) (tick : Int) (v1 v2 v3 v4 v5 : Bool) (v6 : Int) (b1 : List Sig) (b2 b3 : Int) (b4 : Ctl) (b5 : List Int) (u1 u2 u3 u4 u5 : Bool) (u6 : Int) (T : Int) : ∀ (r p : List Sig) (c : Ctl) (ref : List Int) (k : Nat),p.length + r.length ≤ 1000000 → r.length < k → VE c → SrtF T r → (∀ m ∈ r,0 ≤ m.2 ∧ m.2 ≤ 9) → ref.length ≤ p.length →
    ∃ (p' r' : List Sig) (c' : Ctl) (ref' : List Int),p' ++ r' = p ++ r ∧ SrtF (T + 1) r' ∧ VE c' ∧ ref'.length ≤ p'.length ∧ (∀ t,T ≤ t → atR r' c' T t = atR r c T t) ∧ (∀ m ∈ r',0 ≤ m.2 ∧ m.2 ≤ 9) ∧
      Qb.lk0001 NN L7 k tick v1 v2 v3 v4 v5 v6 b1 b2 b3 b4 b5 u1 u2 u3 u4 u5 u6 (p ++ r) p.length T c ref = L7 tick u1 u2 u3 u4 u5 u6 (p ++ r) p'.length T c' ref' := by
  intro r
  induction r with
  | nil =>
    intro p c ref k _ hk hc _ _ hr
    obtain ⟨k,rfl⟩ : ∃ j,k = j + 1 := ⟨k - 1,by omega⟩
    refine ⟨p,[],c,ref,rfl,trivial,hc,hr,fun _ _ => rfl,by simp,?_⟩
    simp only [List.append_nil,Qb.lk0001,Qb.gk0001,Int.lt_irrefl,and_self,and_true,true_and,decide_true,decide_false,if_true,if_false,Vd,Ve,Va,Vb,Vf,Option.bind_some,Bool.not_true,Bool.not_false,Bool.false_eq_true,Bool.true_eq_false,beq_self_eq_true,bne_self_eq_false,Int.toNat_natCast]
  | cons m r ih =>
    intro p c ref k hl hk hc hs hm hr
    simp only [List.length_cons] at hl hk
    obtain ⟨k,rfl⟩ : ∃ j,k = j + 1 := ⟨k - 1,by omega⟩
    have hln := VD p r m
    have c0 : (0 : Int) ≤ (p.length : Int) := by omega
    have c1 : (p.length : Int) < ((p ++ m :: r).length : Int) := by omega
    have cw := w64 (n := (p.length : Int) + 1) (by omega) (by omega)
    have hs1 := hs.1
    by_cases h : m.1 = T
    · have st : ∀ (c1 : Ctl) (ref1 : List Int),c1 = giveB c m.2 → ref1.length ≤ p.length + 1 → ∃ (p' r' : List Sig) (c' : Ctl) (ref' : List Int),p' ++ r' = p ++ m :: r ∧ SrtF (T + 1) r' ∧ VE c' ∧ ref'.length ≤ p'.length ∧ (∀ t,T ≤ t → atR r' c' T t = atR (m :: r) c T t) ∧ (∀ m ∈ r',0 ≤ m.2 ∧ m.2 ≤ 9) ∧
          Qb.lk0001 NN L7 k tick v1 v2 v3 v4 v5 v6 b1 b2 b3 b4 b5 u1 u2 u3 u4 u5 u6 (p ++ m :: r) ((p.length : Int) + 1) T c1 ref1 = L7 tick u1 u2 u3 u4 u5 u6 (p ++ m :: r) p'.length T c' ref' := by
        intro c1 ref1 e1 hr1
        have i := ih (p ++ [m]) c1 ref1 k (by simp; omega) (by omega) (by rw [e1]; exact Vbx hc _) (by rw [← h]; exact hs.2) (fun x hx => hm x (by simp [hx])) (by simp; omega)
        rw [Vy,Vt] at i
        obtain ⟨p',r',c',ref',i1,i2,i3,i4,i5,i6,i7⟩ := i
        refine ⟨p',r',c',ref',i1,i2,i3,i4,fun t ht => ?_,i6,i7⟩
        rw [i5 t ht,e1,show m = (T,m.2) by rw [← h],Vc6 T m.2 r c ht]
      have hg := Qa0 c m.2 hc (hm m (by simp))
      have e0 : (m.1 == T) = true := by rw [h]; simp
      simp only [Qb.lk0001,Qb.gk0001,c0,c1,cw,e0,hg,and_self,and_true,true_and,decide_true,decide_false,if_true,if_false,Vd,Ve,Va,Vb,Vf,Option.bind_some,Bool.not_true,Bool.not_false,Bool.false_eq_true,Bool.true_eq_false,beq_self_eq_true,bne_self_eq_false,Int.toNat_natCast]
      cases hq : giveC c m.2 with
      | some y =>
        simp only [and_self,and_true,true_and,decide_true,decide_false,if_true,if_false,Vd,Ve,Va,Vb,Vf,Option.bind_some,Bool.not_true,Bool.not_false,Bool.false_eq_true,Bool.true_eq_false,beq_self_eq_true,bne_self_eq_false,Int.toNat_natCast]
        exact st y ref (by unfold giveB; rw [hq]; rfl) (by omega)
      | none =>
        have n5 : ((5 : Int) == 0) = false := rfl
        have hro : ref.length + [(p.length : Int)].length < room 8 := by rw [room8]; simp; omega
        simp only [n5,hro,and_self,and_true,true_and,decide_true,decide_false,if_true,if_false,Vd,Ve,Va,Vb,Vf,Option.bind_some,Bool.not_true,Bool.not_false,Bool.false_eq_true,Bool.true_eq_false,beq_self_eq_true,bne_self_eq_false,Int.toNat_natCast]
        exact st c (ref ++ [(p.length : Int)]) (by unfold giveB; rw [hq]; rfl) (by simp; omega)
    · have e0 : (m.1 == T) = false := by simpa using h
      refine ⟨p,m :: r,c,ref,rfl,⟨by omega,hs.2⟩,hc,hr,fun _ _ => rfl,hm,?_⟩
      simp only [Qb.lk0001,Qb.gk0001,c0,c1,e0,and_self,and_true,true_and,decide_true,decide_false,if_true,if_false,Vd,Ve,Va,Vb,Vf,Option.bind_some,Bool.not_true,Bool.not_false,Bool.false_eq_true,Bool.true_eq_false,beq_self_eq_true,bne_self_eq_false,Int.toNat_natCast]
theorem Vis (tick : Int) (v1 v2 v3 v4 v5 : Bool) (v6 : Int) (b1 : List Sig) (b2 b3 : Int) (x1 x2 x3 x4 x5 : Bool) (x6 : Int) (b5 : List Int) (u1 u2 u3 u4 u5 : Bool) (u6 : Int) (T : Int) : ∀ (r p : List Sig) (c : Ctl) (ref : List Int) (k : Nat),p.length + r.length ≤ 1000000 → r.length < k → VE c → SrtF T r → (∀ m ∈ r,0 ≤ m.2 ∧ m.2 ≤ 9) → ref.length ≤ p.length →
    ∃ (p' r' : List Sig) (c' : Ctl) (ref' : List Int),p' ++ r' = p ++ r ∧ SrtF (T + 1) r' ∧ VE c' ∧ ref'.length ≤ p'.length ∧ (∀ t,T ≤ t → atR r' c' T t = atR r c T t) ∧ (∀ m ∈ r',0 ≤ m.2 ∧ m.2 ≤ 9) ∧
      Qb.l70000001 NN k tick v1 v2 v3 v4 v5 v6 b1 b2 b3 x1 x2 x3 x4 x5 x6 b5 u1 u2 u3 u4 u5 u6 (p ++ r) p.length T c ref = Qb.lk07 NN NN tick u1 u2 u3 u4 u5 u6 (p ++ r) p'.length T c' ref' := by
  intro r
  induction r with
  | nil =>
    intro p c ref k _ hk hc _ _ hr
    obtain ⟨k,rfl⟩ : ∃ j,k = j + 1 := ⟨k - 1,by omega⟩
    refine ⟨p,[],c,ref,rfl,trivial,hc,hr,fun _ _ => rfl,by simp,?_⟩
    simp only [List.append_nil,Qb.l70000001,Qb.g70000001,Int.lt_irrefl,and_self,and_true,true_and,decide_true,decide_false,if_true,if_false,Vd,Ve,Va,Vb,Vf,Option.bind_some,Bool.not_true,Bool.not_false,Bool.false_eq_true,Bool.true_eq_false,beq_self_eq_true,bne_self_eq_false,Int.toNat_natCast]
  | cons m r ih =>
    intro p c ref k hl hk hc hs hm hr
    simp only [List.length_cons] at hl hk
    obtain ⟨k,rfl⟩ : ∃ j,k = j + 1 := ⟨k - 1,by omega⟩
    have hln := VD p r m
    have c0 : (0 : Int) ≤ (p.length : Int) := by omega
    have c1 : (p.length : Int) < ((p ++ m :: r).length : Int) := by omega
    have cw := w64 (n := (p.length : Int) + 1) (by omega) (by omega)
    have hs1 := hs.1
    by_cases h : m.1 = T
    · have st : ∀ (c1 : Ctl) (ref1 : List Int),c1 = giveB c m.2 → ref1.length ≤ p.length + 1 → ∃ (p' r' : List Sig) (c' : Ctl) (ref' : List Int),p' ++ r' = p ++ m :: r ∧ SrtF (T + 1) r' ∧ VE c' ∧ ref'.length ≤ p'.length ∧ (∀ t,T ≤ t → atR r' c' T t = atR (m :: r) c T t) ∧ (∀ m ∈ r',0 ≤ m.2 ∧ m.2 ≤ 9) ∧
          Qb.l70000001 NN k tick v1 v2 v3 v4 v5 v6 b1 b2 b3 x1 x2 x3 x4 x5 x6 b5 u1 u2 u3 u4 u5 u6 (p ++ m :: r) ((p.length : Int) + 1) T c1 ref1 = Qb.lk07 NN NN tick u1 u2 u3 u4 u5 u6 (p ++ m :: r) p'.length T c' ref' := by
        intro c1 ref1 e1 hr1
        have i := ih (p ++ [m]) c1 ref1 k (by simp; omega) (by omega) (by rw [e1]; exact Vbx hc _) (by rw [← h]; exact hs.2) (fun x hx => hm x (by simp [hx])) (by simp; omega)
        rw [Vy,Vt] at i
        obtain ⟨p',r',c',ref',i1,i2,i3,i4,i5,i6,i7⟩ := i
        refine ⟨p',r',c',ref',i1,i2,i3,i4,fun t ht => ?_,i6,i7⟩
        rw [i5 t ht,e1,show m = (T,m.2) by rw [← h],Vc6 T m.2 r c ht]
      have hg := Qa0 c m.2 hc (hm m (by simp))
      have e0 : (m.1 == T) = true := by rw [h]; simp
      simp only [Qb.l70000001,Qb.g70000001,c0,c1,cw,e0,hg,and_self,and_true,true_and,decide_true,decide_false,if_true,if_false,Vd,Ve,Va,Vb,Vf,Option.bind_some,Bool.not_true,Bool.not_false,Bool.false_eq_true,Bool.true_eq_false,beq_self_eq_true,bne_self_eq_false,Int.toNat_natCast]
      cases hq : giveC c m.2 with
      | some y =>
        simp only [and_self,and_true,true_and,decide_true,decide_false,if_true,if_false,Vd,Ve,Va,Vb,Vf,Option.bind_some,Bool.not_true,Bool.not_false,Bool.false_eq_true,Bool.true_eq_false,beq_self_eq_true,bne_self_eq_false,Int.toNat_natCast]
        exact st y ref (by unfold giveB; rw [hq]; rfl) (by omega)
      | none =>
        have n5 : ((5 : Int) == 0) = false := rfl
        have hro : ref.length + [(p.length : Int)].length < room 8 := by rw [room8]; simp; omega
        simp only [n5,hro,and_self,and_true,true_and,decide_true,decide_false,if_true,if_false,Vd,Ve,Va,Vb,Vf,Option.bind_some,Bool.not_true,Bool.not_false,Bool.false_eq_true,Bool.true_eq_false,beq_self_eq_true,bne_self_eq_false,Int.toNat_natCast]
        exact st c (ref ++ [(p.length : Int)]) (by unfold giveB; rw [hq]; rfl) (by simp; omega)
    · have e0 : (m.1 == T) = false := by simpa using h
      refine ⟨p,m :: r,c,ref,rfl,⟨by omega,hs.2⟩,hc,hr,fun _ _ => rfl,hm,?_⟩
      simp only [Qb.l70000001,Qb.g70000001,c0,c1,e0,and_self,and_true,true_and,decide_true,decide_false,if_true,if_false,Vd,Ve,Va,Vb,Vf,Option.bind_some,Bool.not_true,Bool.not_false,Bool.false_eq_true,Bool.true_eq_false,beq_self_eq_true,bne_self_eq_false,Int.toNat_natCast]
theorem Vit (l : List Sig) (hll : l.length ≤ 1000000) (tick : Int) (ht : tick ≤ 1000000) (v1 v2 v3 v4 v5 : Bool) (v6 : Int) : ∀ (n : Nat) (T : Int) (p r : List Sig) (c : Ctl) (ref : List Int) (k : Nat),0 ≤ T → T + n = tick → n < k → l = p ++ r → SrtF (T + 1) r → VE c → ref.length ≤ p.length → (∀ m ∈ r,0 ≤ m.2 ∧ m.2 ≤ 9) → (∀ t,T ≤ t → atR r c T t = ctlAt l t) →
  Qb.l7 NN k tick v1 v2 v3 v4 v5 v6 l p.length T c ref = some (ctlAt l tick,0) := by
 intro n
 induction n with
 | zero =>
  intro T p r c ref k _ hT hk _ hs _ _ _ hat
  obtain ⟨k,rfl⟩ : ∃ j,k = j + 1 := ⟨k - 1,by omega⟩
  have c1 : ¬ T < tick := by omega
  have hTt : T = tick := by omega
  simp only [Qb.l7,Qb.g7,c1,and_self,and_true,true_and,decide_true,decide_false,if_true,if_false,Vd,Ve,Va,Vb,Vf,Option.bind_some,Bool.not_true,Bool.not_false,Bool.false_eq_true,Bool.true_eq_false,beq_self_eq_true,bne_self_eq_false,Int.toNat_natCast]
  rw [← hTt,← hat T (Int.le_refl T),VfN c hs]
 | succ n ih =>
  intro T p r c ref k h0 hT hk hl hs hc hr hm hat
  obtain ⟨k,rfl⟩ : ∃ j,k = j + 1 := ⟨k - 1,by omega⟩
  have c1 : T < tick := by omega
  have hll2 := hll
  rw [hl,List.length_append] at hll2
  have w1 := w64 (n := T + 1) (by omega) (by omega)
  simp only [Qb.l7,Qb.g7,c1,and_self,and_true,true_and,decide_true,decide_false,if_true,if_false,Vd,Ve,Va,Vb,Vf,Option.bind_some,Bool.not_true,Bool.not_false,Bool.false_eq_true,Bool.true_eq_false,beq_self_eq_true,bne_self_eq_false,Int.toNat_natCast]
  rw [Qb.ck08 nn0]
  unfold Qb.gk08
  rw [Qa0 c 8 hc (by omega),VfL]
  simp only [Option.bind_some,w1]
  rw [Qb.ck09 nn0]
  unfold Qb.gk09
  obtain ⟨p',r',c',ref',b1,b2,b3,b4,b5,b6,b7⟩ := Vir (Qb.l7 NN k) tick v1 v2 v3 v4 v5 v6 l p.length (T + 1) (tkC c) ref v1 v2 v3 v4 v5 v6 (T + 1) r p (tkC c) ref NN hll2 (NN_lt (by omega)) (VcB hc) hs hm hr
  rw [← hl] at b7 b1
  refine Eq.trans b7 ?_
  exact ih (T + 1) p' r' c' ref' k (by omega) (by omega) (by omega) b1.symm b2 b3 b4 b6 (fun t h => by rw [b5 t h,← Ve6 c hs h,hat t (by omega)])
def caR (l : List Sig) (tick : Int) : Ctl × Int := if sigsB l = true then (if inB tick 0 100000 = true then (ctlAt l tick,0) else ((false,false,false,false,false,0),2)) else ((false,false,false,false,false,0),1)
theorem VcI (l : List Sig) (tick : Int) (hl : l.length ≤ 1000000) : QaV.f l tick = some (caR l tick) ∧ Qb.f l tick = some (caR l tick) := by
 unfold QaV.f QaV.fn QaV.top QaZ.f QaZ.fn QaZ.top Qb.f Qb.fn Qb.top caR
 rw [Qbh l hl,Qbg l hl,QaT,Qbv]
 cases hb : sigsB l
 ·exact ⟨rfl,rfl⟩
 cases ht : inB tick 0 100000
 ·exact ⟨rfl,rfl⟩
 have ht' := inB_iff.1 ht
 obtain ⟨h1,h2,h3⟩ := Vcl hb
 have e : ((0 : Int) != 0) = false := rfl
 refine ⟨?_,?_⟩
 ·obtain ⟨q,hq⟩ := Qbx hb (t := tick) (by omega)
  simp only [e,and_self,and_true,true_and,decide_true,decide_false,if_true,if_false,Vd,Ve,Va,Vb,Vf,Option.bind_some,Bool.not_true,Bool.not_false,Bool.false_eq_true,Bool.true_eq_false,beq_self_eq_true,bne_self_eq_false,Int.toNat_natCast,hq]
 ·simp only [and_self,and_true,true_and,decide_true,decide_false,if_true,if_false,Vd,Ve,Va,Vb,Vf,Option.bind_some,Bool.not_true,Bool.not_false,Bool.false_eq_true,Bool.true_eq_false,beq_self_eq_true,bne_self_eq_false,Int.toNat_natCast]
  rw [Qb.ck06 nn0]
  unfold Qb.gk06
  obtain ⟨p',r',c',ref',b1,b2,b3,b4,b5,b6,b7⟩ := Vis tick false false false false false 0 l 0 0 false false false false false 0 [] false false false false false 0 0 l [] (false,false,false,false,false,0) [] NN (by simpa using hl) (NN_lt (by omega)) Vcm h2 (fun m h => (h3 m h).2.1) (by simp)
  rw [List.nil_append] at b7 b1
  refine Eq.trans b7 ?_
  rw [Qb.ck07 nn0]
  unfold Qb.gk07
  exact Vit l hl tick (by omega) _ _ _ _ _ _ tick.toNat 0 p' r' c' ref' NN (by omega) (by omega) (NN_lt (by omega)) b1.symm b2 b3 b4 b6 (fun t h => b5 t h)
end Go.Pl

namespace Go.Pl
open Go.Ev
set_option linter.unusedVariables false
noncomputable section
end
end Go.Pl

namespace Go.Pl
open Go.Ev
set_option linter.unusedVariables false
set_option linter.unusedSimpArgs false
theorem Vbh {α : Type} {Q : α → Prop} {xs : List α} {b : α} (h : Lm Q xs) (hb : Q b) (hl : xs.length < 1000000) : Lm Q (xs ++ [b]) :=
 ⟨by simp; omega,fun x hx => by
  rcases List.mem_append.1 hx with h1 | h1
  ·exact h.2 x h1
  ·rw [List.mem_singleton.1 h1]; exact hb⟩
def bookR (xs : List (Int × ByteArray × Int)) (b : Int × ByteArray × Int) : List (Int × ByteArray × Int) × Int :=
 if VB xs = true then (if xs.length = 60 then ([],3) else if VB (xs ++ [b]) = true then (xs ++ [b],0) else ([],5)) else ([],1)
theorem QbF (xs : List (Int × ByteArray × Int)) (b : Int × ByteArray × Int) (h : Lm VI xs) (hb : VI b) : QB.f xs b = some (bookR xs b) := by
 unfold QB.f QB.fn QB.top bookR
 rw [Qbc xs h]
 cases hx : VB xs
 ·rfl
 have hv := V7 hx
 simp only [and_self,and_true,true_and,decide_true,decide_false,if_true,if_false,Vd,Ve,Va,Vb,Vf,Option.bind_some,Bool.not_true,Bool.not_false,Bool.false_eq_true,Bool.true_eq_false,beq_self_eq_true,bne_self_eq_false,Int.toNat_natCast]
 by_cases h60 : xs.length = 60
 ·simp [h60]
 ·have e1 : ((xs.length : Int) == 60) = false := by rw [beq_eq_false_iff_ne]; omega
  have e2 : ([] : List (Int × ByteArray × Int)).length + xs.length < room 32 := by rw [Vaa]; simp; omega
  have e3 : (([] : List (Int × ByteArray × Int)) ++ xs).length + [b].length < room 32 := by rw [Vaa]; simp; omega
  simp only [e1,e2,e3,h60,and_self,and_true,true_and,decide_true,decide_false,if_true,if_false,Vd,Ve,Va,Vb,Vf,Option.bind_some,Bool.not_true,Bool.not_false,Bool.false_eq_true,Bool.true_eq_false,beq_self_eq_true,bne_self_eq_false,Int.toNat_natCast]
  rw [List.nil_append,Qbc (xs ++ [b]) (Vbh h hb (by omega))]
  cases VB (xs ++ [b]) <;> rfl
theorem VhC (xs : List (Int × ByteArray × Int)) (b : Int × ByteArray × Int) (h : Lm VI xs) (hb : VI b) : Lm VI (bookR xs b).1 := by
 unfold bookR
 split
 ·rename_i hx
  have hv := V7 hx
  split
  ·exact ⟨by simp,by simp⟩
  ·split
   ·exact Vbh h hb (by omega)
   ·exact ⟨by simp,by simp⟩
 ·exact ⟨by simp,by simp⟩
end Go.Pl

namespace Go.Pl
open Go.Ev
set_option linter.unusedVariables false
noncomputable section
end
end Go.Pl

namespace Go.Pl
open Go.Ev
set_option linter.unusedVariables false
noncomputable section
end
end Go.Pl

namespace Go.Pl
open Go.Ev
set_option linter.unusedVariables false
noncomputable section
end
end Go.Pl

namespace Go.Pl
open Go.Ev
set_option linter.unusedVariables false
noncomputable section
end
end Go.Pl

namespace Go.Pl
open Go.Ev
set_option linter.unusedVariables false
noncomputable section
end
end Go.Pl

namespace Go.Pl
open Go.Ev
set_option linter.unusedVariables false
noncomputable section
end
end Go.Pl

namespace Go.Pl
open Go.Ev
set_option linter.unusedVariables false
noncomputable section
end
end Go.Pl

namespace Go.Pl
open Go.Ev
set_option linter.unusedVariables false
noncomputable section
end
end Go.Pl

namespace Go.Pl
open Go.Ev
set_option linter.unusedVariables false
set_option linter.unusedSimpArgs false
abbrev Bkg := Int × ByteArray × Int
end Go.Pl

namespace Go.Pl
open Go.Ev
set_option linter.unusedVariables false
noncomputable section
end
end Go.Pl

namespace Go.Pl
open Go.Ev
set_option linter.unusedVariables false
noncomputable section
end
end Go.Pl

namespace Go.Pl
open Go.Ev
set_option linter.unusedVariables false
set_option linter.unusedSimpArgs false
end Go.Pl

namespace Go.Pl
open Go.Ev
set_option linter.unusedVariables false
set_option linter.unusedSimpArgs false
def SrcOk (s : List Int × Int × Int) : Prop := s.1.length ≤ 4096 ∧ (∀ c ∈ s.1,0 ≤ c ∧ c ≤ 255) ∧ (0 ≤ s.2.1 ∧ s.2.1 ≤ (s.1.length : Int)) ∧ 0 ≤ s.2.2 ∧ s.2.2 < 2147483647
theorem VbP {a n : Int} (h : 0 ≤ a) (hn : 0 < n) : 0 ≤ Int.tmod a n ∧ Int.tmod a n < n := by
 rw [Int.tmod_eq_emod_of_nonneg h]
 exact ⟨Int.emod_nonneg _ (by omega),Int.emod_lt_of_pos _ hn⟩
theorem Vc8 {xs : List Int} {i : Nat} (h : i < xs.length) : xs.getD i 0 ∈ xs := by
 rw [List.getD_eq_getElem?_getD,List.getElem?_eq_getElem h]; exact List.getElem_mem h
theorem Vq {s : List Int × Int × Int} (hs : SrcOk s) (n : Int) (hn : n ≤ 1000000000000000) : ∃ x s',Qd.f s n = some (x,s') ∧ SrcOk s' ∧ 0 ≤ x ∧ (x < n ∨ x = 0) := by
 obtain ⟨code,at_,seed⟩ := s
 obtain ⟨h1,h2,h3,h4,h5⟩ := hs
 simp only at h1 h2 h3 h4 h5
 unfold Qd.f Qd.fn Qd.top
 by_cases hn1 : n ≤ 1
 ·simp only [hn1,decide_true,if_true]
  exact ⟨0,_,rfl,⟨h1,h2,h3,h4,h5⟩,by omega,.inr rfl⟩
 have w1 := w64 (n := seed * 48271) (by omega) (by omega)
 have w2 := w64 (n := seed * 48271 + 29) (by omega) (by omega)
 have hm := @VbP (seed * 48271 + 29) 2147483647 (by omega) (by omega)
 have hd : Int.tdiv (Int.tmod (seed * 48271 + 29) 2147483647) 31 = Int.tmod (seed * 48271 + 29) 2147483647 / 31 := Int.tdiv_eq_ediv_of_nonneg hm.1
 have w3 := w64 (n := Int.tdiv (Int.tmod (seed * 48271 + 29) 2147483647) 31) (by omega) (by omega)
 have w4 := w64 (n := at_ + 1) (by omega) (by omega)
 have w5 := w64 (n := at_ + 1 - 1) (by omega) (by omega)
 have hnz : ¬ n = 0 := by omega
 simp only [hn1,decide_false,Bool.false_eq_true,if_false,w1,w2,w3,w4,w5,hnz,decide_eq_true_eq]
 by_cases ha : at_ < (code.length : Int)
 ·have hc := h2 _ (Vc8 (show at_.toNat < code.length by omega))
  have hc' : (0 : Int) ≤ at_ + 1 - 1 ∧ at_ + 1 - 1 < (code.length : Int) := by omega
  have e1 : (at_ + 1 - 1).toNat = at_.toNat := by omega
  have w6 := w64 (n := code.getD at_.toNat 0) (by omega) (by omega)
  have w7 := w64 (n := Int.tdiv (Int.tmod (seed * 48271 + 29) 2147483647) 31 + code.getD at_.toNat 0) (by omega) (by omega)
  have b1 := @VbP (code.getD at_.toNat 0) n hc.1 (by omega)
  have b2 := @VbP (Int.tdiv (Int.tmod (seed * 48271 + 29) 2147483647) 31 + code.getD at_.toNat 0) n (by omega) (by omega)
  have hs' : SrcOk (code,at_ + 1,Int.tmod (seed * 48271 + 29) 2147483647) := ⟨h1,h2,⟨by simp only; omega,by simp only; omega⟩,hm.1,hm.2⟩
  simp only [ha,h3.1,and_self,if_true,hc',e1,w6,w7]
  by_cases h256 : n ≤ 256
  ·simp only [h256,if_true]
   split
   ·exact ⟨_,_,rfl,hs',b1.1,.inl b1.2⟩
   ·exact ⟨_,_,rfl,hs',b2.1,.inl b2.2⟩
  ·simp only [h256,if_false]
   exact ⟨_,_,rfl,hs',b2.1,.inl b2.2⟩
 ·have b3 := @VbP (Int.tdiv (Int.tmod (seed * 48271 + 29) 2147483647) 31) n (by omega) (by omega)
  simp only [ha,if_false]
  exact ⟨_,_,rfl,⟨h1,h2,h3,hm.1,hm.2⟩,b3.1,.inl b3.2⟩
theorem VaS {s : List Int × Int × Int} (hs : SrcOk s) (xs : List Int) (h : 1 ≤ xs.length) (hl : xs.length ≤ 1000) : ∃ x s',QM.f s xs = some (x,s') ∧ SrcOk s' ∧ x ∈ xs := by
 obtain ⟨x,s',e,h1,h2,h3⟩ := Vq hs (xs.length : Int) (by omega)
 have hx : x < (xs.length : Int) := by omega
 unfold QM.f QM.fn QM.top
 rw [e]
 simp only [Option.bind_some,h2,hx,and_self,if_true]
 exact ⟨_,_,rfl,h1,Vc8 (by omega)⟩
theorem ViY (code : List Int) (hl : code.length ≤ 4096) (hc : ∀ c ∈ code,0 ≤ c ∧ c ≤ 255) (c : List Int) (b : Int) : ∀ (d i k : Nat) (seed : Int),i + d = code.length → d < k → 0 ≤ seed → seed < 2147483647 → ∃ seed',QS.l3 NN k code i c b seed = some (c,b,seed') ∧ 0 ≤ seed' ∧ seed' < 2147483647 := by
 intro d
 induction d with
 | zero =>
  intro i k seed hi hk h0 h1
  obtain ⟨k,rfl⟩ : ∃ j,k = j + 1 := ⟨k - 1,by omega⟩
  have n1 : ¬ (i : Int) < (code.length : Int) := by omega
  exact ⟨seed,by simp only [QS.l3,QS.g3,n1,decide_false,Bool.false_eq_true,if_false],h0,h1⟩
 | succ d ih =>
  intro i k seed hi hk h0 h1
  obtain ⟨k,rfl⟩ : ∃ j,k = j + 1 := ⟨k - 1,by omega⟩
  have n1 : (i : Int) < (code.length : Int) := by omega
  by_cases h64 : (i : Int) < 64
  ·have hcc := hc _ (Vc8 (show i < code.length by omega))
   have w1 := w64 (n := seed * 83) (by omega) (by omega)
   have w2 := w64 (n := code.getD i 0) (by omega) (by omega)
   have w3 := w64 (n := seed * 83 + code.getD i 0) (by omega) (by omega)
   have w4 := w64 (n := (i : Int) + 1) (by omega) (by omega)
   have hm := @VbP (seed * 83 + code.getD i 0) 2147483647 (by omega) (by omega)
   obtain ⟨s',e1,e2⟩ := ih (i + 1) k (Int.tmod (seed * 83 + code.getD i 0) 2147483647) (by omega) (by omega) hm.1 hm.2
   refine ⟨s',?_,e2⟩
   simp only [QS.l3,QS.g3,n1,h64,decide_true,if_true,Int.toNat_natCast,w1,w2,w3,w4,show (0 : Int) ≤ (i : Int) from by omega,and_self]
   exact e1
  ·exact ⟨seed,by simp only [QS.l3,QS.g3,n1,h64,decide_true,if_true,decide_false,Bool.false_eq_true,if_false],h0,h1⟩
def VbQ (code : List Int) : Prop := code.length ≤ 4096 ∧ ∀ c ∈ code,0 ≤ c ∧ c ≤ 255
theorem VdZ {code : List Int} (h : VbQ code) : ∃ s,QS.f code = some s ∧ SrcOk s := by
 obtain ⟨s',e,h1,h2⟩ := ViY code h.1 h.2 code 0 code.length 0 NN 61043 (by omega) (by have := h.1; exact NN_lt (by omega)) (by omega) (by omega)
 exact ⟨(code,0,s'),e,h.1,h.2,⟨by simp only; omega,by simp only; omega⟩,h1,h2⟩
theorem Viu {code : List Int} (h : Ls (Rg .u8) code) (hb : ¬ (4096 : Int) < (code.length : Int)) : VbQ code := ⟨by omega,fun c hc => wf8.1 (h.2 c hc)⟩
end Go.Pl

namespace Go.Pl
open Go.Ev
set_option linter.unusedVariables false
noncomputable section
end
end Go.Pl

namespace Go.Pl
open Go.Ev
set_option linter.unusedVariables false
set_option linter.unusedSimpArgs false
theorem Vb6 (a : List Int) (hl : a.length ≤ 140737488355328) : QL.f a a = some true := by
 unfold QL.f QL.fn QL.top
 simp only [bne_self_eq_false,Bool.false_eq_true,if_false]
 refine Vc2 (E := fun _ => True) (fun k a b i => QL.l4 NN k a b i) a (fun _ _ => trivial) ?_ ?_ NN (NN_lt (by omega))
 ·intro k p x r hx ha
  subst ha
  have hm := VD p r x
  have c1 : (p.length : Int) < ((p ++ x :: r).length : Int) := by omega
  have c0 : (0 : Int) ≤ (p.length : Int) := by omega
  have cw := w64 (n := (p.length : Int) + 1) (by omega) (by omega)
  simp only [QL.l4,QL.g4,c0,c1,cw,and_self,and_true,true_and,decide_true,decide_false,if_true,if_false,Vd,Ve,Va,Vb,Vf,Option.bind_some,Bool.not_true,Bool.not_false,Bool.false_eq_true,Bool.true_eq_false,beq_self_eq_true,bne_self_eq_false,Int.toNat_natCast]
 ·intro k
  simp [QL.l4,QL.g4]
end Go.Pl

namespace Go.Pl
open Go.Ev
set_option linter.unusedVariables false
noncomputable section
end
end Go.Pl

namespace Go.Pl
open Go.Ev
set_option linter.unusedVariables false
noncomputable section
end
end Go.Pl

namespace Go.Pl
open Go.Ev
set_option linter.unusedVariables false
noncomputable section
end
end Go.Pl

namespace Go.Pl
open Go.Ev
set_option linter.unusedVariables false
set_option linter.unusedSimpArgs false
theorem Vc9 {xs : List ByteArray} {i : Nat} (h : i < xs.length) : xs.getD i ByteArray.empty ∈ xs := by
 rw [List.getD_eq_getElem?_getD,List.getElem?_eq_getElem h]; exact List.getElem_mem h
def names6 : List ByteArray := [(⟨#[97,115,116,101,114]⟩ : ByteArray),(⟨#[99,111,109,101,116]⟩ : ByteArray),(⟨#[100,97,104,108,105,97]⟩ : ByteArray),(⟨#[112,97,108,109]⟩ : ByteArray),(⟨#[112,101,111,110,121]⟩ : ByteArray),(⟨#[119,105,108,108,111,119]⟩ : ByteArray)]
theorem VfO : Qar.f = some names6 := rfl
theorem Vbb : names6.length = 6 := rfl
theorem VgP : ∀ c ∈ names6,Sm c := by
 intro c hc
 unfold names6 at hc
 simp only [List.mem_cons,List.not_mem_nil,or_false] at hc
 unfold Sm
 rcases hc with h | h | h | h | h | h <;> (rw [h]; exact Nat.le_of_ble_eq_true rfl)
theorem VgQ {s : List Int × Int × Int} (hs : SrcOk s) : ∃ u s',QaA.f s = some (u,s') ∧ SrcOk s' ∧ Sm u := by
 unfold QaA.f QaA.fn QaA.top
 obtain ⟨a,s1,e1,o1,a0,a1⟩ := Vq hs 12 (by omega)
 rw [e1]
 simp only [Option.bind_some]
 rw [if_pos ⟨a0,by simp only [List.length_cons,List.length_nil]; omega⟩]
 refine ⟨_,_,rfl,o1,?_⟩
 have hm := Vc9 (xs := [(⟨#[97,100,97]⟩ : ByteArray),(⟨#[98,114,117,110,111]⟩ : ByteArray),(⟨#[99,108,97,114,97]⟩ : ByteArray),(⟨#[100,111,114,97]⟩ : ByteArray),(⟨#[101,109,105,108]⟩ : ByteArray),(⟨#[102,114,105,100,97]⟩ : ByteArray),(⟨#[103,117,115,116,97,118]⟩ : ByteArray),(⟨#[104,97,110,110,97]⟩ : ByteArray),(⟨#[105,118,97,110]⟩ : ByteArray),(⟨#[106,97,110,97]⟩ : ByteArray),(⟨#[107,97,114,108]⟩ : ByteArray),(⟨#[108,101,110,97]⟩ : ByteArray)]) (i := a.toNat) (by simp only [List.length_cons,List.length_nil]; omega)
 revert hm
 generalize List.getD _ a.toNat ByteArray.empty = c
 intro hc
 simp only [List.mem_cons,List.not_mem_nil,or_false] at hc
 unfold Sm
 rcases hc with h | h | h | h | h | h | h | h | h | h | h | h <;> (rw [h]; exact Nat.le_of_ble_eq_true rfl)
theorem VbE {s : List Int × Int × Int} (hs : SrcOk s) : ∃ u s',Qad.f s = some (u,s') ∧ SrcOk s' ∧ Sm u := by
 unfold Qad.f Qad.fn Qad.top
 obtain ⟨a,s1,e1,o1,a0,a1⟩ := Vq hs 24 (by omega)
 obtain ⟨b,s2,e2,o2,b0,b1⟩ := Vq o1 6 (by omega)
 obtain ⟨u,s3,e3,o3,u1⟩ := VgQ o1
 rw [e1]
 simp only [Option.bind_some,e2,e3]
 split
 ·rw [if_pos ⟨b0,by simp only [List.length_cons,List.length_nil]; omega⟩]
  refine ⟨_,_,rfl,o2,?_⟩
  have hm := Vc9 (xs := [(⟨#[]⟩ : ByteArray),(⟨#[65,100,97]⟩ : ByteArray),(⟨#[97,49]⟩ : ByteArray),(⟨#[97,98,99,100,101,102,103,104,105,106,107,108,109,110,111,112]⟩ : ByteArray),(⟨#[97,98,99,100,101,102,103,104,105,106,107,108,109,110,111,112,113]⟩ : ByteArray),(⟨#[97,32,98]⟩ : ByteArray)]) (i := b.toNat) (by simp only [List.length_cons,List.length_nil]; omega)
  revert hm
  generalize List.getD _ b.toNat ByteArray.empty = c
  intro hc
  simp only [List.mem_cons,List.not_mem_nil,or_false] at hc
  unfold Sm
  rcases hc with h | h | h | h | h | h <;> (rw [h]; exact Nat.le_of_ble_eq_true rfl)
 ·exact ⟨_,_,rfl,o3,u1⟩
theorem mkB {a c : Int} {n : ByteArray} (h1 : -9223372036854775808 ≤ a ∧ a ≤ 9223372036854775807) (h2 : Sm n) (h3 : -9223372036854775808 ≤ c ∧ c ≤ 9223372036854775807) : VI (a,n,c) := ⟨wf64.2 h1,h2,wf64.2 h3⟩
theorem Vgd {xs : List (Int × ByteArray × Int)} {b : Int × ByteArray × Int} (h : (bookR xs b).2 = 0) : VB xs = true ∧ (bookR xs b).1 = xs ++ [b] ∧ VB (xs ++ [b]) = true := by
 unfold bookR at h ⊢
 by_cases h1 : VB xs = true
 ·rw [if_pos h1] at h ⊢
  by_cases h2 : xs.length = 60
  ·rw [if_pos h2] at h; simp at h
  ·rw [if_neg h2] at h ⊢
   by_cases h3 : VB (xs ++ [b]) = true
   ·rw [if_pos h3]; exact ⟨h1,rfl,h3⟩
   ·rw [if_neg h3] at h; simp at h
 ·rw [if_neg h1] at h; simp at h
theorem VhD : ∀ (d k : Nat) (s : List Int × Int × Int) (out : List (Int × ByteArray × Int)),d < k → d ≤ 1000 → SrcOk s → VB out = true → Lm VI out →
  ∃ o' s',Qv.l4 NN k d s out names6 = some (o',s') ∧ SrcOk s' ∧ VB o' = true ∧ Lm VI o' := by
 intro d
 induction d with
 | zero =>
  intro k s out hk _ hs hb hl
  obtain ⟨k,rfl⟩ : ∃ j,k = j + 1 := ⟨k - 1,by omega⟩
  exact ⟨out,s,by simp [Qv.l4,Qv.g4],hs,hb,hl⟩
 | succ d ih =>
  intro k s out hk hd hs hb hl
  obtain ⟨k,rfl⟩ : ∃ j,k = j + 1 := ⟨k - 1,by omega⟩
  obtain ⟨a,s1,e1,o1,a0,a1⟩ := Vq hs 4 (by omega)
  obtain ⟨c,s2,e2,o2,c0,c1⟩ := Vq o1 4 (by omega)
  obtain ⟨n,s3,e3,o3,n0,n1⟩ := Vq o2 12 (by omega)
  obtain ⟨f,s4,e4,o4,f0,f1⟩ := Vq o3 2 (by omega)
  have hv := V7 hb
  have hc : c < (names6.length : Int) := by rw [Vbb]; omega
  have hm := VgP _ (Vc9 (show c.toNat < names6.length by rw [Vbb]; omega))
  have hleft := Ved (names6.getD c.toNat ByteArray.empty) out hv.1
  have z := Vfz out (names6.getD c.toNat ByteArray.empty) hv.1 (by omega)
  have hv2 := hv.2
  have w1 : IntKind.i64.wrap (((d + 1 : Nat) : Int) - 1) = (d : Int) := by rw [w64 (by omega) (by omega)]; omega
  have w2 := w64 (n := 1 + n) (by omega) (by omega)
  have bk : ∀ (b : Int × ByteArray × Int) (s' : List Int × Int × Int),VI b → SrcOk s' → ∃ o' s'',((QB.f out b).bind fun r => if ((r.2 : Int) == 0) = true then Qv.l4 NN k d s' r.1 names6 else Qv.l4 NN k d s' out names6) = some (o',s'') ∧ SrcOk s'' ∧ VB o' = true ∧ Lm VI o' := by
   intro b s' hb' hs'
   rw [QbF out b hl hb']
   simp only [Option.bind_some]
   by_cases h0 : (bookR out b).2 = 0
   ·rw [if_pos (by rw [h0]; rfl)]
    have := Vgd h0
    exact ih k s' _ (by omega) (by omega) hs' (by rw [this.2.1]; exact this.2.2) (VhC out b hl hb')
   ·rw [if_neg (by simpa using h0)]
    exact ih k s' out (by omega) (by omega) hs' hb hl
  simp only [Qv.l4,Qv.g4,show (0 : Int) < ((d + 1 : Nat) : Int) from by omega,decide_true,if_true,e1,e2,e3,e4,z,hc,c0,and_self,Option.bind_some,w1,w2]
  generalize names6.getD c.toNat ByteArray.empty = nm at hm hleft
  generalize VJ out nm = lf at hleft
  have hmin : -9223372036854775808 ≤ (if lf < 1000 then lf else 1000) ∧ (if lf < 1000 then lf else 1000) ≤ 9223372036854775807 := by split <;> omega
  generalize (if lf < 1000 then lf else 1000) = mn at hmin
  by_cases h1 : 0 < a
  ·by_cases h2 : 0 < lf
   ·have f4 : (lf == 0) = false := by rw [beq_eq_false_iff_ne]; omega
    by_cases h3 : f = 0
    ·have f3 : (f == 0) = true := by rw [h3]; rfl
     simp only [decide_eq_true h1,decide_eq_true h2,f3,f4,if_true,Bool.false_eq_true,if_false]
     exact bk (a,nm,mn) s4 (mkB (by omega) hm hmin) o4
    ·have f3 : (f == 0) = false := by rw [beq_eq_false_iff_ne]; exact h3
     simp only [decide_eq_true h1,decide_eq_true h2,f3,f4,if_true,Bool.false_eq_true,if_false]
     exact bk (a,nm,1 + n) s4 (mkB (by omega) hm (by omega)) o4
   ·by_cases h4 : lf = 0
    ·have f4 : (lf == 0) = true := by rw [h4]; rfl
     simp only [decide_eq_true h1,decide_eq_false h2,f4,if_true,Bool.false_eq_true,if_false]
     exact bk (0,nm,1 + n) s3 (mkB (by omega) hm (by omega)) o3
    ·have f4 : (lf == 0) = false := by rw [beq_eq_false_iff_ne]; exact h4
     simp only [decide_eq_true h1,decide_eq_false h2,f4,if_true,Bool.false_eq_true,if_false]
     exact bk (a,nm,1 + n) s3 (mkB (by omega) hm (by omega)) o3
  ·by_cases h4 : lf = 0
   ·have f4 : (lf == 0) = true := by rw [h4]; rfl
    simp only [decide_eq_false h1,f4,if_true,Bool.false_eq_true,if_false]
    exact bk (0,nm,1 + n) s3 (mkB (by omega) hm (by omega)) o3
   ·have f4 : (lf == 0) = false := by rw [beq_eq_false_iff_ne]; exact h4
    simp only [decide_eq_false h1,f4,if_true,Bool.false_eq_true,if_false]
    exact bk (a,nm,1 + n) s3 (mkB (by omega) hm (by omega)) o3
theorem Veh {s : List Int × Int × Int} (hs : SrcOk s) : ∃ o s',Qv.f s = some (o,s') ∧ SrcOk s' ∧ VB o = true ∧ Lm VI o := by
 unfold Qv.f Qv.fn Qv.top
 obtain ⟨n,s1,e1,o1,n0,n1⟩ := Vq hs 10 (by omega)
 obtain ⟨N,hN⟩ := Int.eq_ofNat_of_zero_le n0
 subst hN
 simp only [VfO,e1,Option.bind_some]
 exact VhD N NN s1 [] (NN_lt (by omega)) (by omega) o1 rfl ⟨by simp,by simp⟩
theorem VhE : ∀ (d k : Nat) (s : List Int × Int × Int) (out : List (Int × ByteArray × Int)),out.length + d = 62 → d < k → SrcOk s → Lm VI out →
  ∃ o s',QF.l6 NN k s out = some (o,s') ∧ SrcOk s' ∧ Lm VI o := by
 intro d
 induction d with
 | zero =>
  intro k s out hd hk hs hl
  obtain ⟨k,rfl⟩ : ∃ j,k = j + 1 := ⟨k - 1,by omega⟩
  obtain ⟨a,s1,e1,o1,a0,a1⟩ := Vq hs 2 (by omega)
  have w := w64 (n := 60 + a) (by omega) (by omega)
  have n1 : ¬ (out.length : Int) < 60 + a := by omega
  simp only [QF.l6,QF.g6,e1,Option.bind_some,w,n1,decide_false,Bool.false_eq_true,if_false]
  exact ⟨_,_,rfl,o1,hl⟩
 | succ d ih =>
  intro k s out hd hk hs hl
  obtain ⟨k,rfl⟩ : ∃ j,k = j + 1 := ⟨k - 1,by omega⟩
  obtain ⟨a,s1,e1,o1,a0,a1⟩ := Vq hs 2 (by omega)
  have w := w64 (n := 60 + a) (by omega) (by omega)
  by_cases n1 : (out.length : Int) < 60 + a
  ·simp only [QF.l6,QF.g6,e1,Option.bind_some,w,n1,decide_true,if_true]
   rw [if_pos (by rw [Vaa]; simp; omega)]
   exact ih k s1 _ (by simp; omega) (by omega) o1 (Vbh hl (mkB (by omega) (Nat.le_of_ble_eq_true rfl) (by omega)) (by omega))
  ·simp only [QF.l6,QF.g6,e1,Option.bind_some,w,n1,decide_false,Bool.false_eq_true,if_false]
   exact ⟨_,_,rfl,o1,hl⟩
theorem VgR {s : List Int × Int × Int} (hs : SrcOk s) : ∃ o s',QF.f s = some (o,s') ∧ SrcOk s' ∧ Lm VI o := by
 unfold QF.f QF.fn QF.top
 obtain ⟨o,s1,e1,o1,b1,l1⟩ := Veh hs
 have hv := (V7 b1).2
 obtain ⟨x,s2,e2,o2,x0,x1⟩ := Vq o1 30 (by omega)
 obtain ⟨y,s3,e3,o3,y0,y1⟩ := Vq o2 6 (by omega)
 obtain ⟨u,s4,e4,o4,u1⟩ := VbE o3
 obtain ⟨c,s5,e5,o5,c1⟩ := VaS o4 [0,1,1000,1001] (by simp) (by simp)
 have hc : 0 ≤ c ∧ c ≤ 1001 := by simp at c1; omega
 have w := w64 (n := y - 1) (by omega) (by omega)
 simp only [e1,e2,e3,e4,e5,Option.bind_some,w]
 by_cases h0 : x = 0
 ·simp only [h0,beq_self_eq_true,if_true]
  rw [if_pos (by rw [Vaa]; simp; omega)]
  exact ⟨_,_,rfl,o5,Vbh l1 (mkB (by omega) u1 (by omega)) (by omega)⟩
 ·by_cases h1 : x = 1
  ·simp only [h1,beq_iff_eq,show ¬ (1 : Int) = 0 from by omega,if_true,if_false]
   exact VhE (62 - o.length) NN s2 o (by omega) (NN_lt (by omega)) o2 l1
  ·by_cases h2 : x = 2
   ·simp only [h2,beq_iff_eq,show ¬ (2 : Int) = 0 from by omega,show ¬ (2 : Int) = 1 from by omega,if_true,if_false]
    rw [if_pos (by rw [Vaa]; simp; omega)]
    refine ⟨_,_,rfl,o2,?_⟩
    have q1 := Vbh l1 (mkB (a := 0) (n := (⟨#[97,115,116,101,114]⟩ : ByteArray)) (c := 1000) (by omega) (Nat.le_of_ble_eq_true rfl) (by omega)) (by omega)
    have q2 := Vbh q1 (mkB (a := 0) (n := (⟨#[97,115,116,101,114]⟩ : ByteArray)) (c := 700) (by omega) (Nat.le_of_ble_eq_true rfl) (by omega)) (by simp; omega)
    rw [List.append_assoc] at q2
    exact q2
   ·simp only [h0,h1,h2,beq_iff_eq,if_false]
    exact ⟨_,_,rfl,o2,l1⟩
theorem Va5 (a : List (Int × ByteArray × Int)) (hl : a.length ≤ 140737488355328) : Qr.f a a = some true := by
 unfold Qr.f Qr.fn Qr.top
 simp only [bne_self_eq_false,Bool.false_eq_true,if_false]
 refine Vc2 (E := fun _ => True) (fun k a b i => Qr.l4 NN k a b i) a (fun _ _ => trivial) ?_ ?_ NN (NN_lt (by omega))
 ·intro k p x r hx ha
  subst ha
  have hm := VD p r x
  have c1 : (p.length : Int) < ((p ++ x :: r).length : Int) := by omega
  have c0 : (0 : Int) ≤ (p.length : Int) := by omega
  have cw := w64 (n := (p.length : Int) + 1) (by omega) (by omega)
  simp only [Qr.l4,Qr.g4,c0,c1,cw,and_self,and_true,true_and,decide_true,decide_false,if_true,if_false,Vd,Ve,Va,Vb,Vf,Option.bind_some,Bool.not_true,Bool.not_false,Bool.false_eq_true,Bool.true_eq_false,beq_self_eq_true,bne_self_eq_false,Int.toNat_natCast]
  simp
 ·intro k
  simp [Qr.l4,Qr.g4]
end Go.Pl

namespace Go.Pl
open Go.Ev
set_option linter.unusedVariables false
noncomputable section
end
end Go.Pl

namespace Go.Pl
open Go.Ev
set_option linter.unusedVariables false
noncomputable section
end
end Go.Pl

namespace Go.Pl
open Go.Ev
set_option linter.unusedVariables false
noncomputable section
end
end Go.Pl

namespace Go.Pl
open Go.Ev
set_option linter.unusedVariables false
noncomputable section
end
end Go.Pl

namespace Go.Pl
open Go.Ev
set_option linter.unusedVariables false
noncomputable section
end
end Go.Pl

namespace Go.Pl
open Go.Ev
set_option linter.unusedVariables false
set_option linter.unusedSimpArgs false
end Go.Pl

namespace Go.Pl
open Go.Ev
set_option linter.unusedVariables false
noncomputable section
end
end Go.Pl

namespace Go.Pl
open Go.Ev
set_option linter.unusedVariables false
noncomputable section
end
end Go.Pl

namespace Go.Pl
open Go.Ev
set_option linter.unusedVariables false
noncomputable section
end
end Go.Pl

namespace Go.Pl
open Go.Ev
set_option linter.unusedVariables false
noncomputable section
end
end Go.Pl

namespace Go.Pl
open Go.Ev
set_option linter.unusedVariables false
noncomputable section
end
end Go.Pl

namespace Go.Pl
open Go.Ev
set_option linter.unusedVariables false
noncomputable section
end
end Go.Pl

namespace Go.Pl
open Go.Ev
set_option linter.unusedVariables false
noncomputable section
end
end Go.Pl

namespace Go.Pl
open Go.Ev
set_option linter.unusedVariables false
noncomputable section
end
end Go.Pl

namespace Go.Pl
open Go.Ev
set_option linter.unusedVariables false
set_option linter.unusedSimpArgs false
end Go.Pl

namespace Go.Pl
open Go.Ev
set_option linter.unusedVariables false
noncomputable section
end
end Go.Pl

namespace Go.Pl
open Go.Ev
set_option linter.unusedVariables false
noncomputable section
end
end Go.Pl

namespace Go.Pl
open Go.Ev
set_option linter.unusedVariables false
noncomputable section
end
end Go.Pl

namespace Go.Pl
open Go.Ev
set_option linter.unusedVariables false
noncomputable section
end
end Go.Pl

namespace Go.Pl
open Go.Ev
set_option linter.unusedVariables false
noncomputable section
end
end Go.Pl

namespace Go.Pl
open Go.Ev
set_option linter.unusedVariables false
noncomputable section
end
end Go.Pl

namespace Go.Pl
open Go.Ev
set_option linter.unusedVariables false
noncomputable section
end
end Go.Pl

namespace Go.Pl
open Go.Ev
set_option linter.unusedVariables false
noncomputable section
end
end Go.Pl

namespace Go.Pl
open Go.Ev
set_option linter.unusedVariables false
noncomputable section
end
end Go.Pl

namespace Go.Pl
open Go.Ev
set_option linter.unusedVariables false
noncomputable section
end
end Go.Pl

namespace Go.Pl
open Go.Ev
set_option linter.unusedVariables false
set_option linter.unusedSimpArgs false
end Go.Pl

namespace Go.Pl
open Go.Ev
set_option linter.unusedVariables false
noncomputable section
end
end Go.Pl

namespace Go.Pl
open Go.Ev
set_option linter.unusedVariables false
noncomputable section
end
end Go.Pl

namespace Go.Pl
open Go.Ev
set_option linter.unusedVariables false
noncomputable section
end
end Go.Pl

namespace Go.Pl
open Go.Ev
set_option linter.unusedVariables false
noncomputable section
end
end Go.Pl

namespace Go.Pl
open Go.Ev
set_option linter.unusedVariables false
noncomputable section
end
end Go.Pl

namespace Go.Pl
open Go.Ev
set_option linter.unusedVariables false
noncomputable section
end
end Go.Pl

namespace Go.Pl
open Go.Ev
set_option linter.unusedVariables false
noncomputable section
end
end Go.Pl

namespace Go.Pl
open Go.Ev
set_option linter.unusedVariables false
noncomputable section
end
end Go.Pl

namespace Go.Pl
open Go.Ev
set_option linter.unusedVariables false
noncomputable section
end
end Go.Pl

namespace Go.Pl
open Go.Ev
set_option linter.unusedVariables false
noncomputable section
end
end Go.Pl

namespace Go.Pl
open Go.Ev
set_option linter.unusedVariables false
noncomputable section
end
end Go.Pl

namespace Go.Pl
open Go.Ev
set_option linter.unusedVariables false
set_option linter.unusedSimpArgs false
end Go.Pl

namespace Go.Pl
open Go.Ev
set_option linter.unusedVariables false
set_option linter.unusedSimpArgs false
theorem VhF {xs : List Mov} (h : VG xs = true) : xs.length ≤ 1000000 ∧ ∀ m ∈ xs,Sz m.2.1 := by
 obtain ⟨m1,m2,m3⟩ := V1 h
 exact ⟨by omega,fun m hm => Nat.le_trans (VdD (Vak (m3 m hm)).2.1).2 (by omega)⟩
end Go.Pl

namespace Go.Pl
open Go.Ev
set_option linter.unusedVariables false
set_option linter.unusedSimpArgs false
end Go.Pl

namespace Go.Pl
open Go.Ev
set_option linter.unusedVariables false
noncomputable section
end
end Go.Pl

namespace Go.Pl
open Go.Ev
set_option linter.unusedVariables false
noncomputable section
end
end Go.Pl

namespace Go.Pl
open Go.Ev
set_option linter.unusedVariables false
noncomputable section
end
end Go.Pl

namespace Go.Pl
open Go.Ev
set_option linter.unusedVariables false
noncomputable section
end
end Go.Pl

namespace Go.Pl
open Go.Ev
set_option linter.unusedVariables false
noncomputable section
end
end Go.Pl

namespace Go.Pl
open Go.Ev
set_option linter.unusedVariables false
noncomputable section
end
end Go.Pl

namespace Go.Pl
open Go.Ev
set_option linter.unusedVariables false
noncomputable section
end
end Go.Pl

namespace Go.Pl
open Go.Ev
set_option linter.unusedVariables false
noncomputable section
end
end Go.Pl

namespace Go.Pl
open Go.Ev
set_option linter.unusedVariables false
noncomputable section
end
end Go.Pl

namespace Go.Pl
open Go.Ev
set_option linter.unusedVariables false
set_option linter.unusedSimpArgs false
end Go.Pl

namespace Go.Pl
open Go.Ev
set_option linter.unusedVariables false
set_option linter.unusedSimpArgs false
end Go.Pl

namespace Go.Pl
open Go.Ev
set_option linter.unusedVariables false
set_option linter.unusedSimpArgs false
end Go.Pl

namespace Go.Pl
open Go.Ev
set_option linter.unusedVariables false
noncomputable section
end
end Go.Pl

namespace Go.Pl
open Go.Ev
set_option linter.unusedVariables false
set_option linter.unusedSimpArgs false
end Go.Pl

namespace Go.Pl
open Go.Ev
set_option linter.unusedVariables false
noncomputable section
end
end Go.Pl

namespace Go.Pl
open Go.Ev
set_option linter.unusedVariables false
noncomputable section
end
end Go.Pl

namespace Go.Pl
open Go.Ev
set_option linter.unusedVariables false
noncomputable section
end
end Go.Pl

namespace Go.Pl
open Go.Ev
set_option linter.unusedVariables false
noncomputable section
end
end Go.Pl

namespace Go.Pl
open Go.Ev
set_option linter.unusedVariables false
noncomputable section
end
end Go.Pl

namespace Go.Pl
open Go.Ev
set_option linter.unusedVariables false
noncomputable section
end
end Go.Pl

namespace Go.Pl
open Go.Ev
set_option linter.unusedVariables false
set_option linter.unusedSimpArgs false
abbrev Src := List Int × Int × Int
def DOk {α : Type} (P : α → Prop) (x : Option (α × Src)) : Prop := ∃ a s,x = some (a,s) ∧ SrcOk s ∧ P a
section
variable {α : Type} {P : α → Prop}
theorem Vw {a : α} {s : Src} (hs : SrcOk s) (h : P a) : DOk P (some (a,s)) := ⟨a,s,rfl,hs,h⟩
theorem Vr {s : Src} {n : Int} {F : Int × Src → Option (α × Src)} (hs : SrcOk s) (hn : n ≤ 1000000000000000) (h : ∀ x s',SrcOk s' → 0 ≤ x → (x < n ∨ x = 0) → DOk P (F (x,s'))) : DOk P ((Qd.f s n).bind F) := by
 obtain ⟨x,s',e,o,x0,x1⟩ := Vq hs n hn
 rw [e]; exact h x s' o x0 x1
theorem Vab {s : Src} {xs : List Int} {F : Int × Src → Option (α × Src)} (hs : SrcOk s) (h1 : 1 ≤ xs.length) (h2 : xs.length ≤ 1000) (h : ∀ x s',SrcOk s' → x ∈ xs → DOk P (F (x,s'))) : DOk P ((QM.f s xs).bind F) := by
 obtain ⟨x,s',e,o,x0⟩ := VaS hs xs h1 h2
 rw [e]; exact h x s' o x0
theorem d_if {c : Prop} {i : Decidable c} {A B : Option (α × Src)} (hc : c) (h : DOk P A) : DOk P (@ite _ c i A B) := by rw [if_pos hc]; exact h
theorem d_ite {c : Prop} {i : Decidable c} {A B : Option (α × Src)} (h1 : c → DOk P A) (h2 : ¬ c → DOk P B) : DOk P (@ite _ c i A B) := by
 by_cases hc : c
 ·rw [if_pos hc]; exact h1 hc
 ·rw [if_neg hc]; exact h2 hc
theorem Va2 {β : Type} {Q : β → Prop} {x : Option (β × Src)} {F : β × Src → Option (α × Src)} (hx : DOk Q x) (h : ∀ b s',SrcOk s' → Q b → DOk P (F (b,s'))) : DOk P (x.bind F) := by
 obtain ⟨b,s',e,o,q⟩ := hx
 rw [e]; exact h b s' o q
end
def S20 (u : ByteArray) : Prop := u.size ≤ 20
theorem getB3 {xs : List ByteArray} {i : Int} (h0 : 0 ≤ i) (h1 : i < (xs.length : Int)) : xs.getD i.toNat ByteArray.empty ∈ xs := by
 rw [List.getD_eq_getElem?_getD,List.getElem?_eq_getElem (by omega)]; exact List.getElem_mem _
theorem VfP {s : Src} (hs : SrcOk s) : DOk S20 (QaF.f s) := by
 unfold QaF.f QaF.fn QaF.top
 refine Vr hs (by omega) fun x s' o x0 x1 => ?_
 have hx : x < (([(⟨#[98,97,110,107]⟩ : ByteArray),(⟨#[102,105,101,108,100]⟩ : ByteArray),(⟨#[114,105,118,101,114]⟩ : ByteArray)] : List ByteArray).length : Int) := by simp only [List.length_cons,List.length_nil]; omega
 refine d_if ⟨x0,hx⟩ (Vw o ?_)
 have hm := getB3 x0 hx
 revert hm
 generalize List.getD _ x.toNat ByteArray.empty = c
 intro hm
 simp only [List.mem_cons,List.not_mem_nil,or_false] at hm
 unfold S20
 rcases hm with h | h | h <;> (rw [h]; exact Nat.le_of_ble_eq_true rfl)
theorem bnd {a b : Nat} (h : a + b ≤ 1000) : a + b ≤ 9223372036854775807 := by omega
theorem z1 : (⟨#[32]⟩ : ByteArray).size = 1 := by decide
end Go.Pl

namespace Go.Pl
open Go.Ev
set_option linter.unusedVariables false
set_option linter.unusedSimpArgs false
theorem VgS : ∀ c ∈ names6,c.size ≤ 20 := by
 intro c hc
 unfold names6 at hc
 simp only [List.mem_cons,List.not_mem_nil,or_false] at hc
 rcases hc with h | h | h | h | h | h <;> (rw [h]; exact Nat.le_of_ble_eq_true rfl)
end Go.Pl

namespace Go.Pl
open Go.Ev
set_option linter.unusedVariables false
noncomputable section
end
end Go.Pl

namespace Go.Pl
open Go.Ev
set_option linter.unusedVariables false
noncomputable section
end
end Go.Pl

namespace Go.Pl
open Go.Ev
set_option linter.unusedVariables false
noncomputable section
end
end Go.Pl

namespace Go.Pl
open Go.Ev
set_option linter.unusedVariables false
set_option linter.unusedSimpArgs false
def MvP (xs : List Mov) : Prop := VG xs = true
theorem mv_ok {xs : List Mov} (h : VG xs = true) : Lm Ve5 xs := by
 obtain ⟨m1,m2,m3⟩ := V1 h
 refine ⟨by omega,fun m hm => ?_⟩
 obtain ⟨a,b,c⟩ := Vak (m3 m hm)
 exact ⟨wf64.2 (by omega),Nat.le_trans (VdD b).2 (by omega),wf64.2 (by omega)⟩
theorem VhG {xs : List Mov} {m : Mov} (h : (amR xs m).2 = 0) : VG (amR xs m).1 = true := by
 unfold amR at h ⊢
 repeat' split
 all_goals simp_all
theorem VhH : ∀ (n : Nat) (t : Int) (s : Src) (out : List Mov) (k : Nat),n < k → n ≤ 20 → SrcOk s → VG out = true → 0 ≤ t → t + 100000 * n ≤ 100000000 → DOk MvP (QZ.l4 NN k t n s out) := by
 intro n
 induction n with
 | zero =>
  intro t s out k hk _ hs hb _ _
  obtain ⟨k,rfl⟩ : ∃ j,k = j + 1 := ⟨k - 1,by omega⟩
  have c : ¬ (0 : Int) < ((0 : Nat) : Int) := by omega
  simp only [QZ.l4,QZ.g4,c,and_self,and_true,true_and,decide_true,decide_false,if_true,if_false,Vd,Ve,Va,Vb,Vf,Option.bind_some,Bool.not_true,Bool.not_false,Bool.false_eq_true,Bool.true_eq_false,beq_self_eq_true,bne_self_eq_false,Int.toNat_natCast]
  exact Vw hs hb
 | succ n ih =>
  intro t s out k hk hn hs hb h0 ht
  obtain ⟨k,rfl⟩ : ∃ j,k = j + 1 := ⟨k - 1,by omega⟩
  have c : (0 : Int) < ((n + 1 : Nat) : Int) := by omega
  have w : IntKind.i64.wrap (((n + 1 : Nat) : Int) - 1) = (n : Int) := by rw [w64 (by omega) (by omega)]; omega
  obtain ⟨m1,m2,m3⟩ := V1 hb
  obtain ⟨z1,z2⟩ := VhF hb
  simp only [QZ.l4,QZ.g4,c,w,and_self,and_true,true_and,decide_true,decide_false,if_true,if_false,Vd,Ve,Va,Vb,Vf,Option.bind_some,Bool.not_true,Bool.not_false,Bool.false_eq_true,Bool.true_eq_false,beq_self_eq_true,bne_self_eq_false,Int.toNat_natCast]
  refine Va2 (VfP hs) fun z s1 o1 hz => ?_
  refine Vr o1 (by omega) fun x s2 o2 x0 x1 => ?_
  have hp := Qa6 out [] z m3 (by omega)
  rw [List.append_nil] at hp
  have hbd := Vin z out 0 m3
  have hps : peopS out z = out.foldl (addP z) 0 := rfl
  rw [← hps] at hbd
  simp only [hp,Option.bind_some]
  have tail : ∀ (s' : Src) (o' : List Mov),SrcOk s' → VG o' = true → DOk MvP ((Qd.f s' 20000).bind fun r9 => (Qd.f r9.2 60000).bind fun r10 => (QM.f r10.2 ([0,r9.1,r10.1])).bind fun r11 => QZ.l4 NN k (IntKind.i64.wrap (t + r11.1)) n r11.2 o') := by
   intro s' o' hs' hb'
   refine Vr hs' (by omega) fun a s3 o3 a0 a1 => ?_
   refine Vr o3 (by omega) fun b s4 o4 b0 b1 => ?_
   refine Vab o4 (by simp) (by simp) fun q s5 o5 hq => ?_
   have hq2 : 0 ≤ q ∧ q ≤ 100000 := by
    simp only [List.mem_cons,List.not_mem_nil,or_false] at hq
    omega
   simp only
   rw [w64 (n := t + q) (by omega) (by omega)]
   exact ih (t + q) s5 o' k (by omega) (by omega) o5 hb' (by omega) (by omega)
  have add : ∀ (m : Mov) (s' : Src),Sz m.2.1 → SrcOk s' → DOk MvP ((Qah.f out m).bind fun r8 => if ((r8.2 : Int) == 0) = true then ((Qd.f s' 20000).bind fun r9 => (Qd.f r9.2 60000).bind fun r10 => (QM.f r10.2 ([0,r9.1,r10.1])).bind fun r11 => QZ.l4 NN k (IntKind.i64.wrap (t + r11.1)) n r11.2 r8.1) else ((Qd.f s' 20000).bind fun r12 => (Qd.f r12.2 60000).bind fun r13 => (QM.f r13.2 ([0,r12.1,r13.1])).bind fun r14 => QZ.l4 NN k (IntKind.i64.wrap (t + r14.1)) n r14.2 out)) := by
   intro m s' hm hs'
   rw [(Ve7 out m z1 z2 hm).1,Option.bind_some]
   refine d_ite (fun h => ?_) fun _ => tail s' out hs' hb
   exact tail s' _ hs' (VhG (by simpa using h))
  have hzz : Sz z := Nat.le_trans hz (by omega)
  refine d_ite (fun _ => ?_) fun _ => add (t,(z,IntKind.i64.wrap (1 + x))) s2 hzz o2
  refine Vr o2 (by omega) fun y s3 o3 y0 y1 => ?_
  refine d_ite (fun _ => ?_) fun _ => add (t,(z,IntKind.i64.wrap (1 + x))) s3 hzz o3
  refine Vab o3 (by simp) (by simp) fun q s4 o4 hq => ?_
  exact add (t,(z,IntKind.i64.wrap (0 - q))) s4 hzz o4
theorem VgT {s : Src} (hs : SrcOk s) : DOk MvP (QZ.f s) := by
 unfold QZ.f QZ.fn QZ.top
 refine Vr hs (by omega) fun t s1 o1 t0 t1 => ?_
 refine Vr o1 (by omega) fun n s2 o2 n0 n1 => ?_
 have e : n = ((n.toNat : Nat) : Int) := by omega
 simp only
 rw [e]
 exact VhH n.toNat t s2 [] NN (NN_lt (by omega)) (by omega) o2 rfl t0 (by omega)
def LMv (xs : List Mov) : Prop := Lm Ve5 xs
theorem VhI : ∀ (d k : Nat) (s : Src) (out : List Mov),out.length + d = 42 → d < k → SrcOk s → Lm Ve5 out → DOk LMv (Q8.l6 NN k s out) := by
 intro d
 induction d with
 | zero =>
  intro k s out hd hk hs hl
  obtain ⟨k,rfl⟩ : ∃ j,k = j + 1 := ⟨k - 1,by omega⟩
  simp only [Q8.l6,Q8.g6]
  refine Vr hs (by omega) fun x s1 o1 x0 x1 => ?_
  have w := w64 (n := 40 + x) (by omega) (by omega)
  have c : ¬ (out.length : Int) < 40 + x := by omega
  simp only [w,c,and_self,and_true,true_and,decide_true,decide_false,if_true,if_false,Vd,Ve,Va,Vb,Vf,Option.bind_some,Bool.not_true,Bool.not_false,Bool.false_eq_true,Bool.true_eq_false,beq_self_eq_true,bne_self_eq_false,Int.toNat_natCast]
  exact Vw o1 hl
 | succ d ih =>
  intro k s out hd hk hs hl
  obtain ⟨k,rfl⟩ : ∃ j,k = j + 1 := ⟨k - 1,by omega⟩
  simp only [Q8.l6,Q8.g6]
  refine Vr hs (by omega) fun x s1 o1 x0 x1 => ?_
  refine d_ite (fun _ => d_if (Vat (by simp; omega)) ?_) fun _ => Vw o1 hl
  refine ih k s1 _ (by simp; omega) (by omega) o1 ⟨by simp; omega,fun m hm => ?_⟩
  rcases List.mem_append.1 hm with hm | hm
  ·exact hl.2 m hm
  ·rw [List.mem_singleton.1 hm]
   exact ⟨wf64.2 (by simp only; omega),(show (⟨#[102,105,101,108,100]⟩ : ByteArray).size ≤ 1000000 by decide),wf64.2 (by simp only; omega)⟩
theorem VgU {s : Src} (hs : SrcOk s) : DOk LMv (Q8.f s) := by
 unfold Q8.f Q8.fn Q8.top
 refine Va2 (VgT hs) fun out s1 o1 hb => ?_
 have hm := (V1 hb).1
 have hl := mv_ok hb
 refine Vr o1 (by omega) fun x s2 o2 x0 x1 => ?_
 refine d_ite (fun _ => ?_) fun _ => ?_
 ·refine Vab o2 (by simp) (by simp) fun t s3 o3 ht => ?_
  refine Va2 (VfP o3) fun z s4 o4 hz => ?_
  refine Vab o4 (by simp) (by simp) fun q s5 o5 hq => ?_
  have ht2 : 0 ≤ t ∧ t ≤ 10000001 := by simp only [List.mem_cons,List.not_mem_nil,or_false] at ht; omega
  have hq2 : -1 ≤ q ∧ q ≤ 1001 := by simp only [List.mem_cons,List.not_mem_nil,or_false] at hq; omega
  refine d_if (Vat (by simp; omega)) (Vw o5 ⟨by simp; omega,fun m hm => ?_⟩)
  rcases List.mem_append.1 hm with hm | hm
  ·exact hl.2 m hm
  ·rw [List.mem_singleton.1 hm]
   exact ⟨wf64.2 (by simp only; omega),Nat.le_trans hz (by omega),wf64.2 (by simp only; omega)⟩
 ·refine d_ite (fun _ => ?_) fun _ => Vw o2 hl
  exact VhI (42 - out.length) NN s2 out (by omega) (NN_lt (by omega)) o2 hl
def LSg (n : Nat) (xs : List Sig) : Prop := xs.length ≤ n ∧ ∀ m ∈ xs,Vc4 m
theorem mkS {a b : Int} (h1 : -1000000000 ≤ a ∧ a ≤ 1000000000) (h2 : -1000000000 ≤ b ∧ b ≤ 1000000000) : Vc4 (a,b) := ⟨wf64.2 (by simp only; omega),wf64.2 (by simp only; omega)⟩
theorem VcC {xs : List Sig} {n : Nat} {y : Sig} (h : LSg n xs) (hy : Vc4 y) : LSg (n + 1) (xs ++ [y]) := by
 refine ⟨by simp; exact h.1,fun m hm => ?_⟩
 rcases List.mem_append.1 hm with hm | hm
 ·exact h.2 m hm
 ·rw [List.mem_singleton.1 hm]; exact hy
theorem sg_le {xs : List Sig} {n m : Nat} (h : LSg n xs) (hn : n ≤ m) : LSg m xs := ⟨Nat.le_trans h.1 hn,h.2⟩
theorem Ve8 : ∀ (n : Nat) (t : Int) (s : Src) (out : List Sig) (k : Nat),n < k → n ≤ 20 → SrcOk s → LSg (23 - n) out → 0 ≤ t → t + 10 * n ≤ 10000 → DOk (LSg 23) (Q9.l7 NN k t n s out) := by
 intro n
 induction n with
 | zero =>
  intro t s out k hk _ hs hb _ _
  obtain ⟨k,rfl⟩ : ∃ j,k = j + 1 := ⟨k - 1,by omega⟩
  have c : ¬ (0 : Int) < ((0 : Nat) : Int) := by omega
  simp only [Q9.l7,Q9.g7,c,and_self,and_true,true_and,decide_true,decide_false,if_true,if_false,Vd,Ve,Va,Vb,Vf,Option.bind_some,Bool.not_true,Bool.not_false,Bool.false_eq_true,Bool.true_eq_false,beq_self_eq_true,bne_self_eq_false,Int.toNat_natCast]
  exact Vw hs hb
 | succ n ih =>
  intro t s out k hk hn hs hb h0 ht
  obtain ⟨k,rfl⟩ : ∃ j,k = j + 1 := ⟨k - 1,by omega⟩
  have c : (0 : Int) < ((n + 1 : Nat) : Int) := by omega
  have w : IntKind.i64.wrap (((n + 1 : Nat) : Int) - 1) = (n : Int) := by rw [w64 (by omega) (by omega)]; omega
  simp only [Q9.l7,Q9.g7,c,w,and_self,and_true,true_and,decide_true,decide_false,if_true,if_false,Vd,Ve,Va,Vb,Vf,Option.bind_some,Bool.not_true,Bool.not_false,Bool.false_eq_true,Bool.true_eq_false,beq_self_eq_true,bne_self_eq_false,Int.toNat_natCast]
  refine Vab hs (by simp) (by simp) fun a s1 o1 ha => ?_
  refine Vab o1 (by simp) (by simp) fun b s2 o2 hb2 => ?_
  have ha2 : 0 ≤ a ∧ a ≤ 4 := by simp only [List.mem_cons,List.not_mem_nil,or_false] at ha; omega
  have hb3 : 0 ≤ b ∧ b ≤ 9 := by simp only [List.mem_cons,List.not_mem_nil,or_false] at hb2; omega
  have hl := hb.1
  simp only
  rw [w64 (n := t + a) (by omega) (by omega)]
  refine d_if (VaG (by simp; omega)) ?_
  exact ih (t + a) s2 _ k (by omega) (by omega) o2 (sg_le (VcC hb (mkS (by omega) (by omega))) (by omega)) (by omega) (by omega)
theorem VgV {s : Src} (hs : SrcOk s) : DOk (LSg 23) (Q9.f s) := by
 unfold Q9.f Q9.fn Q9.top
 refine Vr hs (by omega) fun t s1 o1 t0 t1 => ?_
 refine Vr o1 (by omega) fun q s2 o2 q0 q1 => ?_
 have w := w64 (n := t + 1) (by omega) (by omega)
 simp only [w]
 refine d_ite (fun _ => d_if (VaG (by simp)) ?_) fun _ => ?_
 ·refine Vr o2 (by omega) fun n s3 o3 n0 n1 => ?_
  have e : n = ((n.toNat : Nat) : Int) := by omega
  simp only
  rw [e]
  refine Ve8 n.toNat (t + 1) s3 _ NN (NN_lt (by omega)) (by omega) o3 ⟨by simp; omega,fun m hm => ?_⟩ (by omega) (by omega)
  simp only [List.nil_append,List.mem_cons,List.not_mem_nil,or_false] at hm
  rcases hm with h | h | h <;> (rw [h]; exact mkS (by omega) (by omega))
 ·refine Vr o2 (by omega) fun n s3 o3 n0 n1 => ?_
  have e : n = ((n.toNat : Nat) : Int) := by omega
  simp only
  rw [e]
  exact Ve8 n.toNat t s3 [] NN (NN_lt (by omega)) (by omega) o3 ⟨by simp,by simp⟩ (by omega) (by omega)
theorem VhJ : ∀ (d k : Nat) (s : Src) (out : List Sig),out.length + d = 42 → d < k → SrcOk s → LSg 42 out → DOk (LSg 43) (Qaa.l8 NN k s out) := by
 intro d
 induction d with
 | zero =>
  intro k s out hd hk hs hl
  obtain ⟨k,rfl⟩ : ∃ j,k = j + 1 := ⟨k - 1,by omega⟩
  simp only [Qaa.l8,Qaa.g8]
  refine Vr hs (by omega) fun x s1 o1 x0 x1 => ?_
  have w := w64 (n := 40 + x) (by omega) (by omega)
  have c : ¬ (out.length : Int) < 40 + x := by omega
  simp only [w,c,and_self,and_true,true_and,decide_true,decide_false,if_true,if_false,Vd,Ve,Va,Vb,Vf,Option.bind_some,Bool.not_true,Bool.not_false,Bool.false_eq_true,Bool.true_eq_false,beq_self_eq_true,bne_self_eq_false,Int.toNat_natCast]
  exact Vw o1 (sg_le hl (by omega))
 | succ d ih =>
  intro k s out hd hk hs hl
  obtain ⟨k,rfl⟩ : ∃ j,k = j + 1 := ⟨k - 1,by omega⟩
  simp only [Qaa.l8,Qaa.g8]
  refine Vr hs (by omega) fun x s1 o1 x0 x1 => ?_
  refine d_ite (fun _ => d_if (VaG (by simp; omega)) ?_) fun _ => Vw o1 (sg_le hl (by omega))
  have := VcC hl (mkS (a := 300) (b := 7) (by omega) (by omega))
  exact ih k s1 _ (by simp; omega) (by omega) o1 ⟨by simp; omega,this.2⟩
theorem VgW {s : Src} (hs : SrcOk s) : DOk (LSg 43) (Qaa.f s) := by
 unfold Qaa.f Qaa.fn Qaa.top
 refine Va2 (VgV hs) fun out s1 o1 hl => ?_
 have hll := hl.1
 refine Vr o1 (by omega) fun x s2 o2 x0 x1 => ?_
 refine d_ite (fun _ => ?_) fun _ => ?_
 ·refine Vab o2 (by simp) (by simp) fun b s3 o3 hb => ?_
  have hb3 : -1 ≤ b ∧ b ≤ 10 := by simp only [List.mem_cons,List.not_mem_nil,or_false] at hb; omega
  exact d_if (VaG (by simp; omega)) (Vw o3 (sg_le (VcC hl (mkS (by omega) (by omega))) (by omega)))
 refine d_ite (fun _ => ?_) fun _ => ?_
 ·refine Vab o2 (by simp) (by simp) fun b s3 o3 hb => ?_
  have hb3 : 0 ≤ b ∧ b ≤ 100001 := by simp only [List.mem_cons,List.not_mem_nil,or_false] at hb; omega
  exact d_if (VaG (by simp; omega)) (Vw o3 (sg_le (VcC hl (mkS (by omega) (by omega))) (by omega)))
 refine d_ite (fun _ => ?_) fun _ => Vw o2 (sg_le hl (by omega))
 exact VhJ (42 - out.length) NN s2 out (by omega) (NN_lt (by omega)) o2 (sg_le hl (by omega))
end Go.Pl

namespace Go.Pl
open Go.Ev
set_option linter.unusedVariables false
noncomputable section
end
end Go.Pl

namespace Go.Pl
open Go.Ev
set_option linter.unusedVariables false
noncomputable section
end
end Go.Pl

namespace Go.Pl
open Go.Ev
set_option linter.unusedVariables false
noncomputable section
end
end Go.Pl

namespace Go.Pl
open Go.Ev
set_option linter.unusedVariables false
noncomputable section
end
end Go.Pl

namespace Go.Pl
open Go.Ev
set_option linter.unusedVariables false
noncomputable section
end
end Go.Pl

namespace Go.Pl
open Go.Ev
set_option linter.unusedVariables false
set_option linter.unusedSimpArgs false
def ltS (a b : ByteArray) : Bool := Op.bytesLess a.toList b.toList
theorem Vb0 {α : Type} (p r : List α) (x a z : α) : (p ++ [x] ++ a :: r).getD p.length z = x := by simp
theorem Vco {α : Type} (P : α → Bool) : ∀ (xs : List α) (i j : Nat) (x : α),V4 P i xs = some (j,x) → i ≤ j ∧ j < i + xs.length ∧ xs[j - i]? = some x ∧ P x = true := by
 intro xs
 induction xs with
 | nil => intro i j x h; cases h
 | cons a r ih =>
  intro i j x h
  simp only [V4] at h
  split at h
  ·rename_i hp
   cases h
   refine ⟨by omega,by simp,by simp,hp⟩
  ·obtain ⟨h1,h2,h3,h4⟩ := ih _ _ _ h
   refine ⟨by omega,by simp; omega,?_,h4⟩
   rw [show j - i = (j - (i + 1)) + 1 by omega,List.getElem?_cons_succ]; exact h3
end Go.Pl

namespace Go.Pl
open Go.Ev
set_option linter.unusedVariables false
noncomputable section
end
end Go.Pl

namespace Go.Pl
open Go.Ev
set_option linter.unusedVariables false
noncomputable section
end
end Go.Pl

namespace Go.Pl
open Go.Ev
set_option linter.unusedVariables false
set_option linter.unusedSimpArgs false
end Go.Pl

namespace Go.Pl
open Go.Ev
set_option linter.unusedVariables false
set_option linter.unusedSimpArgs false
abbrev Art : Type := ByteArray × Int × Int × Int × Int × Int × Int × Int × Int
def artB (a : Art) : Bool := wordB a.1 && inB a.2.1 0 3 && inB a.2.2.1 20 300 && inB a.2.2.2.1 0 10000 && inB a.2.2.2.2.1 0 a.2.2.2.1 && inB a.2.2.2.2.2.1 1 50 && inB a.2.2.2.2.2.2.1 0 10000 && inB a.2.2.2.2.2.2.2.1 1 100000 && inB a.2.2.2.2.2.2.2.2 0 3
theorem Qbj (a : Art) (h : Sz a.1) : Qau.f a = some (artB a) := by
 unfold Qau.f Qau.fn Qau.top artB
 simp only [Qa3 _ h,QaU,Option.bind_some]
 cases wordB a.1
 ·rfl
 cases inB a.2.1 0 3
 ·rfl
 cases inB a.2.2.1 20 300
 ·rfl
 cases inB a.2.2.2.1 0 10000
 ·rfl
 cases inB a.2.2.2.2.1 0 a.2.2.2.1
 ·rfl
 cases inB a.2.2.2.2.2.1 1 50
 ·rfl
 cases inB a.2.2.2.2.2.2.1 0 10000
 ·rfl
 cases inB a.2.2.2.2.2.2.2.1 1 100000
 ·rfl
 ·rfl
theorem Qbk (a : Art) (h : Sz a.1) : Qaw.f a = some (artB a) := by
 unfold Qaw.f Qaw.fn Qaw.top artB
 simp only [Qa4 _ h,QaT,Option.bind_some]
 cases wordB a.1
 ·rfl
 cases inB a.2.1 0 3
 ·rfl
 cases inB a.2.2.1 20 300
 ·rfl
 cases inB a.2.2.2.1 0 10000
 ·rfl
 cases inB a.2.2.2.2.1 0 a.2.2.2.1
 ·rfl
 cases inB a.2.2.2.2.2.1 1 50
 ·rfl
 cases inB a.2.2.2.2.2.2.1 0 10000
 ·rfl
 cases inB a.2.2.2.2.2.2.2.1 1 100000
 ·rfl
 ·rfl
def artsF : Art → List Art → Bool
 | _,[] => true
 | x,a :: r => artB a && ltS x.1 a.1 && artsF a r
def artsL : List Art → Bool
 | [] => true
 | a :: r => artB a && artsF a r
def artsB (xs : List Art) : Bool := decide (xs.length ≤ 12) && artsL xs
noncomputable def QaW (k : Nat) (xs : List Art) (i : Int) := Qo.l4 NN k xs xs xs.length i
noncomputable def QaX (k : Nat) (xs : List Art) (i : Int) := Qp.l2 NN k xs i
theorem Qb0 : ∀ (r p : List Art) (x : Art) (k : Nat),p.length + r.length + 1 ≤ 140737488355328 → r.length < k → (∀ a ∈ r,Sz a.1) →
  QaW k (p ++ [x] ++ r) ((p.length : Int) + 1) = if artsF x r = true then some ((fun _ => true) (p ++ [x] ++ r)) else some false := by
 intro r
 induction r with
 | nil =>
  intro p x k _ hk _
  obtain ⟨k,rfl⟩ : ∃ j,k = j + 1 := ⟨k - 1,by omega⟩
  have n1 : ¬ (p.length : Int) + 1 < ((p ++ [x] ++ []).length : Int) := by simp
  simp only [QaW,Qo.l4,Qo.g4,n1,decide_false,Bool.false_eq_true,if_false,artsF,if_true]
 | cons a r ih =>
  intro p x k hb hk hz
  simp only [List.length_cons] at hb hk
  obtain ⟨k,rfl⟩ : ∃ j,k = j + 1 := ⟨k - 1,by omega⟩
  have hl : ((p ++ [x] ++ a :: r).length : Int) = p.length + r.length + 2 := by simp; omega
  have w1 := w64 (n := (p.length : Int) + 1 - 1) (by omega) (by omega)
  have w2 := w64 (n := (p.length : Int) + 1 + 1) (by omega) (by omega)
  have c1 : (p.length : Int) + 1 < ((p ++ [x] ++ a :: r).length : Int) := by omega
  have c2 : (0 : Int) ≤ (p.length : Int) + 1 - 1 := by omega
  have c3 : (p.length : Int) + 1 - 1 < ((p ++ [x] ++ a :: r).length : Int) := by omega
  have c4 : (0 : Int) ≤ (p.length : Int) + 1 := by omega
  have c5 : (0 : Int) < (p.length : Int) + 1 := by omega
  have g1 : ∀ z,(p ++ [x] ++ a :: r).getD ((p.length : Int) + 1).toNat z = a := fun z => by
   rw [show ((p.length : Int) + 1).toNat = (p ++ [x]).length by simp,Va]
  have g2 : ∀ z,(p ++ [x] ++ a :: r).getD ((p.length : Int) + 1 - 1).toNat z = x := fun z => by
   rw [show ((p.length : Int) + 1 - 1).toNat = p.length by omega,Vb0]
  have i1 := ih (p ++ [x]) a k (by simp; omega) (by omega) (fun b hb => hz b (by simp [hb]))
  have e1 : (((p ++ [x]).length : Nat) : Int) + 1 = (p.length : Int) + 1 + 1 := by simp
  have e2 : p ++ [x] ++ [a] ++ r = p ++ [x] ++ a :: r := by simp
  rw [e1,e2] at i1
  simp only [QaW] at i1
  simp only [QaW,Qo.l4,Qo.g4,w1,w2,c1,c2,c3,c4,c5,g1,g2,and_self,decide_true,if_true,Option.bind_some,Qbj a (hz a (by simp)),artsF]
  rcases Bool.eq_false_or_eq_true (artB a) with h1 | h1
  ·rcases Bool.eq_false_or_eq_true (ltS x.1 a.1) with h2 | h2
   ·have h2' : Op.bytesLess x.1.toList a.1.toList = true := h2
    simp only [h1,h2,h2',Bool.not_true,Bool.false_eq_true,if_false,if_true,Bool.true_and,Bool.and_true]
    exact i1
   ·have h2' : Op.bytesLess x.1.toList a.1.toList = false := h2
    simp [h1,h2,h2']
  ·simp [h1]
theorem Qb6 (xs : List Art) (hb : xs.length ≤ 140737488355328) (hz : ∀ a ∈ xs,Sz a.1) : QaW NN xs 0 = if artsL xs = true then some ((fun _ => true) xs) else some false := by
 obtain ⟨k,hk⟩ : ∃ j,NN = j + 1 := ⟨NN - 1,by have := NNb; omega⟩
 have hkb : 1000000000000000 < k := by rw [NN_eq] at hk; omega
 unfold QaW
 rw [show Qo.l4 NN NN = Qo.l4 NN (k + 1) by rw [← hk]]
 cases xs with
 | nil =>
  have n1 : ¬ (0 : Int) < (([] : List Art).length : Int) := by simp
  simp only [Qo.l4,Qo.g4,n1,decide_false,Bool.false_eq_true,if_false,artsL,if_true]
 | cons a r =>
  simp only [List.length_cons] at hb
  have i1 := Qb0 r [] a k (by simp; omega) (by omega) (fun b hb => hz b (by simp [hb]))
  simp only [QaW,List.nil_append,List.length_nil] at i1
  have n1 : (0 : Int) < ((a :: r).length : Int) := by simp only [List.length_cons]; omega
  have w2 := w64 (n := (0 : Int) + 1) (by omega) (by omega)
  have g1 : ∀ z,(a :: r).getD (0 : Int).toNat z = a := fun z => rfl
  simp only [Qo.l4,Qo.g4,n1,w2,g1,Int.le_refl,Int.lt_irrefl,and_self,decide_true,decide_false,if_true,Option.bind_some,Qbj a (hz a (by simp)),artsL]
  rcases Bool.eq_false_or_eq_true (artB a) with h1 | h1
  ·simp only [h1,Bool.not_true,Bool.false_eq_true,if_false,if_true,Bool.true_and]
   exact i1
  ·simp [h1]
theorem Qb1 : ∀ (r p : List Art) (x : Art) (k : Nat),p.length + r.length + 1 ≤ 140737488355328 → r.length < k → (∀ a ∈ r,Sz a.1) →
  QaX k (p ++ [x] ++ r) ((p.length : Int) + 1) = if artsF x r = true then some ((fun xs : List Art => decide (((xs.length : Int) : Int) ≤ 12)) (p ++ [x] ++ r)) else some false := by
 intro r
 induction r with
 | nil =>
  intro p x k _ hk _
  obtain ⟨k,rfl⟩ : ∃ j,k = j + 1 := ⟨k - 1,by omega⟩
  have n1 : ¬ (p.length : Int) + 1 < ((p ++ [x] ++ []).length : Int) := by simp
  simp only [QaX,Qp.l2,Qp.g2,n1,decide_false,Bool.false_eq_true,if_false,artsF,if_true]
 | cons a r ih =>
  intro p x k hb hk hz
  simp only [List.length_cons] at hb hk
  obtain ⟨k,rfl⟩ : ∃ j,k = j + 1 := ⟨k - 1,by omega⟩
  have hl : ((p ++ [x] ++ a :: r).length : Int) = p.length + r.length + 2 := by simp; omega
  have w1 := w64 (n := (p.length : Int) + 1 - 1) (by omega) (by omega)
  have w2 := w64 (n := (p.length : Int) + 1 + 1) (by omega) (by omega)
  have c1 : (p.length : Int) + 1 < ((p ++ [x] ++ a :: r).length : Int) := by omega
  have c2 : (0 : Int) ≤ (p.length : Int) + 1 - 1 := by omega
  have c3 : (p.length : Int) + 1 - 1 < ((p ++ [x] ++ a :: r).length : Int) := by omega
  have c4 : (0 : Int) ≤ (p.length : Int) + 1 := by omega
  have c5 : (0 : Int) < (p.length : Int) + 1 := by omega
  have g1 : ∀ z,(p ++ [x] ++ a :: r).getD ((p.length : Int) + 1).toNat z = a := fun z => by
   rw [show ((p.length : Int) + 1).toNat = (p ++ [x]).length by simp,Va]
  have g2 : ∀ z,(p ++ [x] ++ a :: r).getD ((p.length : Int) + 1 - 1).toNat z = x := fun z => by
   rw [show ((p.length : Int) + 1 - 1).toNat = p.length by omega,Vb0]
  have i1 := ih (p ++ [x]) a k (by simp; omega) (by omega) (fun b hb => hz b (by simp [hb]))
  have e1 : (((p ++ [x]).length : Nat) : Int) + 1 = (p.length : Int) + 1 + 1 := by simp
  have e2 : p ++ [x] ++ [a] ++ r = p ++ [x] ++ a :: r := by simp
  rw [e1,e2] at i1
  simp only [QaX] at i1
  simp only [QaX,Qp.l2,Qp.g2,w1,w2,c1,c2,c3,c4,c5,g1,g2,and_self,decide_true,if_true,Option.bind_some,Qbk a (hz a (by simp)),artsF]
  rcases Bool.eq_false_or_eq_true (artB a) with h1 | h1
  ·rcases Bool.eq_false_or_eq_true (ltS x.1 a.1) with h2 | h2
   ·have h2' : Op.bytesLess x.1.toList a.1.toList = true := h2
    simp only [h1,h2,h2',Bool.not_true,Bool.false_eq_true,if_false,if_true,Bool.true_and,Bool.and_true]
    exact i1
   ·have h2' : Op.bytesLess x.1.toList a.1.toList = false := h2
    simp [h1,h2,h2']
  ·simp [h1]
theorem Qb7 (xs : List Art) (hb : xs.length ≤ 140737488355328) (hz : ∀ a ∈ xs,Sz a.1) : QaX NN xs 0 = if artsL xs = true then some ((fun xs : List Art => decide (((xs.length : Int) : Int) ≤ 12)) xs) else some false := by
 obtain ⟨k,hk⟩ : ∃ j,NN = j + 1 := ⟨NN - 1,by have := NNb; omega⟩
 have hkb : 1000000000000000 < k := by rw [NN_eq] at hk; omega
 unfold QaX
 rw [show Qp.l2 NN NN = Qp.l2 NN (k + 1) by rw [← hk]]
 cases xs with
 | nil =>
  have n1 : ¬ (0 : Int) < (([] : List Art).length : Int) := by simp
  simp only [Qp.l2,Qp.g2,n1,decide_false,Bool.false_eq_true,if_false,artsL,if_true]
 | cons a r =>
  simp only [List.length_cons] at hb
  have i1 := Qb1 r [] a k (by simp; omega) (by omega) (fun b hb => hz b (by simp [hb]))
  simp only [QaX,List.nil_append,List.length_nil] at i1
  have n1 : (0 : Int) < ((a :: r).length : Int) := by simp only [List.length_cons]; omega
  have w2 := w64 (n := (0 : Int) + 1) (by omega) (by omega)
  have g1 : ∀ z,(a :: r).getD (0 : Int).toNat z = a := fun z => rfl
  simp only [Qp.l2,Qp.g2,n1,w2,g1,Int.le_refl,Int.lt_irrefl,and_self,decide_true,decide_false,if_true,Option.bind_some,Qbk a (hz a (by simp)),artsL]
  rcases Bool.eq_false_or_eq_true (artB a) with h1 | h1
  ·simp only [h1,Bool.not_true,Bool.false_eq_true,if_false,if_true,Bool.true_and]
   exact i1
  ·simp [h1]
theorem Qbz (xs : List Art) (hb : xs.length ≤ 140737488355328) (hz : ∀ a ∈ xs,Sz a.1) : Qo.f xs = some (artsB xs) := by
 unfold Qo.f Qo.fn Qo.top artsB
 have := Qb6 xs hb hz
 unfold QaW at this
 by_cases h : (12 : Int) < (xs.length : Int)
 ·have h2 : ¬ xs.length ≤ 12 := by omega
  simp only [h,h2,decide_true,decide_false,if_true,Bool.false_and]
 ·have h2 : xs.length ≤ 12 := by omega
  simp only [h,h2,decide_true,decide_false,Bool.false_eq_true,if_false,Bool.true_and]
  rw [this]
  cases artsL xs <;> rfl
theorem QbA (xs : List Art) (hb : xs.length ≤ 140737488355328) (hz : ∀ a ∈ xs,Sz a.1) : Qp.f xs = some (artsB xs) := by
 unfold Qp.f Qp.fn Qp.top artsB
 have := Qb7 xs hb hz
 unfold QaX at this
 rw [this]
 have e : decide (((xs.length : Int) : Int) ≤ 12) = decide (xs.length ≤ 12) := by
  by_cases h : xs.length ≤ 12
  ·have : (xs.length : Int) ≤ 12 := by omega
   simp [h,this]
  ·have : ¬ (xs.length : Int) ≤ 12 := by omega
   simp [h,this]
 simp only [e]
 cases artsL xs <;> simp
theorem VhK : ∀ (r : List Art) (x : Art),artsF x r = true → ∀ a ∈ r,artB a = true := by
 intro r
 induction r with
 | nil => intro x _ a ha; cases ha
 | cons b r ih =>
  intro x h a ha
  simp only [artsF,Bool.and_eq_true] at h
  rcases List.mem_cons.1 ha with rfl | ha
  ·exact h.1.1
  ·exact ih b h.2 a ha
theorem VW {xs : List Art} (h : artsB xs = true) : xs.length ≤ 12 ∧ ∀ a ∈ xs,artB a = true := by
 unfold artsB at h
 simp only [Bool.and_eq_true,decide_eq_true_eq] at h
 refine ⟨h.1,?_⟩
 cases xs with
 | nil => intro a ha; cases ha
 | cons b r =>
  intro a ha
  have h2 := h.2
  simp only [artsL,Bool.and_eq_true] at h2
  rcases List.mem_cons.1 ha with rfl | ha
  ·exact h2.1
  ·exact VhK r b h2.2 a ha
def artI (xs : List Art) (c : ByteArray) : Int := (V4 (fun l : Art => decide (l.1 = c)) 0 xs).elim (-1) (fun x => (x.1 : Int))
theorem Qa1 (xs : List Art) (c : ByteArray) (h : xs.length ≤ 140737488355328) : QA.f xs c = some (artI xs c) := by
 have := Vec (E := fun _ => True) (fun l : Art => decide (l.1 = c)) (fun i _ => some (i : Int)) (fun _ => some (-1)) (fun k xs i => QA.l2 NN k c xs xs.length i) ?_ ?_ xs (fun _ _ => trivial) (by omega) NN (NN_lt (by omega))
 ·refine this.trans ?_
  unfold artI
  cases V4 (fun l : Art => decide (l.1 = c)) 0 xs <;> rfl
 ·intro k p
  simp [QA.l2,QA.g2]
 ·intro k p l r _ c0 c1 c2 cw
  simp only [QA.l2,QA.g2,c0,c1,cw,and_self,and_true,true_and,decide_true,decide_false,if_true,if_false,Vd,Ve,Va,Vb,Vf,Option.bind_some,Bool.not_true,Bool.not_false,Bool.false_eq_true,Bool.true_eq_false,beq_self_eq_true,bne_self_eq_false,Int.toNat_natCast,Vax]
theorem Qba (xs : List Art) (c : ByteArray) (h : xs.length ≤ 140737488355328) : QW.f xs c = some (artI xs c) := by
 have := Vec (E := fun _ => True) (fun l : Art => decide (l.1 = c)) (fun i _ => some (i : Int)) (fun _ => some (-1)) (fun k xs i => QW.l2 NN k xs c i) ?_ ?_ xs (fun _ _ => trivial) (by omega) NN (NN_lt (by omega))
 ·refine this.trans ?_
  unfold artI
  cases V4 (fun l : Art => decide (l.1 = c)) 0 xs <;> rfl
 ·intro k p
  simp [QW.l2,QW.g2]
 ·intro k p l r _ c0 c1 c2 cw
  simp only [QW.l2,QW.g2,c0,c1,cw,and_self,and_true,true_and,decide_true,decide_false,if_true,if_false,Vd,Ve,Va,Vb,Vf,Option.bind_some,Bool.not_true,Bool.not_false,Bool.false_eq_true,Bool.true_eq_false,beq_self_eq_true,bne_self_eq_false,Int.toNat_natCast,Vax]
theorem Vau (xs : List Art) (c : ByteArray) : artI xs c < (xs.length : Int) := by
 unfold artI
 cases h : V4 (fun l : Art => decide (l.1 = c)) 0 xs with
 | none => simp only [Option.elim_none]; omega
 | some x =>
  have := Vco _ xs 0 x.1 x.2 h
  simp only [Option.elim_some]; omega
end Go.Pl

namespace Go.Pl
open Go.Ev
set_option linter.unusedVariables false
set_option linter.unusedSimpArgs false
abbrev Cue : Type := Int × Int × ByteArray × Int
abbrev Show : Type := List (Int × Int) × List Art × List Cue
def barB (b : Int × Int) : Bool := inB b.1 1 16 && inB b.2 100 5000
def VF (s : List (Int × Int)) : Bool := inB (s.length : Int) 1 20 && s.all barB
theorem Qbr (s : List (Int × Int)) (h : s.length ≤ 140737488355328) : QX.f s = some (VF s) := by
 have := V6 (E := fun _ => True) barB (fun _ => some true) (fun k xs i => QX.l4 NN k xs xs.length i) ?_ ?_ s (fun _ _ => trivial) (by omega) NN (NN_lt (by omega))
 ·unfold QX.f QX.fn QX.top VF
  rw [this]
  by_cases h1 : (s.length : Int) < 1
  ·have : inB (s.length : Int) 1 20 = false := by
    rw [Bool.eq_false_iff]; intro e; have := inB_iff.1 e; omega
   simp [h1,this]
  ·by_cases h2 : (20 : Int) < (s.length : Int)
   ·have : inB (s.length : Int) 1 20 = false := by
     rw [Bool.eq_false_iff]; intro e; have := inB_iff.1 e; omega
    simp [h1,h2,this]
   ·have : inB (s.length : Int) 1 20 = true := inB_iff.2 (by omega)
    simp only [h1,h2,this,decide_false,Bool.false_eq_true,if_false,if_true,Bool.true_and]
    cases s.all barB <;> rfl
 ·intro k p
  simp [QX.l4,QX.g4]
 ·intro k p a r _ c0 c1 cw
  simp only [QX.l4,QX.g4,c0,c1,cw,and_self,and_true,true_and,decide_true,decide_false,if_true,if_false,Vd,Ve,Va,Vb,Vf,Option.bind_some,Bool.not_true,Bool.not_false,Bool.false_eq_true,Bool.true_eq_false,beq_self_eq_true,bne_self_eq_false,Int.toNat_natCast,QaU,barB]
  rcases Bool.eq_false_or_eq_true (inB a.1 1 16) with h1 | h1 <;> rcases Bool.eq_false_or_eq_true (inB a.2 100 5000) with h2 | h2 <;> simp [h1,h2]
theorem Qb2 (s : List (Int × Int)) (h : s.length ≤ 140737488355328) : Q6.f s = some (VF s) := by
 have := V6 (E := fun _ => True) barB (fun xs => some (inB (xs.length : Int) 1 20)) (fun k xs i => Q6.l2 NN k xs i) ?_ ?_ s (fun _ _ => trivial) (by omega) NN (NN_lt (by omega))
 ·unfold Q6.f Q6.fn Q6.top VF
  rw [this]
  cases s.all barB <;> simp
 ·intro k p
  simp [Q6.l2,Q6.g2,QaT]
 ·intro k p a r _ c0 c1 cw
  simp only [Q6.l2,Q6.g2,c0,c1,cw,and_self,and_true,true_and,decide_true,decide_false,if_true,if_false,Vd,Ve,Va,Vb,Vf,Option.bind_some,Bool.not_true,Bool.not_false,Bool.false_eq_true,Bool.true_eq_false,beq_self_eq_true,bne_self_eq_false,Int.toNat_natCast,QaT,barB]
  rcases Bool.eq_false_or_eq_true (inB a.1 1 16) with h1 | h1 <;> rcases Bool.eq_false_or_eq_true (inB a.2 100 5000) with h2 | h2 <;> simp [h1,h2]
theorem VaM {s : List (Int × Int)} (h : VF s = true) : 1 ≤ s.length ∧ s.length ≤ 20 ∧ ∀ b ∈ s,(1 ≤ b.1 ∧ b.1 ≤ 16) ∧ (100 ≤ b.2 ∧ b.2 ≤ 5000) := by
 unfold VF at h
 rw [Bool.and_eq_true,inB_iff] at h
 refine ⟨by omega,by omega,fun b hb => ?_⟩
 have := List.all_eq_true.1 h.2 b hb
 unfold barB at this
 rw [Bool.and_eq_true,inB_iff,inB_iff] at this
 exact this
theorem Qbb (i : Int) {n : Int} (h0 : -1000000 ≤ n) (h1 : n ≤ 140737488355328) : QaC.f i n = some (inB i 0 (n - 1)) := by
 unfold QaC.f QaC.fn QaC.top
 rw [w64 (n := n - 1) (by omega) (by omega),QaU]; rfl
def beatB (s : List (Int × Int)) (bar beat : Int) : Bool := inB bar 0 ((s.length : Int) - 1) && inB beat 0 ((s.getD bar.toNat (0,0)).1 - 1)
theorem VfQ {s : List (Int × Int)} {i : Nat} (h : i < s.length) : s.getD i (0,0) ∈ s := by
 rw [List.getD_eq_getElem?_getD,List.getElem?_eq_getElem h]; exact List.getElem_mem h
theorem Vcp {s : List (Int × Int)} (h : VF s = true) (bar beat : Int) : QaJ.f s bar beat = some (beatB s bar beat) ∧ QaQ.f s bar beat = some (beatB s bar beat) := by
 obtain ⟨h1,h2,h3⟩ := VaM h
 unfold QaJ.f QaJ.fn QaJ.top QaQ.f QaQ.fn QaQ.top beatB
 rw [Qbb bar (n := (s.length : Int)) (by omega) (by omega),w64 (n := (s.length : Int) - 1) (by omega) (by omega),QaT]
 cases hb : inB bar 0 ((s.length : Int) - 1)
 ·exact ⟨rfl,rfl⟩
 ·have hbb := inB_iff.1 hb
  have hm := h3 _ (VfQ (s := s) (i := bar.toNat) (by omega))
  have w := w64 (n := (s.getD bar.toNat (0,0)).1 - 1) (by omega) (by omega)
  simp only [Option.bind_some,if_true,hbb.1,show bar < (s.length : Int) from by omega,and_self,w,QaU,QaT,Bool.true_and]
def barF (t : Int) (b : Int × Int) : Int := t + b.1 * b.2
def barsL (s : List (Int × Int)) (n : Nat) : Int := (s.take n).foldl barF 0
def timeL (s : List (Int × Int)) (bar beat : Int) : Int := barsL s bar.toNat + beat * (s.getD bar.toNat (0,0)).2
theorem Ve9 {b : Int × Int} (h : (1 ≤ b.1 ∧ b.1 ≤ 16) ∧ (100 ≤ b.2 ∧ b.2 ≤ 5000)) : 0 ≤ b.1 * b.2 ∧ b.1 * b.2 ≤ 80000 := by
 refine ⟨Int.mul_nonneg (by omega) (by omega),?_⟩
 have := Int.mul_le_mul h.1.2 h.2.2 (by omega) (by omega)
 omega
theorem VbR {s : List (Int × Int)} (h : VF s = true) {bar beat : Int} (hb : beatB s bar beat = true) : 0 ≤ bar ∧ bar < (s.length : Int) ∧ 0 ≤ beat ∧ beat ≤ 15 ∧ 0 ≤ beat * (s.getD bar.toNat (0,0)).2 ∧ beat * (s.getD bar.toNat (0,0)).2 ≤ 75000 := by
 obtain ⟨h1,h2,h3⟩ := VaM h
 unfold beatB at hb
 rw [Bool.and_eq_true,inB_iff,inB_iff] at hb
 have hm := h3 _ (VfQ (s := s) (i := bar.toNat) (by omega))
 have := Int.mul_le_mul (show beat ≤ 15 by omega) hm.2.2 (by omega) (by omega)
 exact ⟨by omega,by omega,by omega,by omega,Int.mul_nonneg (by omega) (by omega),by omega⟩
theorem Vbs {s : List (Int × Int)} (h : VF s = true) (n : Nat) : 0 ≤ barsL s n ∧ barsL s n ≤ 1600000 := by
 obtain ⟨h1,h2,h3⟩ := VaM h
 have key : ∀ (l : List (Int × Int)) (t : Int),(∀ b ∈ l,(1 ≤ b.1 ∧ b.1 ≤ 16) ∧ (100 ≤ b.2 ∧ b.2 ≤ 5000)) → t ≤ l.foldl barF t ∧ l.foldl barF t ≤ t + 80000 * (l.length : Int) := by
  intro l
  induction l with
  | nil => intro t _; simp
  | cons b l ih =>
   intro t hl
   have i := ih (barF t b) (fun x hx => hl x (by simp [hx]))
   have := Ve9 (hl b (by simp))
   unfold barF at i ⊢
   simp only [List.foldl_cons,List.length_cons]
   omega
 have := key (s.take n) 0 (fun b hb => h3 b (List.mem_of_mem_take hb))
 have hl : (s.take n).length ≤ 20 := by rw [List.length_take]; omega
 unfold barsL
 omega
theorem Qbm {s : List (Int × Int)} (h : VF s = true) {bar beat : Int} (hb : beatB s bar beat = true) : QK.f s bar beat = some (timeL s bar beat) := by
 obtain ⟨h1,h2,h3⟩ := VaM h
 obtain ⟨b1,b2,b3,b4,b5,b6⟩ := VbR h hb
 have hB := Vbs h bar.toNat
 have htl : (s.take bar.toNat).length ≤ 20 := by rw [List.length_take]; omega
 have := (VU (E := fun b : Int × Int => (1 ≤ b.1 ∧ b.1 ≤ 16) ∧ (100 ≤ b.2 ∧ b.2 ≤ 5000)) (fun p st => 0 ≤ st ∧ st ≤ 80000 * (p.length : Int)) (fun _ => barF) (fun st => some (if 0 < beat then IntKind.i64.wrap (st + IntKind.i64.wrap (beat * (s.getD bar.toNat (0,0)).2)) else st)) (fun k i st => QK.l3 NN k s bar beat st (s.take bar.toNat) (s.take bar.toNat).length i) (s.take bar.toNat) ?_ ?_ 0 (fun b hb => h3 b (List.mem_of_mem_take hb)) ⟨by omega,by simp⟩ (by omega) NN (NN_lt (by omega))).2
 ·rw [VP] at this
  unfold QK.f QK.fn QK.top
  rw [if_pos ⟨b1,by omega⟩]
  refine this.trans ?_
  show some (if 0 < beat then IntKind.i64.wrap (barsL s bar.toNat + IntKind.i64.wrap (beat * (s.getD bar.toNat (0,0)).2)) else barsL s bar.toNat) = _
  unfold timeL
  by_cases hz : 0 < beat
  ·rw [if_pos hz,w64 (n := beat * (s.getD bar.toNat (0,0)).2) (by omega) (by omega),w64 (by omega) (by omega)]
  ·rw [if_neg hz,show beat = 0 by omega]; simp
 ·intro k st _
  simp only [QK.l3,QK.g3,Int.lt_irrefl,decide_false,Bool.false_eq_true,if_false]
  by_cases hz : 0 < beat
  ·simp only [hz,decide_true,if_true,b1,b2,and_self]
  ·simp only [hz,decide_false,Bool.false_eq_true,if_false]
 ·intro k p b r st hx hbb hI c0 c1 c2 cw g
  have hp : p.length ≤ 20 := by omega
  have hbd := Ve9 hbb
  have w1 := w64 (n := b.1 * b.2) (by omega) (by omega)
  have w2 := w64 (n := st + b.1 * b.2) (by omega) (by omega)
  refine ⟨⟨by unfold barF; omega,by unfold barF; simp only [List.length_append,List.length_singleton]; omega⟩,?_⟩
  simp only [QK.l3,QK.g3,c0,c1,cw,g,and_self,and_true,true_and,decide_true,decide_false,if_true,if_false,Vd,Ve,Va,Vb,Vf,Option.bind_some,Bool.not_true,Bool.not_false,Bool.false_eq_true,Bool.true_eq_false,beq_self_eq_true,bne_self_eq_false,Int.toNat_natCast,w1,w2]
  rfl
theorem Qb3 {s : List (Int × Int)} (h : VF s = true) {bar beat : Int} (hb : beatB s bar beat = true) : Q7.f s bar beat = some (timeL s bar beat) := by
 obtain ⟨h1,h2,h3⟩ := VaM h
 obtain ⟨b1,b2,b3,b4,b5,b6⟩ := VbR h hb
 have hB := Vbs h bar.toNat
 have htl : (s.take bar.toNat).length = bar.toNat := by rw [List.length_take]; omega
 have := (VU (E := fun b : Int × Int => (1 ≤ b.1 ∧ b.1 ≤ 16) ∧ (100 ≤ b.2 ∧ b.2 ≤ 5000)) (fun p st => 0 ≤ st ∧ st ≤ 80000 * (p.length : Int)) (fun _ => barF) (fun st => some (IntKind.i64.wrap (st + IntKind.i64.wrap (beat * (s.getD bar.toNat (0,0)).2)))) (fun k i st => Q7.l3 NN k s bar beat st i) (s.take bar.toNat) ?_ ?_ 0 (fun b hb => h3 b (List.mem_of_mem_take hb)) ⟨by omega,by simp⟩ (by omega) NN (NN_lt (by omega))).2
 ·rw [VP] at this
  unfold Q7.f Q7.fn Q7.top
  refine this.trans ?_
  show some (IntKind.i64.wrap (barsL s bar.toNat + IntKind.i64.wrap (beat * (s.getD bar.toNat (0,0)).2))) = _
  unfold timeL
  rw [w64 (n := beat * (s.getD bar.toNat (0,0)).2) (by omega) (by omega),w64 (by omega) (by omega)]
 ·intro k st _
  have n1 : ¬ ((s.take bar.toNat).length : Int) < bar := by omega
  simp only [Q7.l3,Q7.g3,n1,decide_false,Bool.false_eq_true,if_false,b1,b2,and_self,if_true]
 ·intro k p b r st hx hbb hI c0 c1 c2 cw g
  have hp : p.length ≤ 20 := by omega
  have hbd := Ve9 hbb
  have w1 := w64 (n := b.1 * b.2) (by omega) (by omega)
  have w2 := w64 (n := st + b.1 * b.2) (by omega) (by omega)
  have n1 : (p.length : Int) < bar := by omega
  have n2 : (p.length : Int) < (s.length : Int) := by omega
  have g2 : ∀ z,s.getD p.length z = b := fun z => by
   have := g z
   rw [List.getD_eq_getElem?_getD,List.getElem?_take,if_pos (by omega),← List.getD_eq_getElem?_getD] at this
   exact this
  refine ⟨⟨by unfold barF; omega,by unfold barF; simp only [List.length_append,List.length_singleton]; omega⟩,?_⟩
  simp only [Q7.l3,Q7.g3,c0,n1,n2,cw,g2,and_self,and_true,true_and,decide_true,decide_false,if_true,if_false,Vd,Ve,Va,Vb,Vf,Option.bind_some,Bool.not_true,Bool.not_false,Bool.false_eq_true,Bool.true_eq_false,beq_self_eq_true,bne_self_eq_false,Int.toNat_natCast,w1,w2]
  rfl
def liftA (xs : List Art) (c : ByteArray) : Int := (xs.getD (artI xs c).toNat (ByteArray.empty,(0,(0,(0,(0,(0,(0,(0,0))))))))).2.2.2.1
theorem Vda {xs : List Art} (h : artsB xs = true) {c : ByteArray} (h0 : 0 ≤ artI xs c) : 0 ≤ liftA xs c ∧ liftA xs c ≤ 10000 := by
 have hb := Vau xs c
 have hm : xs.getD (artI xs c).toNat (ByteArray.empty,(0,(0,(0,(0,(0,(0,(0,0)))))))) ∈ xs := by
  rw [List.getD_eq_getElem?_getD,List.getElem?_eq_getElem (by omega)]; exact List.getElem_mem _
 have := (VW h).2 _ hm
 unfold artB at this
 simp only [Bool.and_eq_true,inB_iff] at this
 exact this.1.1.1.1.1.2
def fireT (x : Show) (c : Cue) : Int := timeL x.1 c.1 c.2.1 - liftA x.2.1 c.2.2.1
def cueB (x : Show) (c : Cue) : Bool := inB c.2.2.2 0 11 && decide (0 ≤ artI x.2.1 c.2.2.1) && beatB x.1 c.1 c.2.1 && decide (0 ≤ fireT x c)
theorem Qbs (x : Show) (c : Cue) (h1 : VF x.1 = true) (h2 : artsB x.2.1 = true) : QaD.f x c = some (if 0 ≤ artI x.2.1 c.2.2.1 ∧ beatB x.1 c.1 c.2.1 = true then (if fireT x c > -1 then fireT x c else -1) else -1) := by
 have hl := (VW h2).1
 have hbd := Vau x.2.1 c.2.2.1
 unfold QaD.f QaD.fn QaD.top
 rw [Qa1 x.2.1 _ (by omega)]
 simp only [Option.bind_some]
 by_cases ha : artI x.2.1 c.2.2.1 < 0
 ·rw [if_neg (by rw [decide_eq_true ha]; simp),if_neg (by omega)]
 ·rw [if_pos (decide_eq_false ha),(Vcp h1 _ _).1]
  simp only [Option.bind_some]
  rcases Bool.eq_false_or_eq_true (beatB x.1 c.1 c.2.1) with hb | hb
  rotate_left
  ·simp [hb]
  ·have hbb := VbR h1 hb
   have hB := Vbs h1 c.1.toNat
   have hL := Vda h2 (show 0 ≤ artI x.2.1 c.2.2.1 by omega)
   have hT : fireT x c = timeL x.1 c.1 c.2.1 - liftA x.2.1 c.2.2.1 := rfl
   have hTT : timeL x.1 c.1 c.2.1 = barsL x.1 c.1.toNat + c.2.1 * (x.1.getD c.1.toNat (0,0)).2 := rfl
   rw [if_neg (by simp [hb]),if_pos ⟨by omega,hbd⟩,Qbm h1 hb,if_pos ⟨by omega,hb⟩]
   show some (if IntKind.i64.wrap (timeL x.1 c.1 c.2.1 - liftA x.2.1 c.2.2.1) > -1 then IntKind.i64.wrap (timeL x.1 c.1 c.2.1 - liftA x.2.1 c.2.2.1) else -1) = _
   rw [w64 (by omega) (by omega)]; rfl
theorem Qbt (x : Show) (c : Cue) (h1 : VF x.1 = true) (h2 : artsB x.2.1 = true) (ha : 0 ≤ artI x.2.1 c.2.2.1) (hb : beatB x.1 c.1 c.2.1 = true) : QaE.f x c = some (fireT x c) := by
 have hl := (VW h2).1
 have hbd := Vau x.2.1 c.2.2.1
 have hbb := VbR h1 hb
 have hB := Vbs h1 c.1.toNat
 have hL := Vda h2 ha
 have hTT : timeL x.1 c.1 c.2.1 = barsL x.1 c.1.toNat + c.2.1 * (x.1.getD c.1.toNat (0,0)).2 := rfl
 unfold QaE.f QaE.fn QaE.top
 rw [Qb3 h1 hb,Qba x.2.1 _ (by omega)]
 simp only [Option.bind_some]
 rw [if_pos ⟨ha,hbd⟩]
 show some (IntKind.i64.wrap (timeL x.1 c.1 c.2.1 - liftA x.2.1 c.2.2.1)) = _
 rw [w64 (by omega) (by omega)]; rfl
def showB (x : Show) : Bool := VF x.1 && artsB x.2.1 && decide (x.2.2.length ≤ 20) && x.2.2.all (cueB x)
def ShowZ (x : Show) : Prop := x.1.length ≤ 140737488355328 ∧ (x.2.1.length ≤ 140737488355328 ∧ ∀ a ∈ x.2.1,Sz a.1) ∧ x.2.2.length ≤ 140737488355328
theorem Qbw (x : Show) (h : ShowZ x) : Qab.f x = some (showB x) := by
 unfold Qab.f Qab.fn Qab.top showB
 rw [Qbr x.1 h.1,Qbz x.2.1 h.2.1.1 h.2.1.2]
 rcases Bool.eq_false_or_eq_true (VF x.1) with h1 | h1
 ·rcases Bool.eq_false_or_eq_true (artsB x.2.1) with h2 | h2
  ·simp only [h1,h2,Option.bind_some,Bool.not_true,Bool.false_eq_true,if_true,Bool.true_and]
   by_cases h20 : (20 : Int) < (x.2.2.length : Int)
   ·have : ¬ x.2.2.length ≤ 20 := by omega
    simp [h20,this]
   ·have h21 : x.2.2.length ≤ 20 := by omega
    have := V6 (E := fun _ => True) (cueB x) (fun _ => some true) (fun k xs i => Qab.l4 NN k xs xs.length i x) ?_ ?_ x.2.2 (fun _ _ => trivial) (by omega) NN (NN_lt (by omega))
    ·simp only [h20,h21,decide_false,decide_true,Bool.false_eq_true,if_false,Bool.true_and]
     rw [this]
     cases x.2.2.all (cueB x) <;> rfl
    ·intro k p
     simp [Qab.l4,Qab.g4]
    ·intro k p c r _ c0 c1 cw
     simp only [Qab.l4,Qab.g4,c0,c1,cw,and_self,and_true,true_and,decide_true,decide_false,if_true,if_false,Vd,Ve,Va,Vb,Vf,Option.bind_some,Bool.not_true,Bool.not_false,Bool.false_eq_true,Bool.true_eq_false,beq_self_eq_true,bne_self_eq_false,Int.toNat_natCast,QaU,Qbs x c h1 h2,cueB]
     rcases Bool.eq_false_or_eq_true (inB c.2.2.2 0 11) with hi | hi
     rotate_left
     ·simp [hi]
     by_cases ha : 0 ≤ artI x.2.1 c.2.2.1
     ·rcases Bool.eq_false_or_eq_true (beatB x.1 c.1 c.2.1) with hb | hb
      rotate_left
      ·simp [hi,hb]
      ·by_cases ht : fireT x c > -1
       ·have t1 : 0 ≤ fireT x c := by omega
        have t2 : ¬ fireT x c < 0 := by omega
        simp [hi,hb,ha,ht,t1,t2]
       ·have t1 : ¬ 0 ≤ fireT x c := by omega
        simp [hi,hb,ha,ht,t1]
     ·simp [hi,ha]
  ·simp [h1,h2]
 ·simp [h1]
theorem Qa5 (x : Show) (h : ShowZ x) : Q4.f x = some (showB x) := by
 unfold Q4.f Q4.fn Q4.top showB
 rw [Qb2 x.1 h.1,QbA x.2.1 h.2.1.1 h.2.1.2]
 rcases Bool.eq_false_or_eq_true (VF x.1) with h1 | h1
 ·rcases Bool.eq_false_or_eq_true (artsB x.2.1) with h2 | h2
  ·simp only [h1,h2,Option.bind_some,Bool.not_true,Bool.false_eq_true,if_true,Bool.true_and]
   by_cases h20 : (20 : Int) < (x.2.2.length : Int)
   ·have : ¬ x.2.2.length ≤ 20 := by omega
    simp [h20,this]
   ·have h21 : x.2.2.length ≤ 20 := by omega
    have hxl := h.2.1.1
    have := (VU (E := fun _ => True) (fun p st => st = p.all (cueB x)) (fun _ st c => st && cueB x c) (fun st => some st) (fun k i st => if st = true then Q4.l4 NN k i x else some false) x.2.2 ?_ ?_ true (fun _ _ => trivial) rfl (by omega) NN (NN_lt (by omega)))
    ·simp only [h20,h21,decide_false,decide_true,Bool.false_eq_true,if_false,Bool.true_and]
     have t := this.2
     rw [if_pos rfl,this.1] at t
     exact t
    ·intro k st _
     cases st
     ·rfl
     ·simp [Q4.l4,Q4.g4]
    ·intro k p c r st hx _ hI c0 c1 c2 cw g
     refine ⟨by rw [hI,List.all_append]; simp,?_⟩
     cases st
     ·rfl
     ·simp only [if_true,Bool.true_and,Q4.l4,Q4.g4,c0,c1,cw,g,and_self,and_true,true_and,decide_true,decide_false,if_true,if_false,Vd,Ve,Va,Vb,Vf,Option.bind_some,Bool.not_true,Bool.not_false,Bool.false_eq_true,Bool.true_eq_false,beq_self_eq_true,bne_self_eq_false,Int.toNat_natCast,(Vcp h1 _ _).2,Qba x.2.1 _ hxl,QaT,cueB]
      rcases Bool.eq_false_or_eq_true (beatB x.1 c.1 c.2.1) with hb | hb
      rotate_left
      ·simp [hb]
      ·by_cases ha : 0 ≤ artI x.2.1 c.2.2.1
       ·have ha' : ¬ artI x.2.1 c.2.2.1 < 0 := by omega
        rcases Bool.eq_false_or_eq_true (inB c.2.2.2 0 11) with hi | hi
        rotate_left
        ·simp [hb,hi,ha']
        ·simp only [hb,hi,ha,ha',decide_true,decide_false,if_true,Bool.not_true,Bool.and_true,Bool.true_and,Option.bind_some,Qbt x c h1 h2 ha hb]
         by_cases ht : fireT x c < 0
         ·have : ¬ 0 ≤ fireT x c := by omega
          simp [ht,this]
         ·have : 0 ≤ fireT x c := by omega
          simp [ht,this]
       ·have ha' : artI x.2.1 c.2.2.1 < 0 := by omega
        simp [hb,ha,ha']
  ·simp [h1,h2]
 ·simp [h1]
end Go.Pl

namespace Go.Pl
open Go.Ev
set_option linter.unusedVariables false
set_option linter.unusedSimpArgs false
theorem Vfa : ∀ x : List UInt8,Op.bytesLess x x = false := by
 intro x
 induction x with
 | nil => rfl
 | cons a x ih => simp [Op.bytesLess,ih]
theorem Vge : ∀ x y z : List UInt8,Op.bytesLess x y = true → Op.bytesLess y z = true → Op.bytesLess x z = true := by
 intro x
 induction x with
 | nil =>
  intro y z h1 h2
  cases z with
  | nil => cases y <;> simp [Op.bytesLess] at h2
  | cons c z => rfl
 | cons a x ih =>
  intro y z h1 h2
  cases y with
  | nil => simp [Op.bytesLess] at h1
  | cons b y =>
   cases z with
   | nil => simp [Op.bytesLess] at h2
   | cons c z =>
    simp only [Op.bytesLess,Bool.or_eq_true,Bool.and_eq_true,decide_eq_true_eq,beq_iff_eq,UInt8.lt_iff_toNat_lt] at h1 h2 ⊢
    rcases h1 with h1 | ⟨rfl,h1⟩
    ·rcases h2 with h2 | ⟨rfl,h2⟩
     ·left; omega
     ·left; exact h1
    ·rcases h2 with h2 | ⟨rfl,h2⟩
     ·left; exact h2
     ·right; exact ⟨rfl,ih y z h1 h2⟩
theorem Vgf : ∀ (r : List Art) (x : Art),artsF x r = true → (x :: r).Pairwise fun a b => ltS a.1 b.1 = true := by
 intro r
 induction r with
 | nil => intro x _; simp
 | cons a r ih =>
  intro x h
  simp only [artsF,Bool.and_eq_true] at h
  have i := ih a h.2
  refine List.pairwise_cons.2 ⟨fun b hb => ?_,i⟩
  rcases List.mem_cons.1 hb with rfl | hb
  ·exact h.1.2
  ·exact Vge _ _ _ h.1.2 ((List.pairwise_cons.1 i).1 b hb)
theorem VhL {xs : List Art} (h : artsB xs = true) {i j : Nat} (hi : i < xs.length) (hj : j < xs.length) (he : (xs[i]).1 = (xs[j]).1) : i = j := by
 have hp : xs.Pairwise fun a b => ltS a.1 b.1 = true := by
  unfold artsB at h
  rw [Bool.and_eq_true] at h
  cases xs with
  | nil => simp
  | cons a r =>
   have h2 := h.2
   simp only [artsL,Bool.and_eq_true] at h2
   exact Vgf r a h2.2
 rw [List.pairwise_iff_getElem] at hp
 rcases Nat.lt_trichotomy i j with hlt | heq | hgt
 ·have := hp i j hi hj hlt
  rw [he] at this
  unfold ltS at this
  rw [Vfa] at this; cases this
 ·exact heq
 ·have := hp j i hj hi hgt
  rw [he] at this
  unfold ltS at this
  rw [Vfa] at this; cases this
theorem VfR {xs : List Art} {c : ByteArray} (h : 0 ≤ artI xs c) : ∃ hl : (artI xs c).toNat < xs.length,(xs[(artI xs c).toNat]).1 = c := by
 unfold artI at h ⊢
 cases hf : V4 (fun l : Art => decide (l.1 = c)) 0 xs with
 | none => rw [hf] at h; simp at h
 | some y =>
  obtain ⟨h1,h2,h3,h4⟩ := Vco _ xs 0 y.1 y.2 hf
  simp only [Option.elim_some,Int.toNat_natCast]
  rw [Nat.sub_zero] at h3
  refine ⟨by omega,?_⟩
  have := (List.getElem?_eq_some_iff.1 h3).2
  rw [this]
  simpa using h4
def cueA (x : Show) (f : Int) : ByteArray := (x.2.2.getD f.toNat (0,(0,(ByteArray.empty,0)))).2.2.1
def cntN (x : Show) (fired : List Int) (c : ByteArray) : Nat := fired.countP fun f => decide (cueA x f = c)
theorem Vei (x : Show) (p : List Int) (f : Int) (c : ByteArray) : cntN x (p ++ [f]) c = cntN x p c + if cueA x f = c then 1 else 0 := by
 unfold cntN
 rw [List.countP_append]
 by_cases h : cueA x f = c <;> simp [h]
theorem VcD (x : Show) (p : List Int) (c : ByteArray) : cntN x p c ≤ p.length := List.countP_le_length
abbrev Bk : Type := Int × ByteArray × Int
def bookF (x : Show) (fired : List Int) (out : List Bk) (a : Art) : List Bk := if 0 < cntN x fired a.1 then out ++ [(1,a.1,(cntN x fired a.1 : Int))] else out
def bookL (x : Show) (fired : List Int) (list : List Bk) : List Bk := x.2.1.foldl (bookF x fired) list
def limR (out : List Bk) : List Bk × Int := if 60 < out.length then ([],3) else if VB out = true then (out,0) else ([],5)
def Van (x : Show) (fired : List Int) : Bool := fired.all (inB · 0 ((x.2.2.length : Int) - 1)) && risB fired
def bookS (list : List Bk) (x : Show) (fired : List Int) : List Bk × Int :=
 if VB list = true then (if showB x = true then (if Van x fired = true then limR (bookL x fired list) else ([],2)) else ([],1)) else ([],1)
theorem Qbe (xs : List Bk) (hl : xs.length ≤ 1000000) (hz : ∀ b ∈ xs,Sz b.2.1) : Qm.f xs = some (VB xs) := by
 have := Qa7 xs [] NN (by simp) hz (by simpa using hl) (NN_lt (by omega))
 unfold Qm.f Qm.fn Qm.top VB
 rw [Bool.and_comm]
 simpa using this
theorem Qbf (xs : List Bk) (hl : xs.length ≤ 1000000) (hz : ∀ b ∈ xs,Sz b.2.1) : Qu.f xs = some (VB xs) := by
 have := Qbo xs [] NN (by simp) hz (by simpa using hl) (NN_lt (by omega))
 unfold Qu.f Qu.fn Qu.top VB
 simp only [List.nil_append,List.length_nil] at this
 by_cases h1 : (60 : Int) < xs.length
 ·have h2 : ¬ xs.length ≤ 60 := by omega
  simp [h1,h2]
 ·have h2 : xs.length ≤ 60 := by omega
  simp only [h1,h2,decide_false,Bool.false_eq_true,if_false,decide_true,Bool.true_and]
  exact this
theorem VaH {x : Show} (h : showB x = true) : VF x.1 = true ∧ artsB x.2.1 = true ∧ x.2.2.length ≤ 20 ∧ ∀ c ∈ x.2.2,0 ≤ artI x.2.1 c.2.2.1 := by
 unfold showB at h
 simp only [Bool.and_eq_true,decide_eq_true_eq] at h
 refine ⟨h.1.1.1,h.1.1.2,h.1.2,fun c hc => ?_⟩
 have := List.all_eq_true.1 h.2 c hc
 unfold cueB at this
 simp only [Bool.and_eq_true,decide_eq_true_eq] at this
 exact this.1.1.2
theorem Vd0 {x : Show} (h : showB x = true) {f : Int} (h0 : 0 ≤ f) (h1 : f < (x.2.2.length : Int)) : 0 ≤ artI x.2.1 (cueA x f) := by
 refine (VaH h).2.2.2 _ ?_
 rw [List.getD_eq_getElem?_getD,List.getElem?_eq_getElem (by omega)]; exact List.getElem_mem _
theorem Vej (x : Show) (fired : List Int) (out : List Bk) (a : Art) : (bookF x fired out a).length ≤ out.length + 1 := by unfold bookF; split <;> simp
theorem Vfb (x : Show) (fired : List Int) {out : List Bk} {a : Art} (h : ∀ b ∈ out,Sz b.2.1) (ha : Sz a.1) : ∀ b ∈ bookF x fired out a,Sz b.2.1 := by
 intro b hb
 unfold bookF at hb
 split at hb
 ·rcases List.mem_append.1 hb with h1 | h1
  ·exact h b h1
  ·rw [List.mem_singleton.1 h1]; exact ha
 ·exact h b hb
theorem Viv (out : List Bk) (b : Bk) (h : out.length ≤ 2000000) : out.length + [b].length < room 32 := by rw [Vaa]; simp; omega
theorem Qcd (x : Show) (fired : List Int) (L : List Int → Int → Show → List Bk → Option (List Bk × Int)) (k : Nat) (a : Art) (hk : k < x.2.1.length) (hka : k ≤ 1000) (ha : ∀ z,x.2.1.getD k z = a) (out : List Bk) (hf : ∀ f ∈ fired,0 ≤ f ∧ f < (x.2.2.length : Int)) (hl : fired.length ≤ 1000000) (ho : out.length ≤ 2000000) :
  Qk.l11 NN L NN fired k 0 0 x out = L fired ((k : Int) + 1) x (bookF x fired out a) := by
 have := VU (E := fun f => 0 ≤ f ∧ f < (x.2.2.length : Int)) (fun p st => st = (cntN x p a.1 : Int)) (fun _ st f => if cueA x f = a.1 then st + 1 else st) (fun st => if 0 < st then L fired ((k : Int) + 1) x (out ++ [(1,a.1,st)]) else L fired ((k : Int) + 1) x out) (fun m i st => Qk.l11 NN L m fired k st i x out) fired ?_ ?_ 0 hf rfl (by omega) NN (NN_lt (by omega))
 ·refine this.2.trans ?_
  rw [this.1]
  unfold bookF
  by_cases h : 0 < cntN x fired a.1
  ·rw [if_pos (by omega),if_pos h]
  ·rw [if_neg (by omega),if_neg h]
 ·intro m st hst
  have w := w64 (n := (k : Int) + 1) (by omega) (by omega)
  have c0 : (0 : Int) ≤ (k : Int) := by omega
  have c1 : (k : Int) < (x.2.1.length : Int) := by omega
  simp only [Qk.l11,Qk.g11,Int.lt_irrefl,decide_false,Bool.false_eq_true,if_false,w,c0,c1,and_self,if_true,Int.toNat_natCast,ha,Viv out _ ho]
  by_cases h : 0 < st
  ·simp only [h,decide_true,if_true]
   exact if_pos (by rw [Vaa]; simp; omega)
  ·simp [h]
 ·intro m p f r st hx hfr hst c0 c1 c2 cw g
  have c3 : (0 : Int) ≤ (k : Int) := by omega
  have c4 : (k : Int) < (x.2.1.length : Int) := by omega
  have hle := VcD x p a.1
  have hp : p.length ≤ 1000000 := by omega
  have w := w64 (n := st + 1) (by omega) (by omega)
  refine ⟨by rw [hst,Vei]; split <;> simp,?_⟩
  have e : (x.2.2.getD f.toNat (0,(0,(ByteArray.empty,0)))).2.2.1 = cueA x f := rfl
  simp only [Qk.l11,Qk.g11,c0,c1,c3,c4,cw,g,and_self,and_true,true_and,decide_true,decide_false,if_true,if_false,Vd,Ve,Va,Vb,Vf,Option.bind_some,Bool.not_true,Bool.not_false,Bool.false_eq_true,Bool.true_eq_false,beq_self_eq_true,bne_self_eq_false,Int.toNat_natCast,hfr.1,hfr.2,Int.toNat_natCast,ha,e,Vax,w]
  by_cases h : cueA x f = a.1
  ·simp [h]
  ·simp [h]
theorem Qcb (x : Show) (fired : List Int) (list : List Bk) (hx : artsB x.2.1 = true) (hax : ∀ a ∈ x.2.1,Sz a.1) (hf : ∀ f ∈ fired,0 ≤ f ∧ f < (x.2.2.length : Int)) (hl : fired.length ≤ 1000000) (ho : list.length ≤ 900000) (hz : ∀ b ∈ list,Sz b.2.1) :
  Qk.l7 NN NN fired 0 x list = some (limR (bookL x fired list)) := by
 have h12 := (VW hx).1
 have := VU (E := fun a : Art => Sz a.1) (fun p st => st.length ≤ list.length + p.length ∧ ∀ b ∈ st,Sz b.2.1) (fun _ => bookF x fired) (fun st => some (limR st)) (fun m i st => Qk.l7 NN m fired i x st) x.2.1 ?_ ?_ list hax ⟨by simp,hz⟩ (by omega) NN (NN_lt (by omega))
 ·rw [VP] at this
  exact this.2
 ·intro m st hst
  have n1 := hst.1
  simp only [Qk.l7,Qk.g7,Int.lt_irrefl,decide_false,Bool.false_eq_true,if_false]
  unfold Qaz.f Qaz.fn Qaz.top limR
  rw [Qbe st (by omega) hst.2]
  by_cases h60 : 60 < st.length
  ·have : (60 : Int) < (st.length : Int) := by omega
   simp [h60,this]
  ·have : ¬ (60 : Int) < (st.length : Int) := by omega
   cases hb : VB st <;> simp [h60,this]
 ·intro m p a r st hxs ha hI c0 c1 c2 cw g
  have hp : p.length ≤ 12 := by omega
  have hI1 := hI.1
  have hlen := Vej x fired st a
  refine ⟨⟨by simp only [List.length_append,List.length_singleton]; omega,Vfb x fired hI.2 ha⟩,?_⟩
  simp only [Qk.l7,Qk.g7,c1,decide_true,if_true]
  exact Qcd x fired _ p.length a (by omega) (by omega) g st hf hl (by omega)
theorem QbV (list : List Bk) (x : Show) (fired : List Int) (hl : list.length ≤ 900000) (hz : ∀ b ∈ list,Sz b.2.1) (hx : ShowZ x) (hf : fired.length ≤ 1000000) : Qk.f list x fired = some (bookS list x fired) := by
 unfold Qk.f Qk.fn Qk.top bookS
 rw [Qbe list (by omega) hz,Qa5 x hx]
 cases hb : VB list
 ·rfl
 cases hs : showB x
 ·rfl
 have hsi := VaH hs
 simp only [Option.bind_some,Bool.not_true,Bool.false_eq_true,if_true,if_false]
 rw [QbR fired (x.2.2.length : Int) (wf64.2 (by omega)) (by omega)]
 show (if (!Van x fired) = true then _ else _) = _
 cases hfb : Van x fired
 ·rfl
 ·unfold Van at hfb
  rw [Bool.and_eq_true] at hfb
  have hin : ∀ f ∈ fired,0 ≤ f ∧ f < (x.2.2.length : Int) := fun f hf => by
   have := inB_iff.1 (List.all_eq_true.1 hfb.1 f hf)
   omega
  simp only [Bool.not_true,Bool.false_eq_true,if_false,if_true]
  rw [if_pos (by rw [Vaa]; simp; omega),List.nil_append]
  exact Qcb x fired list hsi.2.1 hx.2.1.2 hin hf hl hz
def cntsL (x : Show) (p : List Int) : List Int := x.2.1.map fun a => (cntN x p a.1 : Int)
theorem Vdb {x : Show} (h : artsB x.2.1 = true) (p : List Int) (f : Int) (ha : 0 ≤ artI x.2.1 (cueA x f)) (hp : p.length ≤ 1000000) :
  (cntsL x p).set (artI x.2.1 (cueA x f)).toNat (IntKind.i64.wrap ((cntsL x p).getD (artI x.2.1 (cueA x f)).toNat 0 + 1)) = cntsL x (p ++ [f]) := by
 obtain ⟨hl,he⟩ := VfR ha
 have hg : (cntsL x p).getD (artI x.2.1 (cueA x f)).toNat 0 = (cntN x p (cueA x f) : Int) := by
  unfold cntsL
  rw [List.getD_eq_getElem?_getD,List.getElem?_map,List.getElem?_eq_getElem hl]
  simp only [Option.map_some,Option.getD_some,he]
 have hle := VcD x p (cueA x f)
 rw [hg,w64 (by omega) (by omega)]
 apply List.ext_getElem
 ·simp [cntsL]
 ·intro i h1 h2
  have hi : i < x.2.1.length := by simpa [cntsL] using h2
  rw [List.getElem_set]
  unfold cntsL
  simp only [List.getElem_map,Vei]
  by_cases e : (artI x.2.1 (cueA x f)).toNat = i
  ·subst e
   rw [if_pos rfl,he]
   simp
  ·rw [if_neg e]
   have : ¬ cueA x f = (x.2.1[i]).1 := fun e2 => e (VhL h hl hi (by rw [he,e2]))
   rw [if_neg this]; simp
theorem Qb9 (x : Show) (fired : List Int) (list : List Bk) (hx : artsB x.2.1 = true) (hax : ∀ a ∈ x.2.1,Sz a.1) (ho : list.length ≤ 900000) (hz : ∀ b ∈ list,Sz b.2.1) :
  Qj.l13 NN NN (x.2.1.length : Int) 0 x list (cntsL x fired) = some (limR (bookL x fired list)) := by
 have h12 := (VW hx).1
 have hcl : (cntsL x fired).length = x.2.1.length := by simp [cntsL]
 have := VU (E := fun a : Art => Sz a.1) (fun p st => st.length ≤ list.length + p.length ∧ ∀ b ∈ st,Sz b.2.1) (fun _ => bookF x fired) (fun st => some (limR st)) (fun m i st => Qj.l13 NN m (x.2.1.length : Int) i x st (cntsL x fired)) x.2.1 ?_ ?_ list hax ⟨by simp,hz⟩ (by omega) NN (NN_lt (by omega))
 ·rw [VP] at this
  exact this.2
 ·intro m st hst
  have n1 := hst.1
  simp only [Qj.l13,Qj.g13,Int.lt_irrefl,decide_false,Bool.false_eq_true,if_false]
  unfold limR
  rw [Qbf st (by omega) hst.2]
  by_cases h60 : 60 < st.length
  ·have : (60 : Int) < (st.length : Int) := by omega
   simp [h60,this]
  ·have : ¬ (60 : Int) < (st.length : Int) := by omega
   cases hb : VB st <;> simp [h60,this]
 ·intro m p a r st hxs ha hI c0 c1 c2 cw g
  have hp : p.length ≤ 12 := by omega
  have hI1 := hI.1
  have hlen := Vej x fired st a
  refine ⟨⟨by simp only [List.length_append,List.length_singleton]; omega,Vfb x fired hI.2 ha⟩,?_⟩
  have c3 : (p.length : Int) < ((cntsL x fired).length : Int) := by omega
  have hc : ∀ z,(cntsL x fired).getD p.length z = (cntN x fired a.1 : Int) := fun z => by
   have hpl : p.length < x.2.1.length := by omega
   have hge := g (ByteArray.empty,(0,(0,(0,(0,(0,(0,(0,0))))))))
   rw [List.getD_eq_getElem?_getD,List.getElem?_eq_getElem hpl,Option.getD_some] at hge
   unfold cntsL
   rw [List.getD_eq_getElem?_getD,List.getElem?_map,List.getElem?_eq_getElem hpl]
   simp only [Option.map_some,Option.getD_some,hge]
  simp only [Qj.l13,Qj.g13,c0,c1,c3,cw,and_self,and_true,true_and,decide_true,decide_false,if_true,if_false,Vd,Ve,Va,Vb,Vf,Option.bind_some,Bool.not_true,Bool.not_false,Bool.false_eq_true,Bool.true_eq_false,beq_self_eq_true,bne_self_eq_false,Int.toNat_natCast,Int.toNat_natCast,hc,g]
  unfold bookF
  by_cases h : 0 < cntN x fired a.1
  ·have h' : (0 : Int) < (cntN x fired a.1 : Int) := by omega
   simp only [h,h',decide_true,if_true]
   exact if_pos (by rw [Vaa]; simp; omega)
  ·have h' : ¬ (0 : Int) < (cntN x fired a.1 : Int) := by omega
   simp only [h,h',decide_false,Bool.false_eq_true,if_false]
theorem Qcc (x : Show) (hx : showB x = true) (list : List Bk) (ho : list.length ≤ 900000) : ∀ (r p : List Int) (y : Int) (k : Nat),p.length + r.length + 1 ≤ 1000000 → r.length < k →
  Qj.l5 NN k list (p ++ [y] ++ r) (p ++ [y] ++ r) (p ++ [y] ++ r).length ((p.length : Int) + 1) x (cntsL x (p ++ [y])) = if (r.all (inB · 0 ((x.2.2.length : Int) - 1)) && risF y r) = true then Qj.l13 NN NN (x.2.1.length : Int) 0 x list (cntsL x (p ++ [y] ++ r)) else some ([],2) := by
 have hsi := VaH hx
 have hxl := (VW hsi.2.1).1
 intro r
 induction r with
 | nil =>
  intro p y k _ hk
  obtain ⟨k,rfl⟩ : ∃ j,k = j + 1 := ⟨k - 1,by omega⟩
  have n1 : ¬ (p.length : Int) + 1 < ((p ++ [y]).length : Int) := by simp
  rw [List.append_nil]
  have hcl : ((cntsL x (p ++ [y])).length : Int) = (x.2.1.length : Int) := by simp [cntsL]
  simp only [Qj.l5,Qj.g5,n1,decide_false,Bool.false_eq_true,if_false,hcl,risF,List.all_nil,Bool.and_self,if_true,List.nil_append,List.append_nil]
  rw [if_pos (by rw [Vaa]; simp; omega)]
 | cons f r ih =>
  intro p y k hb hk
  simp only [List.length_cons] at hb hk
  obtain ⟨k,rfl⟩ : ∃ j,k = j + 1 := ⟨k - 1,by omega⟩
  have hl : ((p ++ [y] ++ f :: r).length : Int) = p.length + r.length + 2 := by simp; omega
  have w1 := w64 (n := (p.length : Int) + 1 - 1) (by omega) (by omega)
  have w2 := w64 (n := (p.length : Int) + 1 + 1) (by omega) (by omega)
  have c1 : (p.length : Int) + 1 < ((p ++ [y] ++ f :: r).length : Int) := by omega
  have c2 : (0 : Int) ≤ (p.length : Int) + 1 - 1 := by omega
  have c3 : (p.length : Int) + 1 - 1 < ((p ++ [y] ++ f :: r).length : Int) := by omega
  have c4 : (0 : Int) ≤ (p.length : Int) + 1 := by omega
  have c5 : (0 : Int) < (p.length : Int) + 1 := by omega
  have g1 : ∀ z,(p ++ [y] ++ f :: r).getD ((p.length : Int) + 1).toNat z = f := fun z => by
   rw [show ((p.length : Int) + 1).toNat = (p ++ [y]).length by simp,Va]
  have g2 : ∀ z,(p ++ [y] ++ f :: r).getD ((p.length : Int) + 1 - 1).toNat z = y := fun z => by
   rw [show ((p.length : Int) + 1 - 1).toNat = p.length by omega,Vb0]
  have i1 := ih (p ++ [y]) f k (by simp; omega) (by omega)
  have e1 : (((p ++ [y]).length : Nat) : Int) + 1 = (p.length : Int) + 1 + 1 := by simp
  have e2 : p ++ [y] ++ [f] ++ r = p ++ [y] ++ f :: r := by simp
  rw [e1,e2] at i1
  have eA : ∀ f : Int,(x.2.2.getD f.toNat (0,(0,(ByteArray.empty,0)))).2.2.1 = cueA x f := fun _ => rfl
  simp only [Qj.l5,Qj.g5,w1,w2,c1,c2,c3,c4,c5,g1,g2,and_self,decide_true,if_true,Option.bind_some,Qbb f (n := (x.2.2.length : Int)) (by omega) (by omega),eA,List.all_cons,risF]
  rcases Bool.eq_false_or_eq_true (inB f 0 ((x.2.2.length : Int) - 1)) with hf | hf
  ·have hff := inB_iff.1 hf
   by_cases hle : f ≤ y
   ·have : ¬ y < f := by omega
    simp [hf,hle,this]
   ·have hlt : y < f := by omega
    have ha := Vd0 hx (f := f) (by omega) (by omega)
    have hbd := Vau x.2.1 (cueA x f)
    have hcl : ((cntsL x (p ++ [y])).length : Int) = (x.2.1.length : Int) := by simp [cntsL]
    have hu := Vdb hsi.2.1 (p ++ [y]) f ha (by simp; omega)
    simp only [hf,hle,hlt,hff.1,show f < (x.2.2.length : Int) from by omega,decide_false,decide_true,Bool.not_true,Bool.true_and,Bool.false_eq_true,if_true,if_false,and_self,Qa1 x.2.1 _ (show x.2.1.length ≤ 140737488355328 by omega),Option.bind_some,ha,hcl,hbd,hu]
    exact i1
  ·simp [hf]
theorem Qca (x : Show) (hs : showB x = true) (list : List Bk) (hl : list.length ≤ 900000) (hz : ∀ b ∈ list,Sz b.2.1) (hx : ShowZ x) (fired : List Int) (hf : fired.length ≤ 1000000) :
  Qj.l5 NN NN list fired fired (fired.length : Int) 0 x (cntsL x []) = some (if Van x fired = true then limR (bookL x fired list) else ([],2)) := by
 have hsi := VaH hs
 have hxl := (VW hsi.2.1).1
 obtain ⟨k,hk⟩ : ∃ j,NN = j + 1 := ⟨NN - 1,by have := NNb; omega⟩
 have hkb : 1000000000000000 < k := by rw [NN_eq] at hk; omega
 rw [show Qj.l5 NN NN = Qj.l5 NN (k + 1) by rw [← hk]]
 have hcl : ((cntsL x []).length : Int) = (x.2.1.length : Int) := by simp [cntsL]
 cases fired with
 | nil =>
  have n1 : ¬ (0 : Int) < (([] : List Int).length : Int) := by simp
  simp only [Qj.l5,Qj.g5,n1,decide_false,Bool.false_eq_true,if_false,hcl,List.nil_append]
  rw [if_pos (by rw [Vaa]; simp; omega),Qb9 x [] list hsi.2.1 hx.2.1.2 hl hz]
  simp [Van,risB]
 | cons f r =>
  simp only [List.length_cons] at hf
  have i1 := Qcc x hs list hl r [] f k (by simp; omega) (by omega)
  simp only [List.nil_append,List.length_nil] at i1
  have n1 : (0 : Int) < ((f :: r).length : Int) := by simp only [List.length_cons]; omega
  have w2 := w64 (n := (0 : Int) + 1) (by omega) (by omega)
  have g1 : ∀ z,(f :: r).getD (0 : Int).toNat z = f := fun z => rfl
  have eA : ∀ f : Int,(x.2.2.getD f.toNat (0,(0,(ByteArray.empty,0)))).2.2.1 = cueA x f := fun _ => rfl
  simp only [Qj.l5,Qj.g5,n1,w2,g1,Int.le_refl,Int.lt_irrefl,and_self,decide_true,decide_false,Bool.false_eq_true,if_true,if_false,Option.bind_some,Qbb f (n := (x.2.2.length : Int)) (by omega) (by omega),eA]
  have hfb : Van x (f :: r) = (inB f 0 ((x.2.2.length : Int) - 1) && (r.all (inB · 0 ((x.2.2.length : Int) - 1)) && risF f r)) := by
   unfold Van
   rw [List.all_cons,Veg,Bool.and_assoc]
  rw [hfb]
  rcases Bool.eq_false_or_eq_true (inB f 0 ((x.2.2.length : Int) - 1)) with hfi | hfi
  ·have hff := inB_iff.1 hfi
   have ha := Vd0 hs (f := f) (by omega) (by omega)
   have hbd := Vau x.2.1 (cueA x f)
   have hu := Vdb hsi.2.1 [] f ha (by simp)
   rw [List.nil_append] at hu
   simp only [hfi,hff.1,show f < (x.2.2.length : Int) from by omega,Bool.not_true,Bool.true_and,if_true,and_self,Qa1 x.2.1 _ (show x.2.1.length ≤ 140737488355328 by omega),Option.bind_some,ha,hcl,hbd,hu]
   have e0 : ((0 : Nat) : Int) = 0 := rfl
   rw [show [f] ++ r = f :: r from rfl,e0] at i1
   rw [i1,Qb9 x (f :: r) list hsi.2.1 hx.2.1.2 hl hz]
   split <;> rfl
  ·simp [hfi]
theorem VhM (x : Show) : List.replicate (x.2.1.length : Int).toNat (0 : Int) = cntsL x [] := by
 unfold cntsL cntN
 rw [Int.toNat_natCast]
 apply List.ext_getElem
 ·simp
 ·intro i h1 h2; simp
theorem QbW (list : List Bk) (x : Show) (fired : List Int) (hl : list.length ≤ 900000) (hz : ∀ b ∈ list,Sz b.2.1) (hx : ShowZ x) (hf : fired.length ≤ 1000000) : Qj.f list x fired = some (bookS list x fired) := by
 unfold Qj.f Qj.fn Qj.top bookS
 rw [Qbf list (by omega) hz,Qbw x hx]
 rcases Bool.eq_false_or_eq_true (VB list) with hb | hb
 rotate_left
 ·simp [hb]
 rcases Bool.eq_false_or_eq_true (showB x) with hs | hs
 rotate_left
 ·simp [hb,hs]
 have hsi := VaH hs
 have hxl := (VW hsi.2.1).1
 have hr : (x.2.1.length : Int) < room 8 := by rw [room8]; omega
 have h0 : (0 : Int) ≤ (x.2.1.length : Int) := by omega
 rw [hb,hs,Option.bind_some,if_pos (show (!true) = false from rfl),Option.bind_some,if_neg (show ¬ (!true) = true by simp),if_pos ⟨h0,hr,rfl⟩,VhM,if_pos rfl,if_pos rfl]
 exact Qca x hs list hl hz hx fired hf
end Go.Pl

namespace Go.Pl
open Go.Ev
set_option linter.unusedVariables false
noncomputable section
end
end Go.Pl

namespace Go.Pl
open Go.Ev
set_option linter.unusedVariables false
set_option linter.unusedSimpArgs false
theorem VdF : room 80 = 1759218604441 := by decide
theorem Vcq {xs : List ByteArray} {i : Nat} (h : i < xs.length) : xs.getD i ByteArray.empty ∈ xs := by
 rw [List.getD_eq_getElem?_getD,List.getElem?_eq_getElem h]; exact List.getElem_mem h
def nam6 : List ByteArray := [(⟨#[97,115,116,101,114]⟩ : ByteArray),(⟨#[99,111,109,101,116]⟩ : ByteArray),(⟨#[100,97,104,108,105,97]⟩ : ByteArray),(⟨#[112,97,108,109]⟩ : ByteArray),(⟨#[112,101,111,110,121]⟩ : ByteArray),(⟨#[119,105,108,108,111,119]⟩ : ByteArray)]
theorem ViZ : Qar.f = some nam6 := rfl
theorem Vdc : nam6.length = 6 := rfl
theorem Viw : ∀ c ∈ nam6,c.size ≤ 100 := by
 intro c hc
 unfold nam6 at hc
 simp only [List.mem_cons,List.not_mem_nil,or_false] at hc
 rcases hc with h | h | h | h | h | h <;> (rw [h]; exact Nat.le_of_ble_eq_true rfl)
theorem VfC {s : List Int × Int × Int} (hs : SrcOk s) : ∃ u s',QaA.f s = some (u,s') ∧ SrcOk s' ∧ u.size ≤ 100 := by
 unfold QaA.f QaA.fn QaA.top
 obtain ⟨a,s1,e1,o1,a0,a1⟩ := Vq hs 12 (by omega)
 rw [e1]
 simp only [Option.bind_some]
 rw [if_pos ⟨a0,by simp only [List.length_cons,List.length_nil]; omega⟩]
 refine ⟨_,_,rfl,o1,?_⟩
 have hm := Vcq (xs := [(⟨#[97,100,97]⟩ : ByteArray),(⟨#[98,114,117,110,111]⟩ : ByteArray),(⟨#[99,108,97,114,97]⟩ : ByteArray),(⟨#[100,111,114,97]⟩ : ByteArray),(⟨#[101,109,105,108]⟩ : ByteArray),(⟨#[102,114,105,100,97]⟩ : ByteArray),(⟨#[103,117,115,116,97,118]⟩ : ByteArray),(⟨#[104,97,110,110,97]⟩ : ByteArray),(⟨#[105,118,97,110]⟩ : ByteArray),(⟨#[106,97,110,97]⟩ : ByteArray),(⟨#[107,97,114,108]⟩ : ByteArray),(⟨#[108,101,110,97]⟩ : ByteArray)]) (i := a.toNat) (by simp only [List.length_cons,List.length_nil]; omega)
 revert hm
 generalize List.getD _ a.toNat ByteArray.empty = c
 intro hc
 simp only [List.mem_cons,List.not_mem_nil,or_false] at hc
 rcases hc with h | h | h | h | h | h | h | h | h | h | h | h <;> (rw [h]; exact Nat.le_of_ble_eq_true rfl)
theorem VgX {s : List Int × Int × Int} (hs : SrcOk s) : ∃ u s',Qad.f s = some (u,s') ∧ SrcOk s' ∧ u.size ≤ 100 := by
 unfold Qad.f Qad.fn Qad.top
 obtain ⟨a,s1,e1,o1,a0,a1⟩ := Vq hs 24 (by omega)
 obtain ⟨b,s2,e2,o2,b0,b1⟩ := Vq o1 6 (by omega)
 obtain ⟨u,s3,e3,o3,u1⟩ := VfC o1
 rw [e1]
 simp only [Option.bind_some,e2,e3]
 split
 ·rw [if_pos ⟨b0,by simp only [List.length_cons,List.length_nil]; omega⟩]
  refine ⟨_,_,rfl,o2,?_⟩
  have hm := Vcq (xs := [(⟨#[]⟩ : ByteArray),(⟨#[65,100,97]⟩ : ByteArray),(⟨#[97,49]⟩ : ByteArray),(⟨#[97,98,99,100,101,102,103,104,105,106,107,108,109,110,111,112]⟩ : ByteArray),(⟨#[97,98,99,100,101,102,103,104,105,106,107,108,109,110,111,112,113]⟩ : ByteArray),(⟨#[97,32,98]⟩ : ByteArray)]) (i := b.toNat) (by simp only [List.length_cons,List.length_nil]; omega)
  revert hm
  generalize List.getD _ b.toNat ByteArray.empty = c
  intro hc
  simp only [List.mem_cons,List.not_mem_nil,or_false] at hc
  rcases hc with h | h | h | h | h | h <;> (rw [h]; exact Nat.le_of_ble_eq_true rfl)
 ·exact ⟨_,_,rfl,o3,u1⟩
def ArtM (M : Int) (a : Art) : Prop := a.1.size ≤ 1000 ∧ (-10 ≤ a.2.1 ∧ a.2.1 ≤ M) ∧ (-10 ≤ a.2.2.1 ∧ a.2.2.1 ≤ M) ∧ (-10 ≤ a.2.2.2.1 ∧ a.2.2.2.1 ≤ M) ∧ (-10 ≤ a.2.2.2.2.1 ∧ a.2.2.2.2.1 ≤ M) ∧ (-10 ≤ a.2.2.2.2.2.1 ∧ a.2.2.2.2.2.1 ≤ M) ∧ (-10 ≤ a.2.2.2.2.2.2.1 ∧ a.2.2.2.2.2.2.1 ≤ M) ∧ (-10 ≤ a.2.2.2.2.2.2.2.1 ∧ a.2.2.2.2.2.2.2.1 ≤ M) ∧ (-10 ≤ a.2.2.2.2.2.2.2.2 ∧ a.2.2.2.2.2.2.2.2 ≤ M)
abbrev ArtS (a : Art) : Prop := ArtM 1000000 a
theorem Vfc {a : Art} (h : ArtM 100000 a) : ArtS a := by
 obtain ⟨h0,h1,h2,h3,h4,h5,h6,h7,h8⟩ := h
 exact ⟨h0,by omega,by omega,by omega,by omega,by omega,by omega,by omega,by omega⟩
theorem Vby {s : List Int × Int × Int} (hs : SrcOk s) (name : ByteArray) (hn : name.size ≤ 1000) : ∃ a s',Qat.f s name = some (a,s') ∧ SrcOk s' ∧ ArtM 100000 a := by
 unfold Qat.f Qat.fn Qat.top
 obtain ⟨a,s1,e1,o1,a0,a1⟩ := Vq hs 4 (by omega)
 obtain ⟨b,s2,e2,o2,b0,b1⟩ := Vq o1 281 (by omega)
 have w1 := w64 (n := 20 + b) (by omega) (by omega)
 obtain ⟨c,s3,e3,o3,c0⟩ := VaS o2 [50,75,100,150,20 + b] (by simp) (by simp)
 have c1 : -10 ≤ c ∧ c ≤ 100000 := by simp at c0; omega
 obtain ⟨d,s4,e4,o4,d0,d1⟩ := Vq o3 5000 (by omega)
 obtain ⟨e,s5,e5,o5,f0,f1⟩ := Vq o4 300 (by omega)
 obtain ⟨f,s6,e6,o6,g0,g1⟩ := Vq o5 2000 (by omega)
 obtain ⟨g,s7,e7,o7,h0,h1⟩ := Vq o6 4 (by omega)
 obtain ⟨h,s8,e8,o8,i0,i1⟩ := Vq o7 8 (by omega)
 obtain ⟨i,s9,e9,o9,j0,j1⟩ := Vq o8 2000 (by omega)
 have w2 := w64 (n := 1000 + d) (by omega) (by omega)
 have w3 := w64 (n := 50 + f) (by omega) (by omega)
 have w4 := w64 (n := 1 + h) (by omega) (by omega)
 have w5 := w64 (n := 500 + i) (by omega) (by omega)
 simp only [e1,e2,w1,e3,e4,e5,e6,e7,e8,e9,w2,w3,w4,w5,Option.bind_some,beq_iff_eq]
 by_cases q1 : a = 1
 ·have q2 : ¬ a = 2 := by omega
  rw [if_pos q1,if_neg q2]
  exact ⟨_,_,rfl,o9,hn,by simp only; omega,by simp only; omega,by simp only; omega,by simp only; omega,by simp only; omega,by simp only; omega,by simp only; omega,by simp only; omega⟩
 ·rw [if_neg q1]
  by_cases q2 : a = 2
  ·rw [if_pos q2]
   exact ⟨_,_,rfl,o7,hn,by simp only; omega,by simp only; omega,by simp only; omega,by simp only; omega,by simp only; omega,by simp only; omega,by simp only; omega,by simp only; omega⟩
  ·rw [if_neg q2]
   exact ⟨_,_,rfl,o7,hn,by simp only; omega,by simp only; omega,by simp only; omega,by simp only; omega,by simp only; omega,by simp only; omega,by simp only; omega,by simp only; omega⟩
theorem VgY {s : List Int × Int × Int} (hs : SrcOk s) (name : ByteArray) (hn : name.size ≤ 1000) : ∃ a s',QaO.f s name = some (a,s') ∧ SrcOk s' ∧ ArtS a := by
 unfold QaO.f QaO.fn QaO.top
 obtain ⟨g,s1,e1,o1,gm⟩ := Vby hs name hn
 obtain ⟨p0,p1,p2,p3,p4,p5,p6,p7,p8⟩ := Vfc gm
 have pm := gm.2.2.2.1
 obtain ⟨b,s2,e2,o2,b0,b1⟩ := Vq o1 60 (by omega)
 have w1 := w64 (n := g.2.2.2.1 + 1) (by omega) (by omega)
 obtain ⟨c3,t3,e3,o3,m3⟩ := VaS o2 [19,20,300,301] (by simp) (by simp)
 obtain ⟨c4,t4,e4,o4,m4⟩ := VaS o2 [g.2.2.2.1,g.2.2.2.1 + 1,(-1)] (by simp) (by simp)
 obtain ⟨c5,t5,e5,o5,m5⟩ := VaS o2 [0,50,51] (by simp) (by simp)
 obtain ⟨u,t6,e6,o6,m6⟩ := VgX o2
 obtain ⟨c7,t7,e7,o7,m7⟩ := VaS o2 [0,100000,100001] (by simp) (by simp)
 have n3 : -10 ≤ c3 ∧ c3 ≤ 1000000 := by simp at m3; omega
 have n4 : -10 ≤ c4 ∧ c4 ≤ 1000000 := by simp at m4; omega
 have n5 : -10 ≤ c5 ∧ c5 ≤ 1000000 := by simp at m5; omega
 have n7 : -10 ≤ c7 ∧ c7 ≤ 1000000 := by simp at m7; omega
 simp only [e1,e2,e3,w1,e4,e5,e6,e7,Option.bind_some]
 split
 ·exact ⟨_,_,rfl,o3,p0,p1,n3,p3,p4,p5,p6,p7,p8⟩
 split
 ·exact ⟨_,_,rfl,o4,p0,p1,p2,p3,n4,p5,p6,p7,p8⟩
 split
 ·exact ⟨_,_,rfl,o5,p0,p1,p2,p3,p4,n5,p6,p7,p8⟩
 split
 ·exact ⟨_,_,rfl,o6,Nat.le_trans m6 (by omega),p1,p2,p3,p4,p5,p6,p7,p8⟩
 split
 ·exact ⟨_,_,rfl,o7,p0,p1,p2,p3,p4,p5,p6,n7,p8⟩
 ·exact ⟨_,_,rfl,o2,p0,p1,p2,p3,p4,p5,p6,p7,p8⟩
theorem Vcr {out : List Art} {a : Art} (h : ∀ x ∈ out,ArtS x) (ha : ArtS a) : ∀ x ∈ out ++ [a],ArtS x := fun x hx => by
 rcases List.mem_append.1 hx with h1 | h1
 ·exact h x h1
 ·rw [List.mem_singleton.1 h1]; exact ha
def al14 : ByteArray := ⟨#[97,98,99,100,101,102,103,104,105,106,107,108,109,110]⟩
theorem Vek : al14.size = 14 := rfl
def exx : ByteArray := ⟨#[120]⟩
theorem VhN : exx.size = 1 := rfl
theorem Vgg : ∀ (d i k : Nat) (s : List Int × Int × Int) (out : List Art),i + d = 14 → out.length ≤ 6 + i → d < k → SrcOk s → (∀ x ∈ out,ArtS x) →
  ∃ o s',Qn.l13 NN k i s out = some (o,s') ∧ SrcOk s' ∧ o.length ≤ 20 ∧ ∀ x ∈ o,ArtS x := by
 intro d
 induction d with
 | zero =>
  intro i k s out hd hl hk hs ho
  obtain ⟨k,rfl⟩ : ∃ j,k = j + 1 := ⟨k - 1,by omega⟩
  obtain ⟨a,s1,e1,o1,a0,a1⟩ := Vq hs 2 (by omega)
  have n1 : ¬ (i : Int) < 14 := by omega
  simp only [Qn.l13,Qn.g13,e1,Option.bind_some,n1,decide_false,Bool.false_eq_true,if_false]
  rw [ite_self]
  exact ⟨_,_,rfl,o1,by omega,ho⟩
 | succ d ih =>
  intro i k s out hd hl hk hs ho
  obtain ⟨k,rfl⟩ : ∃ j,k = j + 1 := ⟨k - 1,by omega⟩
  obtain ⟨a,s1,e1,o1,a0,a1⟩ := Vq hs 2 (by omega)
  have n1 : (i : Int) < 14 := by omega
  have w1 := w64 (n := (i : Int) + 1) (by omega) (by omega)
  have hz : exx.size + (al14.extract (i : Int).toNat ((i : Int) + 1).toNat).size ≤ 1000 := by
   rw [VhN,ByteArray.size_extract,Vek]; omega
  have hz2 : (exx ++ al14.extract (i : Int).toNat ((i : Int) + 1).toNat).size ≤ 1000 := by
   rw [ByteArray.size_append]; exact hz
  obtain ⟨g,s2,e2,o2,g1⟩ := Vby o1 _ hz2
  have hc : (0 : Int) ≤ (i : Int) ∧ (i : Int) ≤ (i : Int) + 1 ∧ ((i : Int) + 1) ≤ (al14.size : Int) := by rw [Vek]; omega
  have w2 := w64 (n := 12 + a) (by omega) (by omega)
  simp only [Qn.l13,Qn.g13,e1,Option.bind_some,n1,decide_true,if_true,w1,w2]
  rw [show (⟨#[97,98,99,100,101,102,103,104,105,106,107,108,109,110]⟩ : ByteArray) = al14 from rfl,show (⟨#[120]⟩ : ByteArray) = exx from rfl]
  by_cases n2 : (out.length : Int) < 12 + a
  ·rw [if_pos (decide_eq_true n2),if_pos hc,if_pos (show exx.size + (al14.extract (i : Int).toNat ((i : Int) + 1).toNat).size ≤ 9223372036854775807 by omega),e2]
   simp only [Option.bind_some]
   rw [if_pos (by rw [VdF]; simp; omega)]
   have := ih (i + 1) k s2 (out ++ [g]) (by omega) (by simp; omega) (by omega) o2 (Vcr ho (Vfc g1))
   rw [show ((i + 1 : Nat) : Int) = (i : Int) + 1 by omega] at this
   exact this
  ·rw [if_neg (by rw [decide_eq_false n2]; decide)]
   exact ⟨_,_,rfl,o1,by omega,ho⟩
theorem VgZ : ∀ (d i k : Nat) (s : List Int × Int × Int) (out : List Art),i + d = 6 → out.length ≤ i → d < k → SrcOk s → (∀ x ∈ out,ArtS x) →
  ∃ o s',Qn.l4 NN k i s out nam6 = some (o,s') ∧ SrcOk s' ∧ o.length ≤ 20 ∧ ∀ x ∈ o,ArtS x := by
 intro d
 induction d with
 | zero =>
  intro i k s out hd hl hk hs ho
  obtain ⟨k,rfl⟩ : ∃ j,k = j + 1 := ⟨k - 1,by omega⟩
  obtain ⟨a,s1,e1,o1,a0,a1⟩ := Vq hs 30 (by omega)
  have n1 : ¬ (i : Int) < (nam6.length : Int) := by rw [Vdc]; omega
  obtain ⟨g,s2,e2,o2,g1⟩ := Vby o1 (⟨#[97,115,116,101,114]⟩ : ByteArray) (Nat.le_of_ble_eq_true rfl)
  simp only [Qn.l4,Qn.g4,e1,e2,Option.bind_some,n1,decide_false,Bool.false_eq_true,if_false]
  split
  ·rw [if_pos (by rw [VdF]; simp; omega)]
   exact ⟨_,_,rfl,o2,by simp; omega,Vcr ho (Vfc g1)⟩
  split
  ·exact Vgg 14 0 NN s1 out (by omega) (by omega) (NN_lt (by omega)) o1 ho
  ·exact ⟨_,_,rfl,o1,by omega,ho⟩
 | succ d ih =>
  intro i k s out hd hl hk hs ho
  obtain ⟨k,rfl⟩ : ∃ j,k = j + 1 := ⟨k - 1,by omega⟩
  obtain ⟨a,s1,e1,o1,a0,a1⟩ := Vq hs 3 (by omega)
  have n1 : (i : Int) < (nam6.length : Int) := by rw [Vdc]; omega
  have n0 : (0 : Int) ≤ (i : Int) := by omega
  have w1 := w64 (n := (i : Int) + 1) (by omega) (by omega)
  have hm := Vcq (xs := nam6) (i := i) (by rw [Vdc]; omega)
  obtain ⟨g,s2,e2,o2,g1⟩ := VgY o1 (nam6.getD i ByteArray.empty) (by have := Viw _ hm; omega)
  simp only [Qn.l4,Qn.g4,e1,Option.bind_some,n1,n0,and_self,decide_true,if_true,w1,Int.toNat_natCast,e2]
  split
  ·rw [if_pos (by rw [VdF]; simp; omega)]
   have := ih (i + 1) k s2 (out ++ [g]) (by omega) (by simp; omega) (by omega) o2 (Vcr ho g1)
   rw [show ((i + 1 : Nat) : Int) = (i : Int) + 1 by omega] at this
   exact this
  ·have := ih (i + 1) k s1 out (by omega) (by omega) (by omega) o1 ho
   rw [show ((i + 1 : Nat) : Int) = (i : Int) + 1 by omega] at this
   exact this
theorem Vg0 {s : List Int × Int × Int} (hs : SrcOk s) : ∃ o s',Qn.f s = some (o,s') ∧ SrcOk s' ∧ o.length ≤ 20 ∧ ∀ x ∈ o,ArtS x := by
 unfold Qn.f Qn.fn Qn.top
 rw [ViZ]
 exact VgZ 6 0 NN s [] (by omega) (by simp) (NN_lt (by omega)) hs (by simp)
end Go.Pl

namespace Go.Pl
open Go.Ev
set_option linter.unusedVariables false
set_option linter.unusedSimpArgs false
structure ShowD (x : Show) : Prop where
 bl : x.1.length ≤ 30
 bv : ∀ b ∈ x.1,b.1 ≤ 10000
 al : x.2.1.length ≤ 30
 av : ∀ a ∈ x.2.1,a.1.size ≤ 1000
 cl : x.2.2.length ≤ 60
 cv : ∀ c ∈ x.2.2,c.2.2.1.size ≤ 1000
theorem VcE {x : Show} (h : ShowD x) : ShowZ x := ⟨by have := h.bl; omega,⟨by have := h.al; omega,fun a ha => Nat.le_trans (h.av a ha) (by omega)⟩,by have := h.cl; omega⟩
theorem VbS {n : Nat} (h : n ≤ 2000000) : n < room 40 := by rw [ViW]; omega
theorem VfS {n : Nat} (h : n ≤ 1000000) : n < room 80 := by rw [VdF]; omega
theorem VdG {n : Nat} (h : n ≤ 1000000) : n < room 8 := by rw [room8]; omega
def BarP (xs : List (Int × Int)) : Prop := 1 ≤ xs.length ∧ xs.length ≤ 10 ∧ ∀ b ∈ xs,b.1 ≤ 10000
def BarQ (xs : List (Int × Int)) : Prop := xs.length ≤ 30 ∧ ∀ b ∈ xs,b.1 ≤ 10000
theorem VhO : ∀ (n : Nat) (s : Src) (out : List (Int × Int)) (k : Nat),n < k → SrcOk s → out.length + n ≤ 10 → 1 ≤ out.length + n → (∀ b ∈ out,b.1 ≤ 10000) → DOk BarP (QY.l3 NN k n s out) := by
 intro n
 induction n with
 | zero =>
  intro s out k hk hs hl h1 hb
  obtain ⟨k,rfl⟩ : ∃ j,k = j + 1 := ⟨k - 1,by omega⟩
  have c : ¬ (0 : Int) < ((0 : Nat) : Int) := by omega
  simp only [QY.l3,QY.g3,c,and_self,and_true,true_and,decide_true,decide_false,if_true,if_false,Vd,Ve,Va,Vb,Vf,Option.bind_some,Bool.not_true,Bool.not_false,Bool.false_eq_true,Bool.true_eq_false,beq_self_eq_true,bne_self_eq_false,Int.toNat_natCast]
  exact Vw hs ⟨by omega,by omega,hb⟩
 | succ n ih =>
  intro s out k hk hs hl h1 hb
  obtain ⟨k,rfl⟩ : ∃ j,k = j + 1 := ⟨k - 1,by omega⟩
  have c : (0 : Int) < ((n + 1 : Nat) : Int) := by omega
  have w : IntKind.i64.wrap (((n + 1 : Nat) : Int) - 1) = (n : Int) := by rw [w64 (by omega) (by omega)]; omega
  simp only [QY.l3,QY.g3,c,w,and_self,and_true,true_and,decide_true,decide_false,if_true,if_false,Vd,Ve,Va,Vb,Vf,Option.bind_some,Bool.not_true,Bool.not_false,Bool.false_eq_true,Bool.true_eq_false,beq_self_eq_true,bne_self_eq_false,Int.toNat_natCast]
  refine Vr hs (by omega) fun x s1 o1 x0 x1 => ?_
  refine Vr o1 (by omega) fun y s2 o2 y0 y1 => ?_
  refine d_if (VaG (by simp; omega)) ?_
  refine ih s2 _ k (by omega) o2 (by simp; omega) (by simp; omega) fun b hb' => ?_
  rcases List.mem_append.1 hb' with h | h
  ·exact hb b h
  ·rw [List.mem_singleton.1 h]
   simp only
   rw [w64 (by omega) (by omega)]; omega
theorem Vel {s : Src} (hs : SrcOk s) : DOk BarP (QY.f s) := by
 unfold QY.f QY.fn QY.top
 refine Vr hs (by omega) fun x s1 o1 x0 x1 => ?_
 simp only
 rw [w64 (n := 1 + x) (by omega) (by omega),show 1 + x = (((1 + x).toNat : Nat) : Int) by omega]
 exact VhO _ s1 [] NN (NN_lt (by omega)) o1 (by simp; omega) (by simp; omega) (by simp)
theorem VhP : ∀ (d k : Nat) (s : Src) (out : List (Int × Int)),out.length + d = 22 → d < k → SrcOk s → BarQ out → DOk BarQ (Q3.l8 NN k s out) := by
 intro d
 induction d with
 | zero =>
  intro k s out hd hk hs hl
  obtain ⟨k,rfl⟩ : ∃ j,k = j + 1 := ⟨k - 1,by omega⟩
  simp only [Q3.l8,Q3.g8]
  refine Vr hs (by omega) fun x s1 o1 x0 x1 => ?_
  have w := w64 (n := 20 + x) (by omega) (by omega)
  have c : ¬ (out.length : Int) < 20 + x := by omega
  simp only [w,c,and_self,and_true,true_and,decide_true,decide_false,if_true,if_false,Vd,Ve,Va,Vb,Vf,Option.bind_some,Bool.not_true,Bool.not_false,Bool.false_eq_true,Bool.true_eq_false,beq_self_eq_true,bne_self_eq_false,Int.toNat_natCast]
  exact Vw o1 hl
 | succ d ih =>
  intro k s out hd hk hs hl
  obtain ⟨k,rfl⟩ : ∃ j,k = j + 1 := ⟨k - 1,by omega⟩
  simp only [Q3.l8,Q3.g8]
  refine Vr hs (by omega) fun x s1 o1 x0 x1 => ?_
  refine d_ite (fun _ => d_if (VaG (by simp; omega)) ?_) fun _ => Vw o1 hl
  refine ih k s1 _ (by simp; omega) (by omega) o1 ⟨by simp; omega,fun b hb => ?_⟩
  rcases List.mem_append.1 hb with h | h
  ·exact hl.2 b h
  ·rw [List.mem_singleton.1 h]; simp only; omega
theorem Vg1 {s : Src} (hs : SrcOk s) : DOk BarQ (Q3.f s) := by
 unfold Q3.f Q3.fn Q3.top
 refine Va2 (Vel hs) fun out s1 o1 hb => ?_
 obtain ⟨b1,b2,b3⟩ := hb
 have hq : BarQ out := ⟨by omega,b3⟩
 have h0 : (0 : Int) ≤ 0 ∧ (0 : Int) < (out.length : Int) := ⟨by omega,by omega⟩
 have hset : ∀ y : Int × Int,y.1 ≤ 10000 → BarQ (out.set (0 : Int).toNat y) := fun y hy => by
  refine ⟨by rw [List.length_set]; omega,fun b hb => ?_⟩
  rcases List.mem_or_eq_of_mem_set hb with h | h
  ·exact b3 b h
  ·rw [h]; exact hy
 refine Vr o1 (by omega) fun x s2 o2 x0 x1 => ?_
 refine d_ite (fun _ => ?_) fun _ => ?_
 ·refine Vab o2 (by simp) (by simp) fun y s3 o3 hy => ?_
  have hy2 : y ≤ 100 := by simp only [List.mem_cons,List.not_mem_nil,or_false] at hy; omega
  exact d_if h0 (Vw o3 (hset _ (by simp only; omega)))
 refine d_ite (fun _ => ?_) fun _ => ?_
 ·refine Vab o2 (by simp) (by simp) fun y s3 o3 hy => ?_
  refine d_if h0 (Vw o3 (hset _ ?_))
  simp only
  have hm : out.getD (0 : Int).toNat (0,0) ∈ out := by
   rw [List.getD_eq_getElem?_getD,List.getElem?_eq_getElem (show (0 : Int).toNat < out.length from by simp; omega)]; exact List.getElem_mem _
  exact b3 _ hm
 refine d_ite (fun _ => VhP (22 - out.length) NN s2 out (by omega) (NN_lt (by omega)) o2 hq) fun _ => ?_
 refine d_ite (fun _ => d_if ⟨by omega,by omega⟩ (Vw o2 ⟨by simp,by simp⟩)) fun _ => Vw o2 hq
theorem Vg2 {x : Show} (hx : ShowD x) (hl : x.2.2.length ≤ 40) {c : Cue} (hc : c.2.2.1.size ≤ 1000) : ∃ y e,Qa.f x c = some (y,e) ∧ (e = 0 → y = (x.1,(x.2.1,x.2.2 ++ [c])) ∧ ShowD y) := by
 have hy : ShowD (x.1,(x.2.1,x.2.2 ++ [c])) := ⟨hx.bl,hx.bv,hx.al,hx.av,by simp; omega,fun d hd => by
  rcases List.mem_append.1 hd with h | h
  ·exact hx.cv d h
  ·rw [List.mem_singleton.1 h]; exact hc⟩
 have b1 := hx.bl
 have b2 := hx.al
 have r1 : ([] : List Cue).length + x.2.2.length < room 40 := VbS (by simp; omega)
 have r2 : (([] : List Cue) ++ x.2.2).length + [c].length < room 40 := VbS (by simp; omega)
 have r3 : ([] : List (Int × Int)).length + x.1.length < room 16 := VaG (by simp; omega)
 have r4 : ([] : List Art).length + x.2.1.length < room 80 := VfS (by simp; omega)
 have r5 : ([] : List Cue).length + ((([] : List Cue) ++ x.2.2) ++ [c]).length < room 40 := VbS (by simp; omega)
 have n0 := nn0
 unfold Qa.f Qa.fn Qa.top
 rw [Qa.ck01 n0]
 unfold Qa.gk01
 rw [Qa5 x (VcE hx),Option.bind_some]
 cases showB x
 ·exact ⟨_,1,rfl,fun h => absurd h (by decide)⟩
 rw [if_neg (by decide),Qa.ck03 n0]
 unfold Qa.gk03
 by_cases h20 : ((x.2.2.length : Int) == 20) = true
 ·rw [if_pos h20]
  exact ⟨_,3,rfl,fun h => absurd h (by decide)⟩
 rw [if_neg h20,Qa.ck05 n0]
 unfold Qa.gk05
 rw [if_pos r1,if_pos r2]
 unfold Qh.f Qh.fn Qh.top
 rw [if_pos r3,if_pos r4,if_pos r5,Option.bind_some,Qa.ck06 n0]
 unfold Qa.gk06
 simp only [List.nil_append]
 rw [Qa5 (x.1,(x.2.1,x.2.2 ++ [c])) (VcE hy),Option.bind_some]
 cases showB (x.1,(x.2.1,x.2.2 ++ [c]))
 ·exact ⟨_,5,rfl,fun h => absurd h (by decide)⟩
 ·exact ⟨_,0,rfl,fun _ => ⟨rfl,hy⟩⟩
theorem Vfd {xs : List Art} {i : Int} (h0 : 0 ≤ i) (h1 : i < (xs.length : Int)) (z : Art) : xs.getD i.toNat z ∈ xs := by
 rw [List.getD_eq_getElem?_getD,List.getElem?_eq_getElem (by omega)]; exact List.getElem_mem _
theorem VhQ {xs : List (Int × Int)} {i : Int} (h0 : 0 ≤ i) (h1 : i < (xs.length : Int)) (z : Int × Int) : xs.getD i.toNat z ∈ xs := by
 rw [List.getD_eq_getElem?_getD,List.getElem?_eq_getElem (by omega)]; exact List.getElem_mem _
theorem VhR (w3 : List (Int × Int)) (w4 : List Art) (w5 : List Cue) : ∀ (n : Nat) (s : Src) (x : Show) (k : Nat),n < k → SrcOk s → ShowD x → x.2.2.length + n ≤ 30 → 1 ≤ x.1.length → DOk (fun y => ShowD y ∧ y.2.2.length ≤ 30) (Qe.l12 NN k n s w3 w4 w5 x.1 x.2.1 x.2.2) := by
 intro n
 induction n with
 | zero =>
  intro s x k hk hs hx hl h1
  obtain ⟨k,rfl⟩ : ∃ j,k = j + 1 := ⟨k - 1,by omega⟩
  have c : ¬ (0 : Int) < ((0 : Nat) : Int) := by omega
  simp only [Qe.l12,Qe.g12,c,and_self,and_true,true_and,decide_true,decide_false,if_true,if_false,Vd,Ve,Va,Vb,Vf,Option.bind_some,Bool.not_true,Bool.not_false,Bool.false_eq_true,Bool.true_eq_false,beq_self_eq_true,bne_self_eq_false,Int.toNat_natCast]
  exact Vw hs ⟨hx,by simp only; omega⟩
 | succ n ih =>
  intro s x k hk hs hx hl h1
  obtain ⟨k,rfl⟩ : ∃ j,k = j + 1 := ⟨k - 1,by omega⟩
  have c : (0 : Int) < ((n + 1 : Nat) : Int) := by omega
  have w : IntKind.i64.wrap (((n + 1 : Nat) : Int) - 1) = (n : Int) := by rw [w64 (by omega) (by omega)]; omega
  have hbl := hx.bl
  have hal := hx.al
  by_cases ha : (0 : Int) < (x.2.1.length : Int)
  ·obtain ⟨r6,s6,e6,o6,p6,q6⟩ := Vq hs (x.1.length : Int) (by omega)
   have c6 : 0 ≤ r6 ∧ r6 < (x.1.length : Int) := ⟨p6,by omega⟩
   have hb := hx.bv _ (VhQ c6.1 c6.2 (0,0))
   obtain ⟨r7,s7,e7,o7,p7,q7⟩ := Vq o6 (x.1.getD r6.toNat (0,0)).1 (by omega)
   obtain ⟨r8,s8,e8,o8,p8,q8⟩ := Vq o7 (x.2.1.length : Int) (by omega)
   have c8 : 0 ≤ r8 ∧ r8 < (x.2.1.length : Int) := ⟨p8,by omega⟩
   have hc := hx.av _ (Vfd c8.1 c8.2 (ByteArray.empty,(0,(0,(0,(0,(0,(0,(0,0)))))))))
   obtain ⟨r9,s9,e9,o9,p9,q9⟩ := Vq o8 12 (by omega)
   obtain ⟨y,e,e10,e11⟩ := Vg2 hx (by omega) (c := (r6,(r7,((x.2.1.getD r8.toNat (ByteArray.empty,(0,(0,(0,(0,(0,(0,(0,0))))))))).1,r9)))) hc
   have e10' : Qa.f (x.1,(x.2.1,x.2.2)) (r6,(r7,((x.2.1.getD r8.toNat (ByteArray.empty,(0,(0,(0,(0,(0,(0,(0,0))))))))).1,r9))) = some (y,e) := e10
   simp only [Qe.l12,Qe.g12,c,ha,decide_true,if_true,e6,Option.bind_some]
   rw [Qe.ck15 nn0]
   simp only [Qe.gk15,e7,e8,e9,c6,c8,and_self,if_true,Option.bind_some,Vi]
   rw [Qe.ck16 nn0]
   simp only [Qe.gk16,e10',Option.bind_some]
   rw [Qe.ck17 nn0]
   simp only [Qe.gk17,w]
   by_cases he : e = 0
   ·have hy := e11 he
    rw [if_pos (by simpa using he)]
    refine ih s9 y k (by omega) o9 hy.2 ?_ ?_
    ·rw [hy.1]; simp; omega
    ·rw [hy.1]; exact h1
   ·rw [if_neg (by simpa using he)]
    exact ih s9 x k (by omega) o9 hx (by omega) h1
  ·simp only [Qe.l12,Qe.g12,c,ha,and_self,and_true,true_and,decide_true,decide_false,if_true,if_false,Vd,Ve,Va,Vb,Vf,Option.bind_some,Bool.not_true,Bool.not_false,Bool.false_eq_true,Bool.true_eq_false,beq_self_eq_true,bne_self_eq_false,Int.toNat_natCast]
   exact Vw hs ⟨hx,by simp only; omega⟩
end Go.Pl

namespace Go.Pl
open Go.Ev
set_option linter.unusedVariables false
set_option linter.unusedSimpArgs false
theorem Vix : ∀ c ∈ names6,c.size ≤ 1000 := fun c h => Nat.le_trans (VgS c h) (by omega)
def SDl (y : Show) : Prop := ShowD y ∧ y.2.2.length ≤ 30
theorem Vg3 (bars : List (Int × Int)) (hb : BarP bars) (w4 : List (Int × Int)) (w5 : List Art) (w6 : List Cue) : ∀ (d : Nat) (i : Int) (s : Src) (arts : List Art) (k : Nat),i + d = 6 → 0 ≤ i → d < k → SrcOk s → arts.length + d ≤ 6 → (∀ a ∈ arts,a.1.size ≤ 1000) → DOk SDl (Qe.l4 NN k i s names6 w4 w5 w6 bars arts []) := by
 intro d
 induction d with
 | zero =>
  intro i s arts k hi h0 hk hs hl ha
  obtain ⟨k,rfl⟩ : ∃ j,k = j + 1 := ⟨k - 1,by omega⟩
  have c : ¬ i < (names6.length : Int) := by rw [Vbb]; omega
  simp only [Qe.l4,Qe.g4,c,and_self,and_true,true_and,decide_true,decide_false,if_true,if_false,Vd,Ve,Va,Vb,Vf,Option.bind_some,Bool.not_true,Bool.not_false,Bool.false_eq_true,Bool.true_eq_false,beq_self_eq_true,bne_self_eq_false,Int.toNat_natCast]
  refine Vr hs (by omega) fun x s1 o1 x0 x1 => ?_
  have e : x = ((x.toNat : Nat) : Int) := by omega
  simp only
  rw [e]
  exact VhR w4 w5 w6 x.toNat s1 (bars,(arts,[])) NN (NN_lt (by omega)) o1 ⟨by have := hb.2.1; simp only; omega,hb.2.2,by simp only; omega,ha,by simp,by simp⟩ (by simp; omega) hb.1
 | succ d ih =>
  intro i s arts k hi h0 hk hs hl ha
  obtain ⟨k,rfl⟩ : ∃ j,k = j + 1 := ⟨k - 1,by omega⟩
  have c : i < (names6.length : Int) := by rw [Vbb]; omega
  have w := w64 (n := i + 1) (by omega) (by omega)
  simp only [Qe.l4,Qe.g4,c,w,and_self,and_true,true_and,decide_true,decide_false,if_true,if_false,Vd,Ve,Va,Vb,Vf,Option.bind_some,Bool.not_true,Bool.not_false,Bool.false_eq_true,Bool.true_eq_false,beq_self_eq_true,bne_self_eq_false,Int.toNat_natCast]
  refine Vr hs (by omega) fun x s1 o1 x0 x1 => ?_
  refine d_ite (fun _ => d_if h0 ?_) fun _ => ih (i + 1) s1 arts k (by omega) (by omega) (by omega) o1 (by omega) ha
  obtain ⟨a,s2,e2,o2,m2⟩ := Vby o1 (names6.getD i.toNat ByteArray.empty) (Vix _ (getB3 h0 c))
  simp only [e2,Option.bind_some]
  refine d_if (VfS (by simp; omega)) ?_
  refine ih (i + 1) s2 _ k (by omega) (by omega) (by omega) o2 (by simp; omega) fun y hy => ?_
  rcases List.mem_append.1 hy with h | h
  ·exact ha y h
  ·rw [List.mem_singleton.1 h]; exact m2.1
theorem Vg4 {s : Src} (hs : SrcOk s) : DOk SDl (Qe.f s) := by
 unfold Qe.f Qe.fn Qe.top
 refine Va2 (Vel hs) fun bars s1 o1 hb => ?_
 rw [VfO,Option.bind_some]
 exact Vg3 bars hb [] [] [] 6 0 s1 [] NN (by omega) (by omega) (NN_lt (by omega)) o1 (by simp) (by simp)
theorem VhS (c : Cue) (hc : c.2.2.1.size ≤ 1000) (w4 : List (Int × Int)) (w5 : List Art) (w6 : List Cue) : ∀ (d k : Nat) (s : Src) (x : Show),x.2.2.length + d = 32 → d < k → SrcOk s → ShowD x → DOk ShowD (Qq.l12 NN k s c w4 w5 w6 x.1 x.2.1 x.2.2) := by
 intro d
 induction d with
 | zero =>
  intro k s x hd hk hs hx
  obtain ⟨k,rfl⟩ : ∃ j,k = j + 1 := ⟨k - 1,by omega⟩
  simp only [Qq.l12,Qq.g12]
  refine Vr hs (by omega) fun y s1 o1 y0 y1 => ?_
  have w := w64 (n := 20 + y) (by omega) (by omega)
  have n : ¬ (x.2.2.length : Int) < 20 + y := by omega
  simp only [w,n,and_self,and_true,true_and,decide_true,decide_false,if_true,if_false,Vd,Ve,Va,Vb,Vf,Option.bind_some,Bool.not_true,Bool.not_false,Bool.false_eq_true,Bool.true_eq_false,beq_self_eq_true,bne_self_eq_false,Int.toNat_natCast]
  exact Vw o1 hx
 | succ d ih =>
  intro k s x hd hk hs hx
  obtain ⟨k,rfl⟩ : ∃ j,k = j + 1 := ⟨k - 1,by omega⟩
  simp only [Qq.l12,Qq.g12]
  refine Vr hs (by omega) fun y s1 o1 y0 y1 => ?_
  refine d_ite (fun _ => d_if (VbS (by simp; omega)) ?_) fun _ => Vw o1 hx
  refine ih k s1 (x.1,(x.2.1,x.2.2 ++ [c])) (by simp; omega) (by omega) o1 ⟨hx.bl,hx.bv,hx.al,hx.av,by simp; omega,fun z hz => ?_⟩
  rcases List.mem_append.1 hz with h | h
  ·exact hx.cv z h
  ·rw [List.mem_singleton.1 h]; exact hc
theorem Vem {s : Src} (hs : SrcOk s) : DOk ShowD (Qq.f s) := by
 unfold Qq.f Qq.fn Qq.top
 refine Va2 (Vg4 hs) fun x s1 o1 hx => ?_
 obtain ⟨hx,hcl⟩ := hx
 refine Vr o1 (by omega) fun q s2 o2 q0 q1 => ?_
 refine d_ite (fun _ => ?_) fun _ => ?_
 ·refine Va2 (Vg1 o2) fun bars s3 o3 hb => ?_
  exact Vw o3 ⟨hb.1,hb.2,hx.al,hx.av,hx.cl,hx.cv⟩
 refine d_ite (fun _ => ?_) fun _ => ?_
 ·obtain ⟨ars,s3,e3,o3,l3,m3⟩ := Vg0 o2
  simp only [e3,Option.bind_some]
  exact Vw o3 ⟨hx.bl,hx.bv,by simp only; omega,fun a ha => (m3 a ha).1,hx.cl,hx.cv⟩
 refine d_ite (fun _ => ?_) fun _ => ?_
 ·refine Vr o2 (by omega) fun a s3 o3 a0 a1 => ?_
  refine Vr o3 (by omega) fun b s4 o4 b0 b1 => ?_
  refine Vr o4 (by omega) fun c s5 o5 c0 c1 => ?_
  refine d_if (VbS (by simp; omega)) (Vw o5 ⟨hx.bl,hx.bv,hx.al,hx.av,by simp; omega,fun z hz => ?_⟩)
  rcases List.mem_append.1 hz with h | h
  ·exact hx.cv z h
  ·rw [List.mem_singleton.1 h]; exact (show (⟨#[112,101,111,110,121]⟩ : ByteArray).size ≤ 1000 by decide)
 refine d_ite (fun _ => ?_) fun _ => Vw o2 hx
 refine d_ite (fun hp => ?_) fun _ => Vw o2 hx
 have hp' : (0 : Int) < (x.2.2.length : Int) := by simpa using hp
 refine d_if ⟨by omega,hp'⟩ ?_
 refine VhS _ ?_ _ _ _ (32 - x.2.2.length) NN s2 x (by omega) (NN_lt (by omega)) o2 hx
 refine hx.cv _ ?_
 rw [List.getD_eq_getElem?_getD,List.getElem?_eq_getElem (show (0 : Int).toNat < x.2.2.length from by simp; omega)]; exact List.getElem_mem _
theorem Vdd {code : List Int} (h : VbQ code) : ∃ x,Qai.f code = some x ∧ ShowD x := by
 obtain ⟨s,e,o⟩ := VdZ h
 obtain ⟨x,s1,e1,o1,hx⟩ := Vem o
 unfold Qai.f Qai.fn Qai.top
 rw [e,Option.bind_some,e1]
 exact ⟨x,rfl,hx⟩
theorem Vg5 : ∀ (d k : Nat) (s : Src) (out : List Bkg),out.length + d = 62 → d < k → SrcOk s → DOk (fun o : List Bkg => o.length ≤ 900000) (QF.l6 NN k s out) := by
 intro d
 induction d with
 | zero =>
  intro k s out hd hk hs
  obtain ⟨k,rfl⟩ : ∃ j,k = j + 1 := ⟨k - 1,by omega⟩
  simp only [QF.l6,QF.g6]
  refine Vr hs (by omega) fun y s1 o1 y0 y1 => ?_
  have w := w64 (n := 60 + y) (by omega) (by omega)
  have n : ¬ (out.length : Int) < 60 + y := by omega
  simp only [w,n,and_self,and_true,true_and,decide_true,decide_false,if_true,if_false,Vd,Ve,Va,Vb,Vf,Option.bind_some,Bool.not_true,Bool.not_false,Bool.false_eq_true,Bool.true_eq_false,beq_self_eq_true,bne_self_eq_false,Int.toNat_natCast]
  exact Vw o1 (by omega)
 | succ d ih =>
  intro k s out hd hk hs
  obtain ⟨k,rfl⟩ : ∃ j,k = j + 1 := ⟨k - 1,by omega⟩
  simp only [QF.l6,QF.g6]
  refine Vr hs (by omega) fun y s1 o1 y0 y1 => ?_
  refine d_ite (fun _ => d_if (Vat (by simp; omega)) ?_) fun _ => Vw o1 (by omega)
  exact ih k s1 _ (by simp; omega) (by omega) o1
theorem VhT {s : Src} (hs : SrcOk s) : DOk (fun o : List Bkg => o.length ≤ 900000) (QF.f s) := by
 unfold QF.f QF.fn QF.top
 obtain ⟨o,s1,e1,o1,b1,l1⟩ := Veh hs
 have hv := (V7 b1).2
 rw [e1,Option.bind_some]
 refine Vr o1 (by omega) fun x s2 o2 x0 x1 => ?_
 refine d_ite (fun _ => ?_) fun _ => ?_
 ·refine Vr o2 (by omega) fun y s3 o3 y0 y1 => ?_
  obtain ⟨u,s4,e4,o4,u1⟩ := VbE o3
  simp only [e4,Option.bind_some]
  refine Vab o4 (by simp) (by simp) fun c s5 o5 hc => ?_
  exact d_if (Vat (by simp; omega)) (Vw o5 (by simp; omega))
 refine d_ite (fun _ => Vg5 (62 - o.length) NN s2 o (by omega) (NN_lt (by omega)) o2) fun _ => ?_
 refine d_ite (fun _ => d_if (Vat (by simp; omega)) (Vw o2 (by simp; omega))) fun _ => Vw o2 (by simp only; omega)
theorem VhU {s : Src} (hs : SrcOk s) : ∃ o s',QF.f s = some (o,s') ∧ SrcOk s' ∧ o.length ≤ 900000 ∧ Lm VI o := by
 obtain ⟨o,s1,e1,o1,l1⟩ := VgR hs
 obtain ⟨o',s1',e1',_,l1'⟩ := VhT hs
 rw [e1] at e1'
 injection e1' with e
 injection e with ea eb
 exact ⟨o,s1,e1,o1,by rw [ea]; exact l1',l1⟩
theorem dbs13 (x : Show) (list : List Bkg) (hl : x.2.2.length ≤ 60) (w5 : List (Int × Int)) (w6 : List Art) (w7 : List Cue) : ∀ (d : Nat) (i : Int) (s : Src) (fired : List Int) (k : Nat),i + d = (x.2.2.length : Int) → 0 ≤ i → d < k → SrcOk s → fired.length + d ≤ 100 → ∃ f,Qf.l13 NN k i s x list fired w5 w6 w7 = some (list,(x,f)) ∧ f.length ≤ 1000 := by
 intro d
 induction d with
 | zero =>
  intro i s fired k hi h0 hk hs hf
  obtain ⟨k,rfl⟩ : ∃ j,k = j + 1 := ⟨k - 1,by omega⟩
  have c : ¬ i < (x.2.2.length : Int) := by omega
  obtain ⟨a,s1,e1,o1,a0,a1⟩ := Vq hs 24 (by omega)
  obtain ⟨b,s2,e2,o2,b0,b1⟩ := Vq o1 9 (by omega)
  have r : fired.length + [b].length < room 8 := VdG (by simp; omega)
  simp only [Qf.l13,Qf.g13,c,and_self,and_true,true_and,decide_true,decide_false,if_true,if_false,Vd,Ve,Va,Vb,Vf,Option.bind_some,Bool.not_true,Bool.not_false,Bool.false_eq_true,Bool.true_eq_false,beq_self_eq_true,bne_self_eq_false,Int.toNat_natCast,e1]
  split
  ·simp only [e2,r,and_self,and_true,true_and,decide_true,decide_false,if_true,if_false,Vd,Ve,Va,Vb,Vf,Option.bind_some,Bool.not_true,Bool.not_false,Bool.false_eq_true,Bool.true_eq_false,beq_self_eq_true,bne_self_eq_false,Int.toNat_natCast]
   exact ⟨_,rfl,by simp; omega⟩
  ·exact ⟨_,rfl,by omega⟩
 | succ d ih =>
  intro i s fired k hi h0 hk hs hf
  obtain ⟨k,rfl⟩ : ∃ j,k = j + 1 := ⟨k - 1,by omega⟩
  have c : i < (x.2.2.length : Int) := by omega
  have w := w64 (n := i + 1) (by omega) (by omega)
  obtain ⟨a,s1,e1,o1,a0,a1⟩ := Vq hs 2 (by omega)
  have r : fired.length + [i].length < room 8 := VdG (by simp; omega)
  simp only [Qf.l13,Qf.g13,c,w,and_self,and_true,true_and,decide_true,decide_false,if_true,if_false,Vd,Ve,Va,Vb,Vf,Option.bind_some,Bool.not_true,Bool.not_false,Bool.false_eq_true,Bool.true_eq_false,beq_self_eq_true,bne_self_eq_false,Int.toNat_natCast,e1,r]
  split
  ·exact ih (i + 1) s1 _ k (by omega) (by omega) (by omega) o1 (by simp; omega)
  ·exact ih (i + 1) s1 _ k (by omega) (by omega) (by omega) o1 (by omega)
theorem dbs5 (x : Show) (hx : ShowD x) (w4 : List (Int × Int)) (w5 : List Art) (w6 : List Cue) : ∀ (d : Nat) (i : Int) (s : Src) (list : List Bkg) (k : Nat),i + d = (x.2.1.length : Int) → 0 ≤ i → d < k → SrcOk s → list.length + d ≤ 100 → (∀ b ∈ list,Sz b.2.1) → ∃ l f,Qf.l5 NN k i s x list w4 w5 w6 = some (l,(x,f)) ∧ (l.length ≤ 900000 ∧ ∀ b ∈ l,Sz b.2.1) ∧ f.length ≤ 1000 := by
 have hcl := hx.cl
 have hal := hx.al
 intro d
 induction d with
 | zero =>
  intro i s list k hi h0 hk hs hf hz
  obtain ⟨k,rfl⟩ : ∃ j,k = j + 1 := ⟨k - 1,by omega⟩
  have c : ¬ i < (x.2.1.length : Int) := by omega
  obtain ⟨a,s1,e1,o1,a0,a1⟩ := Vq hs 12 (by omega)
  obtain ⟨l2,s2,e2,o2,mk,m2⟩ := VhU o1
  simp only [Qf.l5,Qf.g5,c,and_self,and_true,true_and,decide_true,decide_false,if_true,if_false,Vd,Ve,Va,Vb,Vf,Option.bind_some,Bool.not_true,Bool.not_false,Bool.false_eq_true,Bool.true_eq_false,beq_self_eq_true,bne_self_eq_false,Int.toNat_natCast,e1]
  split
  ·simp only [e2,Option.bind_some]
   obtain ⟨f,ef,lf⟩ := dbs13 x l2 hcl w4 w5 w6 x.2.2.length 0 s2 [] NN (by omega) (by omega) (NN_lt (by omega)) o2 (by simp; omega)
   exact ⟨l2,f,ef,⟨mk,fun b hb => Nat.le_trans (m2.2 b hb).2.1 (by omega)⟩,lf⟩
  ·obtain ⟨f,ef,lf⟩ := dbs13 x list hcl w4 w5 w6 x.2.2.length 0 s1 [] NN (by omega) (by omega) (NN_lt (by omega)) o1 (by simp; omega)
   exact ⟨list,f,ef,⟨by omega,hz⟩,lf⟩
 | succ d ih =>
  intro i s list k hi h0 hk hs hf hz
  obtain ⟨k,rfl⟩ : ∃ j,k = j + 1 := ⟨k - 1,by omega⟩
  have c : i < (x.2.1.length : Int) := by omega
  have w := w64 (n := i + 1) (by omega) (by omega)
  obtain ⟨a,s1,e1,o1,a0,a1⟩ := Vq hs 6 (by omega)
  obtain ⟨b,s2,e2,o2,b0,b1⟩ := Vq o1 8 (by omega)
  have hc := hx.av _ (Vfd h0 c (ByteArray.empty,(0,(0,(0,(0,(0,(0,(0,0)))))))))
  have r : ∀ y : Bkg,list.length + [y].length < room 32 := fun y => Vat (by simp; omega)
  simp only [Qf.l5,Qf.g5,c,h0,w,and_self,and_true,true_and,decide_true,decide_false,if_true,if_false,Vd,Ve,Va,Vb,Vf,Option.bind_some,Bool.not_true,Bool.not_false,Bool.false_eq_true,Bool.true_eq_false,beq_self_eq_true,bne_self_eq_false,Int.toNat_natCast,e1]
  split
  ·simp only [e2,r,and_self,and_true,true_and,decide_true,decide_false,if_true,if_false,Vd,Ve,Va,Vb,Vf,Option.bind_some,Bool.not_true,Bool.not_false,Bool.false_eq_true,Bool.true_eq_false,beq_self_eq_true,bne_self_eq_false,Int.toNat_natCast,Vi]
   split
   ·refine ih (i + 1) s2 _ k (by omega) (by omega) (by omega) o2 (by rw [List.length_append]; simp only [List.length_cons,List.length_nil]; omega) fun y hy => ?_
    rcases List.mem_append.1 hy with h | h
    ·exact hz y h
    ·rw [List.mem_singleton.1 h]; exact Nat.le_trans hc (by omega)
   ·rename_i hn
    exact (hn (Vat (by simp only [List.length_cons,List.length_nil]; omega))).elim
  ·exact ih (i + 1) s1 _ k (by omega) (by omega) (by omega) o1 (by omega) hz
theorem VdH {code : List Int} (h : VbQ code) : ∃ l x f,Qf.f code = some (l,(x,f)) ∧ (l.length ≤ 900000 ∧ ∀ b ∈ l,Sz b.2.1) ∧ ShowD x ∧ f.length ≤ 1000 := by
 obtain ⟨s,e,o⟩ := VdZ h
 obtain ⟨x,s1,e1,o1,hx⟩ := Vem o
 have hal := hx.al
 obtain ⟨l,f,ef,m,lf⟩ := dbs5 x hx [] [] [] x.2.1.length 0 s1 [] NN (by omega) (by omega) (NN_lt (by omega)) o1 (by simp; omega) (by simp)
 unfold Qf.f Qf.fn Qf.top
 rw [e,Option.bind_some,e1,Option.bind_some]
 exact ⟨l,x,f,ef,m,hx,lf⟩
def TmP (xs : List Int) : Prop := xs.length ≤ 1000
theorem VfD : ∀ (n : Nat) (s : Src) (out : List Int) (k : Nat),n < k → SrcOk s → out.length + n ≤ 100 → DOk TmP (Qs.l3 NN k n s out) := by
 intro n
 induction n with
 | zero =>
  intro s out k hk hs hl
  obtain ⟨k,rfl⟩ : ∃ j,k = j + 1 := ⟨k - 1,by omega⟩
  have c : ¬ (0 : Int) < ((0 : Nat) : Int) := by omega
  simp only [Qs.l3,Qs.g3,c,and_self,and_true,true_and,decide_true,decide_false,if_true,if_false,Vd,Ve,Va,Vb,Vf,Option.bind_some,Bool.not_true,Bool.not_false,Bool.false_eq_true,Bool.true_eq_false,beq_self_eq_true,bne_self_eq_false,Int.toNat_natCast]
  refine Vr hs (by omega) fun x s1 o1 x0 x1 => ?_
  refine d_ite (fun _ => ?_) fun _ => ?_
  ·refine Vab o1 (by simp) (by simp) fun y s2 o2 hy => ?_
   exact d_if (VdG (by simp; omega)) (Vw o2 (by unfold TmP; simp; omega))
  refine d_ite (fun _ => ?_) fun _ => Vw o1 (by unfold TmP; omega)
  refine Vr o1 (by omega) fun y s2 o2 y0 y1 => ?_
  have w := w64 (n := 20 + y) (by omega) (by omega)
  simp only [w]
  refine d_if ⟨by omega,by rw [room8]; omega⟩ (Vw o2 ?_)
  unfold TmP
  rw [List.length_replicate]; omega
 | succ n ih =>
  intro s out k hk hs hl
  obtain ⟨k,rfl⟩ : ∃ j,k = j + 1 := ⟨k - 1,by omega⟩
  have c : (0 : Int) < ((n + 1 : Nat) : Int) := by omega
  have w : IntKind.i64.wrap (((n + 1 : Nat) : Int) - 1) = (n : Int) := by rw [w64 (by omega) (by omega)]; omega
  simp only [Qs.l3,Qs.g3,c,w,and_self,and_true,true_and,decide_true,decide_false,if_true,if_false,Vd,Ve,Va,Vb,Vf,Option.bind_some,Bool.not_true,Bool.not_false,Bool.false_eq_true,Bool.true_eq_false,beq_self_eq_true,bne_self_eq_false,Int.toNat_natCast]
  refine Vr hs (by omega) fun x s1 o1 x0 x1 => ?_
  exact d_if (VdG (by simp; omega)) (ih s1 _ k (by omega) o1 (by simp; omega))
theorem Vfe {s : Src} (hs : SrcOk s) : DOk TmP (Qs.f s) := by
 unfold Qs.f Qs.fn Qs.top
 refine Vr hs (by omega) fun x s1 o1 x0 x1 => ?_
 have e : x = ((x.toNat : Nat) : Int) := by omega
 simp only
 rw [e]
 exact VfD x.toNat s1 [] NN (NN_lt (by omega)) o1 (by simp; omega)
def FirP (y : List Int × List Sig × List Mov × List ByteArray) : Prop := y.1.length ≤ 1000000 ∧ y.2.1.length ≤ 1000000 ∧ (y.2.2.1.length ≤ 1000000 ∧ ∀ m ∈ y.2.2.1,Sz m.2.1) ∧ y.2.2.2.length ≤ 1000000 ∧ ∀ z ∈ y.2.2.2,Sz z
theorem Vgh (n : Nat) : (([(⟨#[102,105,101,108,100]⟩ : ByteArray),(⟨#[98,97,110,107]⟩ : ByteArray),(⟨#[114,105,118,101,114]⟩ : ByteArray)] : List ByteArray).take n).length ≤ 1000000 ∧ ∀ z ∈ ([(⟨#[102,105,101,108,100]⟩ : ByteArray),(⟨#[98,97,110,107]⟩ : ByteArray),(⟨#[114,105,118,101,114]⟩ : ByteArray)] : List ByteArray).take n,Sz z := by
 refine ⟨by rw [List.length_take]; simp; omega,fun z hz => ?_⟩
 have := List.mem_of_mem_take hz
 simp only [List.mem_cons,List.not_mem_nil,or_false] at this
 unfold Sz
 rcases this with h | h | h <;> (rw [h]; exact Nat.le_of_ble_eq_true rfl)
theorem Vde {ts : List Int} {ss : List Sig} {ms : List Mov} (h1 : ts.length ≤ 1000000) (h2 : ss.length ≤ 1000000) (h3 : ms.length ≤ 1000000 ∧ ∀ m ∈ ms,Sz m.2.1) {s : Src} (hs : SrcOk s) :
  ∃ y,((Qd.f s 4).bind fun r10 => if (0 : Int) ≤ r10.1 ∧ (r10.1 : Int) ≤ ([(⟨#[102,105,101,108,100]⟩ : ByteArray),(⟨#[98,97,110,107]⟩ : ByteArray),(⟨#[114,105,118,101,114]⟩ : ByteArray)]).length then (Qd.f r10.2 30).bind fun r11 => if ((r11.1 : Int) == 0) = true then (Qad.f r11.2).bind fun r12 => some (ts,ss,ms,[r12.1]) else some (ts,ss,ms,([(⟨#[102,105,101,108,100]⟩ : ByteArray),(⟨#[98,97,110,107]⟩ : ByteArray),(⟨#[114,105,118,101,114]⟩ : ByteArray)]).take (r10.1 : Int).toNat) else none) = some y ∧ FirP y := by
 obtain ⟨a,s1,e1,o1,a0,a1⟩ := Vq hs 4 (by omega)
 obtain ⟨b,s2,e2,o2,b0,b1⟩ := Vq o1 30 (by omega)
 obtain ⟨u,s3,e3,o3,hu⟩ := VbE o2
 have hz := Vgh a.toNat
 rw [e1,Option.bind_some,if_pos ⟨a0,by simp only [List.length_cons,List.length_nil]; omega⟩]
 simp only [e2,Option.bind_some]
 split
 ·rw [e3]
  exact ⟨_,rfl,h1,h2,h3,by simp,fun z hz => by rw [List.mem_singleton.1 hz]; exact Nat.le_trans hu (by omega)⟩
 ·exact ⟨_,rfl,h1,h2,h3,hz.1,hz.2⟩
theorem Vcs {code : List Int} (h : VbQ code) : ∃ y,Qag.f code = some y ∧ FirP y := by
 obtain ⟨s,e,o⟩ := VdZ h
 obtain ⟨ts,s1,e1,o1,t1⟩ := Vfe o
 obtain ⟨ss,s2,e2,o2,t2⟩ := VgW o1
 obtain ⟨ms,s3,e3,o3,t3⟩ := VgU o2
 obtain ⟨a,s4,e4,o4,a0,a1⟩ := Vq o3 3 (by omega)
 obtain ⟨b,s5,e5,o5,b0,b1⟩ := Vq o4 3000 (by omega)
 have h1 : ts.length ≤ 1000000 := Nat.le_trans t1 (by omega)
 have h2 : ss.length ≤ 1000000 := Nat.le_trans t2.1 (by omega)
 have h3 : ms.length ≤ 1000000 ∧ ∀ m ∈ ms,Sz m.2.1 := ⟨t3.1,fun m hm => Nat.le_trans (t3.2 m hm).2.1 (by omega)⟩
 unfold Qag.f Qag.fn Qag.top
 rw [e,Option.bind_some,e1,Option.bind_some,e2,Option.bind_some,e3,Option.bind_some,e4,Option.bind_some]
 simp only
 split
 ·split
  ·rw [e5,Option.bind_some]
   refine Vde h1 h2 ⟨by simp,fun m hm => ?_⟩ o5
   rw [List.mem_singleton.1 hm]
   exact (show (⟨#[102,105,101,108,100]⟩ : ByteArray).size ≤ 140737488355328 by decide)
  ·exact Vde h1 h2 h3 o4
 ·exact Vde h1 h2 h3 o4
end Go.Pl

namespace Go.Pl
open Go.Ev
set_option linter.unusedVariables false
set_option linter.unusedSimpArgs false
end Go.Pl

namespace Go.Pl
open Go.Ev
set_option linter.unusedVariables false
noncomputable section
end
end Go.Pl

namespace Go.Pl
open Go.Ev
set_option linter.unusedVariables false
noncomputable section
end
end Go.Pl

namespace Go.Pl
open Go.Ev
set_option linter.unusedVariables false
noncomputable section
end
end Go.Pl

namespace Go.Pl
open Go.Ev
set_option linter.unusedVariables false
noncomputable section
end
end Go.Pl

namespace Go.Pl
open Go.Ev
set_option linter.unusedVariables false
set_option linter.unusedSimpArgs false
theorem V8 {x : Show} {c : Cue} (h : cueB x c = true) : 0 ≤ artI x.2.1 c.2.2.1 ∧ beatB x.1 c.1 c.2.1 = true ∧ 0 ≤ fireT x c := by
 unfold cueB at h
 simp only [Bool.and_eq_true,decide_eq_true_eq] at h
 exact ⟨h.1.1.2,h.1.2,h.2⟩
theorem Vct {x : Show} (h : showB x = true) : VF x.1 = true ∧ artsB x.2.1 = true ∧ x.2.2.length ≤ 20 ∧ ∀ c ∈ x.2.2,cueB x c = true := by
 unfold showB at h
 simp only [Bool.and_eq_true,decide_eq_true_eq] at h
 exact ⟨h.1.1.1,h.1.1.2,h.1.2,fun c hc => List.all_eq_true.1 h.2 c hc⟩
def extF (x : Show) (fired : List Int) : List Art → List Bk
 | [] => []
 | a :: r => (if 0 < cntN x fired a.1 then [(1,a.1,(cntN x fired a.1 : Int))] else []) ++ extF x fired r
theorem Vg6 (x : Show) (fired : List Int) : ∀ (arts : List Art) (out : List Bk),arts.foldl (bookF x fired) out = out ++ extF x fired arts := by
 intro arts
 induction arts with
 | nil => intro out; simp [extF]
 | cons a r ih =>
  intro out
  rw [List.foldl_cons,ih]
  unfold bookF
  simp only [extF]
  split <;> simp
theorem VcS (list : List Bk) (x : Show) (fired : List Int) : ((bookS list x fired).2 ≠ 0 ∧ (bookS list x fired).1 = []) ∨ (VB list = true ∧ showB x = true ∧ Van x fired = true ∧ VB (bookL x fired list) = true ∧ bookS list x fired = (bookL x fired list,0)) := by
 unfold bookS
 by_cases h1 : VB list = true
 ·by_cases h2 : showB x = true
  ·by_cases h3 : Van x fired = true
   ·rw [if_pos h1,if_pos h2,if_pos h3]
    unfold limR
    by_cases h4 : 60 < (bookL x fired list).length
    ·rw [if_pos h4]; exact .inl ⟨by simp,rfl⟩
    ·rw [if_neg h4]
     by_cases h5 : VB (bookL x fired list) = true
     ·rw [if_pos h5]; exact .inr ⟨h1,h2,h3,h5,rfl⟩
     ·rw [if_neg h5]; exact .inl ⟨by simp,rfl⟩
   ·rw [if_pos h1,if_pos h2,if_neg h3]; exact .inl ⟨by simp,rfl⟩
  ·rw [if_pos h1,if_neg h2]; exact .inl ⟨by simp,rfl⟩
 ·rw [if_neg h1]; exact .inl ⟨by simp,rfl⟩
end Go.Pl

namespace Go.Pl
open Go.Ev
set_option linter.unusedVariables false
noncomputable section
end
end Go.Pl

namespace Go.Pl
open Go.Ev
set_option linter.unusedVariables false
noncomputable section
end
end Go.Pl

namespace Go.Pl
open Go.Ev
set_option linter.unusedVariables false
noncomputable section
end
end Go.Pl

namespace Go.Pl
open Go.Ev
set_option linter.unusedVariables false
noncomputable section
end
end Go.Pl

namespace Go.Pl
open Go.Ev
set_option linter.unusedVariables false
noncomputable section
end
end Go.Pl

namespace Go.Pl
open Go.Ev
set_option linter.unusedVariables false
set_option linter.unusedSimpArgs false
end Go.Pl

namespace Go.Pl
open Go.Ev
set_option linter.unusedVariables false
noncomputable section
end
end Go.Pl

namespace Go.Pl
open Go.Ev
set_option linter.unusedVariables false
noncomputable section
end
end Go.Pl

namespace Go.Pl
open Go.Ev
set_option linter.unusedVariables false
set_option linter.unusedSimpArgs false
theorem VcF {n : Nat} (h : n ≤ 2000) : n < room 24 := by rw [ViV]; omega
end Go.Pl

namespace Go.Pl
open Go.Ev
set_option linter.unusedVariables false
set_option linter.unusedSimpArgs false
def artO (x : Show) (c : Cue) : Art := x.2.1.getD (artI x.2.1 c.2.2.1).toNat (ByteArray.empty,(0,(0,(0,(0,(0,(0,(0,0))))))))
def ArtN (a : Art) (n : Nat) : Prop := (0 ≤ a.2.2.2.1 ∧ a.2.2.2.1 ≤ 10000) ∧ (0 ≤ a.2.2.2.2.1 ∧ a.2.2.2.2.1 ≤ a.2.2.2.1) ∧ (a.2.2.2.2.2.1 = (n : Int) ∧ 1 ≤ n ∧ n ≤ 50) ∧ 0 ≤ a.2.2.2.2.2.2.1 ∧ a.2.2.2.2.2.2.1 ≤ 10000
def shN (a : Art) : Nat := a.2.2.2.2.2.1.toNat
theorem VaI {x : Show} {c : Cue} (h2 : artsB x.2.1 = true) (h0 : 0 ≤ artI x.2.1 c.2.2.1) : ArtN (artO x c) (shN (artO x c)) := by
 have hb := Vau x.2.1 c.2.2.1
 have hm : artO x c ∈ x.2.1 := by
  unfold artO
  rw [List.getD_eq_getElem?_getD,List.getElem?_eq_getElem (by omega)]; exact List.getElem_mem _
 have := (VW h2).2 _ hm
 unfold artB at this
 simp only [Bool.and_eq_true,inB_iff] at this
 obtain ⟨⟨⟨⟨⟨⟨⟨⟨_,_⟩,_⟩,b4⟩,b5⟩,b6⟩,b7⟩,_⟩,_⟩ := this
 refine ⟨b4,b5,⟨?_,?_,?_⟩,b7⟩ <;> (unfold shN; omega)
def wAt (a : Art) (t : Int) (i : Nat) : Int := t + a.2.2.2.1 + (i : Int) * a.2.2.2.2.2.2.1
def wTwo (a : Art) (t : Int) (i : Nat) : List Int := [wAt a t i - a.2.2.2.2.1,wAt a t i + a.2.2.2.2.1]
def wRow (a : Art) (t k : Int) (i : Nat) : List Int := [wAt a t i - a.2.2.2.2.1,wAt a t i + a.2.2.2.2.1,k]
theorem Vg7 {a : Art} {n : Nat} (ha : ArtN a n) {i : Nat} (hi : i < n) : 0 ≤ (i : Int) * a.2.2.2.2.2.2.1 ∧ (i : Int) * a.2.2.2.2.2.2.1 ≤ 500000 := by
 obtain ⟨_,_,⟨_,_,h50⟩,g0,g1⟩ := ha
 refine ⟨Int.mul_nonneg (by omega) g0,?_⟩
 have := Int.mul_le_mul (show (i : Int) ≤ 50 by omega) g1 g0 (by omega)
 omega
theorem Viy {a : Art} {n : Nat} (ha : ArtN a n) {t : Int} (ht : 0 ≤ t ∧ t ≤ 10000000) : ∀ (d i k : Nat),i + d = n → d < k → Qx.l3 NN k t (i : Int) a ((List.range i).map (wTwo a t)) = some ((List.range n).map (wTwo a t)) := by
 intro d
 induction d with
 | zero =>
  intro i k hi hk
  obtain ⟨k,rfl⟩ : ∃ j,k = j + 1 := ⟨k - 1,by omega⟩
  have c : ¬ (i : Int) < a.2.2.2.2.2.1 := by rw [ha.2.2.1.1]; omega
  simp only [Qx.l3,Qx.g3,c,and_self,and_true,true_and,decide_true,decide_false,if_true,if_false,Vd,Ve,Va,Vb,Vf,Option.bind_some,Bool.not_true,Bool.not_false,Bool.false_eq_true,Bool.true_eq_false,beq_self_eq_true,bne_self_eq_false,Int.toNat_natCast]
  rw [show i = n by omega]
 | succ d ih =>
  intro i k hi hk
  obtain ⟨k,rfl⟩ : ∃ j,k = j + 1 := ⟨k - 1,by omega⟩
  have c : (i : Int) < a.2.2.2.2.2.1 := by rw [ha.2.2.1.1]; omega
  have hb := Vg7 ha (show i < n by omega)
  have hA := ha
  obtain ⟨l,s,⟨_,_,h50⟩,g⟩ := hA
  have w1 := w64 (n := t + a.2.2.2.1) (by omega) (by omega)
  have w2 := w64 (n := (i : Int) * a.2.2.2.2.2.2.1) (by omega) (by omega)
  have w3 := w64 (n := t + a.2.2.2.1 + (i : Int) * a.2.2.2.2.2.2.1) (by omega) (by omega)
  have w4 := w64 (n := t + a.2.2.2.1 + (i : Int) * a.2.2.2.2.2.2.1 - a.2.2.2.2.1) (by omega) (by omega)
  have w5 := w64 (n := t + a.2.2.2.1 + (i : Int) * a.2.2.2.2.2.2.1 + a.2.2.2.2.1) (by omega) (by omega)
  have w6 : IntKind.i64.wrap ((i : Int) + 1) = ((i + 1 : Nat) : Int) := by rw [w64 (by omega) (by omega)]; omega
  simp only [Qx.l3,Qx.g3,c,w1,w2,w3,w4,w5,w6,and_self,and_true,true_and,decide_true,decide_false,if_true,if_false,Vd,Ve,Va,Vb,Vf,Option.bind_some,Bool.not_true,Bool.not_false,Bool.false_eq_true,Bool.true_eq_false,beq_self_eq_true,bne_self_eq_false,Int.toNat_natCast]
  rw [if_pos (VcF (by rw [List.length_map,List.length_range]; simp only [List.length_cons,List.length_nil]; omega))]
  have i1 := ih (i + 1) k (by omega) (by omega)
  rw [List.range_succ,List.map_append] at i1
  exact i1
theorem Viz {a : Art} {n : Nat} (ha : ArtN a n) {t : Int} (ht : 0 ≤ t ∧ t ≤ 10000000) : Qx.f a t = some ((List.range n).map (wTwo a t)) := by
 have := ha.2.2.1
 exact Viy ha ht n 0 NN (by omega) (NN_lt (by omega))
theorem Vff {x : Show} {c : Cue} (h1 : VF x.1 = true) (h2 : artsB x.2.1 = true) (hc : cueB x c = true) : 0 ≤ fireT x c ∧ fireT x c ≤ 10000000 := by
 have hb := V8 hc
 have hB := Vbs h1 c.1.toNat
 have hbb := VbR h1 hb.2.1
 have hL := Vda h2 hb.1
 have hT : fireT x c = timeL x.1 c.1 c.2.1 - liftA x.2.1 c.2.2.1 := rfl
 have hTT : timeL x.1 c.1 c.2.1 = barsL x.1 c.1.toNat + c.2.1 * (x.1.getD c.1.toNat (0,0)).2 := rfl
 omega
def cueW (x : Show) (k : Int) (c : Cue) : List (List Int) := (List.range (shN (artO x c))).map (wRow (artO x c) (fireT x c) k)
theorem VhV {x : Show} {c : Cue} (h1 : VF x.1 = true) (h2 : artsB x.2.1 = true) (hc : cueB x c = true) : Qak.f x c = some ((List.range (shN (artO x c))).map (wTwo (artO x c) (fireT x c))) := by
 have hb := V8 hc
 have hbd := Vau x.2.1 c.2.2.1
 have hl := (VW h2).1
 unfold Qak.f Qak.fn Qak.top Qas.f Qas.fn Qas.top
 rw [Qa1 x.2.1 _ (by omega),Option.bind_some,if_pos ⟨hb.1,hbd⟩,Option.bind_some,Qbs x c h1 h2,if_pos ⟨hb.1,hb.2.1⟩,if_pos (by omega),Option.bind_some]
 rw [show (x.2.1.getD (artI x.2.1 c.2.2.1).toNat (ByteArray.empty,(0,(0,(0,(0,(0,(0,(0,0)))))))) : Art) = artO x c from rfl,Viz (VaI h2 hb.1) (Vff h1 h2 hc)]
 rfl
theorem VhW {x : Show} {c : Cue} (h1 : VF x.1 = true) (h2 : artsB x.2.1 = true) (hc : cueB x c = true) (kk : Int) : ∀ (d i k : Nat),i + d = shN (artO x c) → d < k → QV.l5 NN k kk (i : Int) x c (artO x c) ((List.range i).map (wRow (artO x c) (fireT x c) kk)) = some (cueW x kk c) := by
 have hb := V8 hc
 have ha := VaI h2 hb.1
 have ht := Vff h1 h2 hc
 intro d
 induction d with
 | zero =>
  intro i k hi hk
  obtain ⟨k,rfl⟩ : ∃ j,k = j + 1 := ⟨k - 1,by omega⟩
  have c : ¬ (i : Int) < (artO x c).2.2.2.2.2.1 := by rw [ha.2.2.1.1]; omega
  simp only [QV.l5,QV.g5,c,and_self,and_true,true_and,decide_true,decide_false,if_true,if_false,Vd,Ve,Va,Vb,Vf,Option.bind_some,Bool.not_true,Bool.not_false,Bool.false_eq_true,Bool.true_eq_false,beq_self_eq_true,bne_self_eq_false,Int.toNat_natCast]
  unfold cueW
  rw [show i = shN (artO x _) by omega]
 | succ d ih =>
  intro i k hi hk
  obtain ⟨k,rfl⟩ : ∃ j,k = j + 1 := ⟨k - 1,by omega⟩
  have cc : (i : Int) < (artO x c).2.2.2.2.2.1 := by rw [ha.2.2.1.1]; omega
  have hbw := Vg7 ha (show i < shN (artO x c) by omega)
  have hA := ha
  obtain ⟨l,s,⟨_,_,h50⟩,g⟩ := hA
  have i1 := ih (i + 1) k (by omega) (by omega)
  rw [List.range_succ,List.map_append] at i1
  have hTime := Qbt x c h1 h2 hb.1 hb.2.1
  generalize artO x c = a at *
  generalize fireT x c = t at *
  have w1 := w64 (n := t + a.2.2.2.1) (by omega) (by omega)
  have w2 := w64 (n := (i : Int) * a.2.2.2.2.2.2.1) (by omega) (by omega)
  have w3 := w64 (n := t + a.2.2.2.1 + (i : Int) * a.2.2.2.2.2.2.1) (by omega) (by omega)
  have w4 := w64 (n := t + a.2.2.2.1 + (i : Int) * a.2.2.2.2.2.2.1 - a.2.2.2.2.1) (by omega) (by omega)
  have w5 := w64 (n := t + a.2.2.2.1 + (i : Int) * a.2.2.2.2.2.2.1 + a.2.2.2.2.1) (by omega) (by omega)
  have w6 : IntKind.i64.wrap ((i : Int) + 1) = ((i + 1 : Nat) : Int) := by rw [w64 (by omega) (by omega)]; omega
  have hw : Qax.f a t (i : Int) = some (wTwo a t i) := by
   unfold Qax.f Qax.fn Qax.top
   rw [w1,w2,w3,w4,w5]; rfl
  simp only [QV.l5,QV.g5,cc,w6,and_self,and_true,true_and,decide_true,decide_false,if_true,if_false,Vd,Ve,Va,Vb,Vf,Option.bind_some,Bool.not_true,Bool.not_false,Bool.false_eq_true,Bool.true_eq_false,beq_self_eq_true,bne_self_eq_false,Int.toNat_natCast]
  rw [hTime,Option.bind_some,hw,Option.bind_some,if_pos (show (0 : Int) ≤ 0 ∧ (0 : Int) < ((wTwo a t i).length : Int) by simp [wTwo]),if_pos (show (0 : Int) ≤ 1 ∧ (1 : Int) < ((wTwo a t i).length : Int) by simp [wTwo])]
  rw [if_pos (VcF (by rw [List.length_map,List.length_range]; simp only [List.length_cons,List.length_nil]; omega))]
  exact i1
end Go.Pl

namespace Go.Pl
open Go.Ev
set_option linter.unusedVariables false
set_option linter.unusedSimpArgs false
def winF (x : Show) : Nat → List Cue → List (List Int)
 | _,[] => []
 | k,c :: r => cueW x (k : Int) c ++ winF x (k + 1) r
theorem Vbt (x : Show) (k : Int) (c : Cue) : (cueW x k c).length = shN (artO x c) := by unfold cueW; rw [List.length_map,List.length_range]
theorem Vex {α : Type} (F : Nat → α) (z : α) {i n : Nat} (h : i < n) : ((List.range n).map F).getD i z = F i := by
 rw [List.getD_eq_getElem?_getD,List.getElem?_map,List.getElem?_range h]; rfl
theorem VhX {x : Show} {c : Cue} (h1 : VF x.1 = true) (h2 : artsB x.2.1 = true) (hc : cueB x c = true) {k : Int} (k0 : 0 ≤ k) (k1 : k < (x.2.2.length : Int)) (hg : x.2.2.getD k.toNat (0,(0,(ByteArray.empty,0))) = c) : QV.f x k = some (cueW x k c) := by
 have hb := V8 hc
 have hbd := Vau x.2.1 c.2.2.1
 have hl := (VW h2).1
 have ha := VaI h2 hb.1
 unfold QV.f QV.fn QV.top
 rw [if_pos ⟨k0,k1⟩,hg,Qba x.2.1 _ (by omega),Option.bind_some,if_pos ⟨hb.1,hbd⟩]
 exact VhW h1 h2 hc k (shN (artO x c)) 0 NN (by omega) (NN_lt (by have := ha.2.2.1; omega))
theorem l6_f {x : Show} {c : Cue} (h1 : VF x.1 = true) (h2 : artsB x.2.1 = true) (hc : cueB x c = true) (L3 : List Cue → Int → Int → Show → List (List Int) → Option (List (List Int))) (kk : Int) (cs : List Cue) (v10 v11 : Int) (acc : List (List Int)) (hacc : acc.length ≤ 1500) :
  ∀ (d i k : Nat),i + d = shN (artO x c) → d < k → Qi.l6 NN L3 k kk cs v10 v11 (shN (artO x c) : Int) (i : Int) x (acc ++ (List.range i).map (wRow (artO x c) (fireT x c) kk)) ((List.range (shN (artO x c))).map (wTwo (artO x c) (fireT x c))) = L3 cs v10 (IntKind.i64.wrap (v11 + 1)) x (acc ++ cueW x kk c) := by
 have hb := V8 hc
 have ha := VaI h2 hb.1
 have h50 := ha.2.2.1
 intro d
 induction d with
 | zero =>
  intro i k hi hk
  obtain ⟨k,rfl⟩ : ∃ j,k = j + 1 := ⟨k - 1,by omega⟩
  have cc : ¬ (i : Int) < (shN (artO x c) : Int) := by omega
  simp only [Qi.l6,Qi.g6,cc,and_self,and_true,true_and,decide_true,decide_false,if_true,if_false,Vd,Ve,Va,Vb,Vf,Option.bind_some,Bool.not_true,Bool.not_false,Bool.false_eq_true,Bool.true_eq_false,beq_self_eq_true,bne_self_eq_false,Int.toNat_natCast]
  unfold cueW
  rw [show i = shN (artO x c) by omega]
 | succ d ih =>
  intro i k hi hk
  obtain ⟨k,rfl⟩ : ∃ j,k = j + 1 := ⟨k - 1,by omega⟩
  have c1 : (i : Int) < (shN (artO x c) : Int) := by omega
  have c0 : (0 : Int) ≤ (i : Int) := by omega
  have i1 := ih (i + 1) k (by omega) (by omega)
  rw [List.range_succ,List.map_append,← List.append_assoc] at i1
  have w6 : IntKind.i64.wrap ((i : Int) + 1) = ((i + 1 : Nat) : Int) := by rw [w64 (by omega) (by omega)]; omega
  have hlen : ((List.range (shN (artO x c))).map (wTwo (artO x c) (fireT x c))).length = shN (artO x c) := by simp
  have hg := Vex (wTwo (artO x c) (fireT x c)) ([] : List Int) (show i < shN (artO x c) by omega)
  have g0 : (0 : Int) ≤ 0 ∧ (0 : Int) < ((wTwo (artO x c) (fireT x c) i).length : Int) := by simp [wTwo]
  have g1 : (0 : Int) ≤ 1 ∧ (1 : Int) < ((wTwo (artO x c) (fireT x c) i).length : Int) := by simp [wTwo]
  have cr : (i : Int) < (((List.range (shN (artO x c))).map (wTwo (artO x c) (fireT x c))).length : Int) := by rw [hlen]; exact c1
  simp only [Qi.l6,Qi.g6,c0,c1,cr,w6,and_self,and_true,true_and,decide_true,decide_false,if_true,if_false,Vd,Ve,Va,Vb,Vf,Option.bind_some,Bool.not_true,Bool.not_false,Bool.false_eq_true,Bool.true_eq_false,beq_self_eq_true,bne_self_eq_false,Int.toNat_natCast,hg]
  rw [if_pos g0,if_pos g1,if_pos (VcF (by rw [List.length_append,List.length_map,List.length_range]; simp only [List.length_cons,List.length_nil]; omega))]
  exact i1
theorem VhY (x : Show) (h2 : artsB x.2.1 = true) : ∀ (r : List Cue) (k : Nat),(∀ c ∈ r,cueB x c = true) → (winF x k r).length ≤ 50 * r.length := by
 intro r
 induction r with
 | nil => intro k _; simp [winF]
 | cons c r ih =>
  intro k h
  have i := ih (k + 1) fun d hd => h d (by simp [hd])
  have ha := VaI h2 (V8 (h c (by simp))).1
  have h50 := ha.2.2.1
  simp only [winF,List.length_append,Vbt,List.length_cons]
  omega
theorem ViA (x : Show) (h1 : VF x.1 = true) (h2 : artsB x.2.1 = true) : ∀ (r p : List Cue) (acc : List (List Int)) (k : Nat),p.length + r.length ≤ 20 → acc.length ≤ 50 * p.length → (∀ c ∈ r,cueB x c = true) → r.length < k → Qi.l3 NN k (p ++ r) ((p ++ r).length : Int) (p.length : Int) x acc = some (acc ++ winF x p.length r) := by
 intro r
 induction r with
 | nil =>
  intro p acc k _ _ _ hk
  obtain ⟨k,rfl⟩ : ∃ j,k = j + 1 := ⟨k - 1,by omega⟩
  simp only [List.append_nil,winF,Qi.l3,Qi.g3,Int.lt_irrefl,and_self,and_true,true_and,decide_true,decide_false,if_true,if_false,Vd,Ve,Va,Vb,Vf,Option.bind_some,Bool.not_true,Bool.not_false,Bool.false_eq_true,Bool.true_eq_false,beq_self_eq_true,bne_self_eq_false,Int.toNat_natCast]
 | cons c r ih =>
  intro p acc k hl hacc hc hk
  simp only [List.length_cons] at hl hk
  obtain ⟨k,rfl⟩ : ∃ j,k = j + 1 := ⟨k - 1,by omega⟩
  have hln := VD p r c
  have c0 : (0 : Int) ≤ (p.length : Int) := by omega
  have c1 : (p.length : Int) < ((p ++ c :: r).length : Int) := by omega
  have cw := w64 (n := (p.length : Int) + 1) (by omega) (by omega)
  have hcc := hc c (by simp)
  have ha := VaI h2 (V8 hcc).1
  have h50 := ha.2.2.1
  have i := ih (p ++ [c]) (acc ++ cueW x (p.length : Int) c) k (by simp; omega) (by simp only [List.length_append,Vbt,List.length_cons,List.length_nil]; omega) (fun d hd => hc d (by simp [hd])) (by omega)
  simp only [Vy,Vt] at i
  have e2 : (p ++ [c]).length = p.length + 1 := by simp
  rw [e2] at i
  have h6 := l6_f h1 h2 hcc (Qi.l3 NN k) (p.length : Int) (p ++ c :: r) ((p ++ c :: r).length : Int) (p.length : Int) acc (by omega) (shN (artO x c)) 0 NN (by omega) (NN_lt (by omega))
  rw [List.range_zero,List.map_nil,List.append_nil,cw,i] at h6
  have hlen : (((List.range (shN (artO x c))).map (wTwo (artO x c) (fireT x c))).length : Int) = (shN (artO x c) : Int) := by simp
  simp only [Qi.l3,Qi.g3,c0,c1,and_self,and_true,true_and,decide_true,decide_false,if_true,if_false,Vd,Ve,Va,Vb,Vf,Option.bind_some,Bool.not_true,Bool.not_false,Bool.false_eq_true,Bool.true_eq_false,beq_self_eq_true,bne_self_eq_false,Int.toNat_natCast,VhV h1 h2 hcc,hlen]
  rw [winF,← List.append_assoc]
  exact h6
theorem ViB (x : Show) (h1 : VF x.1 = true) (h2 : artsB x.2.1 = true) : ∀ (r p : List Cue) (acc : List (List Int)) (k : Nat),x.2.2 = p ++ r → p.length + r.length ≤ 20 → acc.length ≤ 50 * p.length → (∀ c ∈ r,cueB x c = true) → r.length < k → Qaf.l3 NN k (p.length : Int) x acc = some (acc ++ winF x p.length r) := by
 intro r
 induction r with
 | nil =>
  intro p acc k hx _ _ _ hk
  obtain ⟨k,rfl⟩ : ∃ j,k = j + 1 := ⟨k - 1,by omega⟩
  have c : ¬ (p.length : Int) < (x.2.2.length : Int) := by rw [hx]; simp
  simp only [winF,List.append_nil,Qaf.l3,Qaf.g3,c,and_self,and_true,true_and,decide_true,decide_false,if_true,if_false,Vd,Ve,Va,Vb,Vf,Option.bind_some,Bool.not_true,Bool.not_false,Bool.false_eq_true,Bool.true_eq_false,beq_self_eq_true,bne_self_eq_false,Int.toNat_natCast]
 | cons c r ih =>
  intro p acc k hx hl hacc hc hk
  simp only [List.length_cons] at hl hk
  obtain ⟨k,rfl⟩ : ∃ j,k = j + 1 := ⟨k - 1,by omega⟩
  have hln := VD p r c
  have c0 : (0 : Int) ≤ (p.length : Int) := by omega
  have c1 : (p.length : Int) < (x.2.2.length : Int) := by rw [hx]; omega
  have cw := w64 (n := (p.length : Int) + 1) (by omega) (by omega)
  have hcc := hc c (by simp)
  have ha := VaI h2 (V8 hcc).1
  have h50 := ha.2.2.1
  have i := ih (p ++ [c]) (acc ++ cueW x (p.length : Int) c) k (by rw [hx]; simp) (by simp; omega) (by simp only [List.length_append,Vbt,List.length_cons,List.length_nil]; omega) (fun d hd => hc d (by simp [hd])) (by omega)
  simp only [Vt] at i
  have e2 : (p ++ [c]).length = p.length + 1 := by simp
  rw [e2] at i
  have hg : x.2.2.getD ((p.length : Int)).toNat (0,(0,(ByteArray.empty,0))) = c := by rw [hx,Int.toNat_natCast,List.getD_eq_getElem?_getD]; simp
  simp only [Qaf.l3,Qaf.g3,c1,and_self,and_true,true_and,decide_true,decide_false,if_true,if_false,Vd,Ve,Va,Vb,Vf,Option.bind_some,Bool.not_true,Bool.not_false,Bool.false_eq_true,Bool.true_eq_false,beq_self_eq_true,bne_self_eq_false,Int.toNat_natCast,VhX h1 h2 hcc c0 c1 hg,cw]
  rw [if_pos (VcF (by rw [Vbt]; omega)),i,winF,List.append_assoc]
def winR (x : Show) : List (List Int) × Int := if showB x = true then (winF x 0 x.2.2,0) else ([],1)
theorem Vd1 (x : Show) (hz : ShowZ x) : Qav.f x = some (winR x) ∧ Qay.f x = some (winR x) := by
 unfold Qav.f Qav.fn Qav.top Qay.f Qay.fn Qay.top winR
 rw [Qbw x hz,Qa5 x hz]
 by_cases h : showB x = true
 ·obtain ⟨h1,h2,h3,h4⟩ := Vct h
  have a := ViA x h1 h2 x.2.2 [] [] NN (by simp; omega) (by simp) h4 (NN_lt (by omega))
  have b := ViB x h1 h2 x.2.2 [] [] NN rfl (by simp; omega) (by simp) h4 (NN_lt (by omega))
  have a' : Qi.f x = some (winF x 0 x.2.2) := a
  have b' : Qaf.f x = some (winF x 0 x.2.2) := b
  rw [h,Option.bind_some,Option.bind_some,if_neg (show ¬ (!true) = true by decide),if_neg (show ¬ (!true) = true by decide),if_pos rfl,a',b']
  exact ⟨rfl,rfl⟩
 ·have h' : showB x = false := by simpa using h
  rw [h']
  exact ⟨rfl,rfl⟩
theorem Vey (a : List (List Int)) (hl : a.length ≤ 140737488355328) (ha : ∀ r ∈ a,r.length ≤ 140737488355328) : QP.f a a = some true := by
 unfold QP.f QP.fn QP.top
 simp only [bne_self_eq_false,Bool.false_eq_true,if_false]
 refine Vc2 (E := fun r : List Int => r.length ≤ 140737488355328) (fun k a b i => QP.l4 NN k a b i) a ha ?_ ?_ NN (NN_lt (by omega))
 ·intro k p x r hx ha
  subst ha
  have hm := VD p r x
  have c1 : (p.length : Int) < ((p ++ x :: r).length : Int) := by omega
  have c0 : (0 : Int) ≤ (p.length : Int) := by omega
  have cw := w64 (n := (p.length : Int) + 1) (by omega) (by omega)
  simp only [QP.l4,QP.g4,c0,c1,cw,and_self,and_true,true_and,decide_true,decide_false,if_true,if_false,Vd,Ve,Va,Vb,Vf,Option.bind_some,Bool.not_true,Bool.not_false,Bool.false_eq_true,Bool.true_eq_false,beq_self_eq_true,bne_self_eq_false,Int.toNat_natCast,Vb6 x hx]
 ·intro k
  simp [QP.l4,QP.g4]
end Go.Pl
