/- Part 3 of what the law FnDesks stands on: an evaluator of the model's code, proved sound; the functions as plain texts; their contracts. -/
import Derived.Test.YtijddinlmamclaaGreatChecked
import Derived.Test.YtijddinlmamclaaGreatProg
import Derived.Test.YtijddinlmamclaaGreatRows
import Derived.Below
import Derived.Calls
import Derived.Carry
import Derived.ChangeArms
import Derived.ChangeKeysEq
import Derived.ChangeOld
import Derived.Deep.Quiet
import Derived.KernelRfl
import Derived.Laws.Append
import Derived.Laws.BytesString
import Derived.Laws.MakeOwn
import Derived.Laws.Strings
import Derived.Laws.StructEq
import Derived.OpenShut
import Derived.OrdersHeld
import Derived.ProofKit
import Derived.ShutString
import Derived.SizedLaws
import Derived.Tactics
import Derived.WalkKit
import Derived.WideShapes
import Derived.Test.YtijddinlmamclaaGreatEvDesks2
namespace Go.Ev
set_option linter.unusedVariables false
set_option linter.unusedSimpArgs false
variable {ρ : Type} {P : Program}
def V.lt (n : Nat) : V → Bool
 | .ref i => decide (i < n)
 | .ptr i _ => decide (i < n)
 | .vw i _ => decide (i < n)
 | .pr a b => a.lt n && b.lt n
 | .tp a b => a.lt n && b.lt n
 | _ => true
section
variable {φ φ' : Nat → Value} {hk hk' : Nat → Option Kd} {w w' : World} {S S' : Nat → Prop} {n : Nat}
theorem VC_lt (hφ : ∀ i k, i < n → hk i = some k → φ' i = φ i) (hkk : ∀ i k, i < n → hk i = some k → hk' i = some k ∨ hk' i = some .dead) (h : ∀ b, S b → S' b ∧ w'.heap[b]? = w.heap[b]?) :
  ∀ (t : Ty) (v : V) (cs : List Value), v.lt n = true → VC φ hk w S t v cs → VC φ' hk' w' S' t v cs := by
 intro t v
 induction v generalizing t with
 | dat u x => intro cs _ k; exact VC_dat.2 ⟨(VC_dat.1 k).1, VJ h _ _ _ (VC_dat.1 k).2⟩
 | ref id =>
  intro cs hl k
  have hl := of_decide_eq_true hl
  cases t with
  | sl e t =>
   rcases k with ⟨h1, h2⟩ | ⟨h1, rfl, A, n, c, h3⟩
   ·exact .inl ⟨(hkk _ _ hl h1).elim (fun h => h) (fun h => h), h2⟩
   ·rcases hkk _ _ hl h1 with h4 | h4
    ·exact .inr ⟨h4, by rw [hφ _ _ hl h1], A, n, c, by rw [hφ _ _ hl h1, h3]⟩
    ·exact .inl ⟨h4, A, n, c, by rw [h3]⟩
  | _ => exact k.elim
 | pr a b iha ihb =>
  intro cs hl k
  simp only [V.lt, Bool.and_eq_true] at hl
  cases t with
  | pair t u => obtain ⟨c0, c1, rfl, h0, h1⟩ := k; exact ⟨c0, c1, rfl, iha _ _ hl.1 h0, ihb _ _ hl.2 h1⟩
  | _ => exact k.elim
 | _ => intro cs _ k; cases t <;> exact k.elim
theorem VR_lt (hφ : ∀ i k, i < n → hk i = some k → φ' i = φ i) (hkk : ∀ i k, i < n → hk i = some k → hk' i = some k ∨ hk' i = some .dead) (h : ∀ b, S b → S' b ∧ w'.heap[b]? = w.heap[b]?) :
  ∀ (v : V), v.lt n = true → (∀ u, VR φ hk w S v u → VR φ' hk' w' S' v u) ∧ (∀ l, VRt φ hk w S v l → VRt φ' hk' w' S' v l) := by
 intro v
 induction v with
 | dat t x => intro _; exact ⟨fun u ⟨cs, h1, h2⟩ => ⟨cs, VJ h _ _ _ h1, h2⟩, fun l hl => hl⟩
 | nil => intro _; exact ⟨fun u k => k, fun l hl => hl⟩
 | ref id =>
  intro hl
  have hl := of_decide_eq_true hl
  refine ⟨fun u k => ?_, fun l hl => hl⟩
  rcases k with k | ⟨⟨e, t, k⟩, rfl⟩
  ·exact .inl ((hkk _ _ hl k).elim (fun h => h) (fun h => h))
  ·rcases hkk _ _ hl k with h4 | h4
   ·exact .inr ⟨⟨e, t, h4⟩, (hφ _ _ hl k).symm⟩
   ·exact .inl h4
 | ptr id p =>
  intro hl
  have hl := of_decide_eq_true hl
  refine ⟨fun u k => ?_, fun l hl => hl⟩
  rcases k with k | ⟨e, t, g, n, c, i, q, k, h1, h2, h0, h3⟩ | ⟨e, t, g, k, h1, h0, h2⟩
  ·exact .inl ((hkk _ _ hl k).elim (fun h => h) (fun h => h))
  ·rcases hkk _ _ hl k with h4 | h4
   ·exact .inr (.inl ⟨e, t, g, n, c, i, q, h4, (hφ _ _ hl k).trans h1, h2, h0, h3⟩)
   ·exact .inl h4
  ·rcases hkk _ _ hl k with h4 | h4
   ·exact .inr (.inr ⟨e, t, g, h4, (hφ _ _ hl k).trans h1, h0, h2⟩)
   ·exact .inl h4
 | dptr t x =>
  intro _
  exact ⟨fun u ⟨p, cs, h1, h2, h3, h4, h5⟩ => ⟨p, cs, h1, h2, (h _ h3).1, VJ h _ _ _ h4, fun j u hu => (VaN (a := ⟨p.block, p.off + j, none⟩) (h _ h3).2).trans (h5 j u hu)⟩, fun l hl => hl⟩
 | pr a b iha ihb => intro hl; exact ⟨fun u ⟨t, cs, h1, h2⟩ => ⟨t, cs, VC_lt hφ hkk h t (.pr a b) cs hl h1, h2⟩, fun l hl => hl⟩
 | tp a b iha ihb =>
  intro hl
  simp only [V.lt, Bool.and_eq_true] at hl
  refine ⟨?_, ?_⟩
  ·rintro v ⟨u, r, rfl, h1, h2⟩
   exact ⟨u, r, rfl, (iha hl.1).1 u h1, (ihb hl.2).2 r h2⟩
  ·rintro l ⟨u, r, rfl, h1, h2⟩
   exact ⟨u, r, rfl, (iha hl.1).1 u h1, (ihb hl.2).2 r h2⟩
 | vw id l =>
  intro hl
  have hl := of_decide_eq_true hl
  refine ⟨fun u k => ?_, fun l hl => hl⟩
  rcases k with k | ⟨e, t, A, n, c, k, h1, h2, h3⟩
  ·exact .inl ((hkk _ _ hl k).elim (fun h => h) (fun h => h))
  ·rcases hkk _ _ hl k with h4 | h4
   ·exact .inr ⟨e, t, A, n, c, h4, (hφ _ _ hl k).trans h1, h2, h3⟩
   ·exact .inl h4
 | und => intro _; exact ⟨fun _ hl => hl, fun l hl => hl⟩
 | gone => intro _; exact ⟨fun _ _ => trivial, fun l hl => hl⟩
end
section
variable {base io : Nat} {W0 : World} {IO Old : Nat → Prop} {φ0 : Nat → Value × Kd} {s s3 : St} {a a3 : Act} {w w3 : World} {ow ow3 : Nat → Option Nat} {φ φ3 : Nat → Value}
def Vft (φ : Nat → Value) (hp : List Blk) : Nat → Value × Kd := fun i => (φ i, (kds hp i).getD .dead)
def OldIn (ow : Nat → Option Nat) (w : World) (Old : Nat → Prop) (base b : Nat) : Prop := Fz ow w Old base b ∨ ∃ id, ow b = some id
theorem Fz_in {b : Nat} (h : Fz ow w Old base b) : Fz ow w (OldIn ow w Old base) w.heap.size b := ⟨h.1, h.2.1, .inl (.inl h)⟩
theorem Vhy {m : Nat} (hm : m ≤ s.hp.length) (hr : Rel base W0 IO Old io φ0 s a w ow φ) {vs : List V} {us : List Value} (h : All2 (VR φ (kds s.hp) w (Fz ow w Old base)) vs us) (n : Nat) :
  Rel w.heap.size w (fun b => ∃ id, ow b = some id) (OldIn ow w Old base) m (Vft φ s.hp) ⟨vs ++ List.replicate n .und, s.hp⟩ { tmps := (us ++ List.replicate n undef).toArray, defers := [] } w ow φ := by
 have mv : ∀ (v : V) (u : Value), VR φ (kds s.hp) w (Fz ow w Old base) v u → VR φ (kds s.hp) w (Fz ow w (OldIn ow w Old base) w.heap.size) v u := fun v u k => ((Vbu (fun _ _ _ => rfl) (fun i k hk => .inl hk) (fun b hb => ⟨Fz_in hb, rfl⟩)) v).1 u k
 have hl := h.length
 refine ⟨rfl, ?_, ?_, ?_, ?_, ?_, Nat.le_refl _, ⟨rfl, rfl, rfl⟩, hm, fun i _ => rfl, fun i k _ hk => .inr ?_⟩
 ·simp [hl]
 ·intro i v hv
  by_cases hi : i < vs.length
  ·rw [List.getElem?_append_left hi] at hv
   obtain ⟨u, h1, h2⟩ := h.get.2 i v hv
   refine ⟨u, ?_, mv v u h2⟩
   have hi2 : i < us.length := by omega
   simp only [List.getElem?_toArray]
   rw [List.getElem?_append_left hi2]; exact h1
  ·rw [List.getElem?_append_right (by omega)] at hv
   obtain ⟨h1, h2⟩ := List.getElem?_eq_some_iff.1 hv
   rw [List.getElem_replicate] at h2
   subst h2
   refine ⟨undef, ?_, rfl⟩
   simp only [List.getElem?_toArray]
   rw [List.getElem?_append_right (by omega), List.getElem?_replicate, if_pos (by simpa [hl] using h1)]
 ·intro id b hb
  exact V5 rfl (fun _ _ _ => rfl) (fun i k hk => .inl hk) (fun b hb => ⟨Fz_in hb, rfl⟩) (fun g hg => ⟨hg, rfl⟩) (hr.hp id b hb)
 ·intro b id hb
  have := hr.own b id hb
  exact ⟨this.1, .inr ⟨⟨id, hb⟩, .inr (.inr ⟨id, hb⟩)⟩, this.2.2⟩
 ·intro b _ _; rfl
 ·show k = (kds s.hp i).getD .dead
  rw [hk]; rfl
theorem Vhz {m : Nat} (hlt : ∀ v ∈ s.sl, v.lt m = true) (hr : Rel base W0 IO Old 0 φ0 s a w ow φ) (h3 : Rel w.heap.size w (fun b => ∃ id, ow b = some id) (OldIn ow w Old base) m (Vft φ s.hp) s3 a3 w3 ow3 φ3) :
  Rel base W0 IO Old 0 φ0 ⟨s.sl, s3.hp⟩ a w3 ow3 φ3 := by
 have hφ : ∀ i k, i < m → kds s.hp i = some k → φ3 i = φ i := fun i k hi hk => h3.f0 i hi
 have hkk : ∀ i k, i < m → kds s.hp i = some k → kds s3.hp i = some k ∨ kds s3.hp i = some .dead := fun i k hi hk => by
  have hi3 : i < s3.hp.length := Nat.lt_of_lt_of_le hi h3.iol
  obtain ⟨k', hk'⟩ : ∃ k', kds s3.hp i = some k' := ⟨_, kds_some.2 ⟨s3.hp[i], List.getElem?_eq_getElem hi3, rfl⟩⟩
  have := h3.k0 i k' hi hk'
  have e : (Vft φ s.hp i).2 = k := by show (kds s.hp i).getD .dead = k; rw [hk]; rfl
  rw [e] at this
  rcases this with rfl | rfl
  ·exact .inr hk'
  ·exact .inl hk'
 have hS : ∀ b, Fz ow w Old base b → Fz ow3 w3 Old base b ∧ w3.heap[b]? = w.heap[b]? := fun b hb => by
  have hn : ¬ ∃ id, ow b = some id := fun ⟨id, h⟩ => by rw [hb.1] at h; cases h
  refine ⟨⟨?_, Nat.lt_of_lt_of_le hb.2.1 h3.sz, hb.2.2⟩, h3.fr b hb.2.1 hn⟩
  cases e : ow3 b with
  | none => rfl
  | some id =>
   rcases (h3.own b id e).2.1 with h | h
   ·exact absurd hb.2.1 (Nat.not_lt.2 h)
   ·exact absurd h.1 hn
 refine ⟨hr.dl, hr.len, ?_, ?_, ?_, ?_, Nat.le_trans hr.sz h3.sz, ⟨h3.mt.1.trans hr.mt.1, h3.mt.2.1.trans hr.mt.2.1, h3.mt.2.2.trans hr.mt.2.2⟩, Nat.zero_le _, fun i hi => absurd hi (Nat.not_lt_zero _), fun i k hi => absurd hi (Nat.not_lt_zero _)⟩
 ·intro i v hv
  obtain ⟨u, h1, h2⟩ := hr.sl i v hv
  exact ⟨u, h1, (VR_lt hφ hkk hS v (hlt v (List.mem_of_getElem? hv))).1 u h2⟩
 ·intro id b hb
  refine V5 (F' := Fz ow3 w3 Old base) rfl (fun _ _ _ => rfl) (fun i k hk => .inl hk) (fun b hb => ⟨⟨hb.1, hb.2.1, ?_⟩, rfl⟩) (fun g hg => ⟨hg, rfl⟩) (h3.hp id b hb)
  rcases hb.2.2 with (h | ⟨id0, h⟩) | h
  ·exact h.2.2
  ·rcases (hr.own b id0 h).2.1 with k | ⟨k1, k2 | k2⟩
   ·exact .inr k
   ·exact absurd k2 (Nat.not_lt_zero _)
   ·exact .inl k2
  ·exact .inr (Nat.le_trans hr.sz h)
 ·intro b id hb
  have := h3.own b id hb
  refine ⟨this.1, ?_, this.2.2⟩
  rcases this.2.1 with h | ⟨⟨id0, h⟩, _⟩
  ·exact .inl (Nat.le_trans hr.sz h)
  ·rcases (hr.own b id0 h).2.1 with k | ⟨k1, k2 | k2⟩
   ·exact .inl k
   ·exact absurd k2 (Nat.not_lt_zero _)
   ·exact .inr ⟨k1, .inr k2⟩
 ·intro b hb hi
  have hlt : b < w.heap.size := Nat.lt_of_lt_of_le hb hr.sz
  rw [h3.fr b hlt ?_]
  ·exact hr.fr b hb hi
  ·rintro ⟨id, h⟩
   rcases (hr.own b id h).2.1 with k | ⟨k, _⟩
   ·exact absurd hb (Nat.not_lt.2 k)
   ·exact hi k
end
def Vdo (I : FuncId → Option Func) (ops : Array Oper) : Option (List Oper × Oper × FuncId × Func × List Operand) := match ops.toList.reverse with
 | o :: r => match o.guard, o.op with
  | none, .call c => match c.callee with
   | .value (.func f) => match I f with
    | some fn => if fn.results.toList.isEmpty then some (r.reverse, o, f, fn, c.args.toList) else none
    | none => none
   | _ => none
  | _, _ => none
 | [] => none
def evAll (s : St) : List Operand → Option (List V)
 | [] => some []
 | x :: r => match s.ev x, evAll s r with
  | some v, some l => some (v :: l)
  | _, _ => none
def kIn (k : St → Option ρ) (sl : List V) (dst : Option Tmp) : Ex → St → Option ρ := fun e s3 => match e with
 | .exit _ => none
 | _ => k (({ sl := sl, hp := s3.hp } : St).put dst .gone)
def VaF (keep : Nat → List Nat) (id : Nat) : Nat → List Nat := fun i => keep (10000000 * (id + 1) + i)
def envIn (E : Env) (io : Nat) : Env := { E with io := io, fr := true }
def V.top : V → Nat
 | .ref i => i + 1
 | .ptr i _ => i + 1
 | .vw i _ => i + 1
 | .pr a b => max a.top b.top
 | .tp a b => max a.top b.top
 | _ => 0
def topS (s : St) : Nat := s.sl.foldl (fun m v => max m v.top) 0
noncomputable def Vel (E : Env) (keep : Nat → List Nat) (n id : Nat) (fn : Func) (args : List Operand) (dst : Option Tmp) (s : St) (k : St → Option ρ) : Option ρ := match evAll s args with
 | some vs => if E.io = 0 ∧ topS s ≤ s.hp.length ∧ (s.sl.all fun v => v.lt (topS s)) = true then exec (envIn E (topS s)) (VaF keep id) n (Vg fn) (kIn k s.sl dst) ⟨vs ++ List.replicate (fn.ntmps - vs.length) .und, s.hp⟩ else none
 | none => none
noncomputable def execI (E : Env) (I : FuncId → Option Func) (keep : Nat → List Nat) (n : Nat) : Code → (Ex → St → Option ρ) → St → Option ρ
 | .skip, K, s => K .normal s
 | .seq a b, K, s => execI E I keep n a (kSeq (cutAt E.io (keep (1000000 + VL b)) n (execI E I keep n b K)) K) s
 | .cond c a b, K, s => match s.ev c with
  | some (.dat .bool c) => if c = true then execI E I keep n a K s else execI E I keep n b K s
  | _ => none
 | .block id c, K, s => execI E I keep n c (VbY id K) s
 | .loop c, K, s => match s.norm E.io (keep (VL c)) with
  | some s => loopN (execI E I keep n c) (St.norm E.io (keep (VL c))) K n s
  | none => none
 | .region id ops false, K, s => match Vdo I ops with
  | some (pre, o, _, fn, args) => evOps E ops pre s fun s => Vel E keep n id fn args o.dst s (K .normal)
  | none => evOps E ops ops.toList s (K .normal)
 | .region _ ops true, K, s => if Region.noSelect ops = true then V4 E ops ops.size 0 s (K .normal) else none
 | .exit id, K, s => K (.exit id) s
 | .ret, K, s => K .ret s
 | _, _, _ => none
noncomputable def ctxI (E : Env) (I : FuncId → Option Func) (keep : Nat → List Nat) (n : Nat) : List (Way ρ) → Code → (Ex → St → Option ρ) → Code × (Ex → St → Option ρ)
 | .fst :: p, .seq a b, K => ctxI E I keep n p a (kSeq (cutAt E.io (keep (1000000 + VL b)) n (execI E I keep n b K)) K)
 | .snd :: p, .seq _ b, K => ctxI E I keep n p b K
 | .yes :: p, .cond _ a _, K => ctxI E I keep n p a K
 | .no :: p, .cond _ _ b, K => ctxI E I keep n p b K
 | .blk :: p, .block id c, K => ctxI E I keep n p c (VbY id K)
 | .rd L :: p, .loop c, K => ctxI E I keep n p c (kLoop (St.norm E.io (keep (VL c))) L K)
 | _, c, K => (c, K)
section
variable {E : Env} {base : Nat} {W0 : World} {IO Old : Nat → Prop} {φ0 : Nat → Value × Kd} {s : St} {a : Act} {w w' : World} {o : Oper} {r : ρ} {ow : Nat → Option Nat} {φ : Nat → Value}
theorem VeU {I : FuncId → Option Func} {ops : Array Oper} {pre : List Oper} {o : Oper} {f : FuncId} {fn : Func} {args : List Operand} (h : Vdo I ops = some (pre, o, f, fn, args)) :
  ops.toList = pre ++ [o] ∧ o.guard = none ∧ I f = some fn ∧ fn.results.toList = [] ∧ ∃ c, o.op = .call c ∧ c.callee = .value (.func f) ∧ c.args.toList = args := by
 unfold Vdo at h
 split at h
 ·rename_i o' r he
  split at h
  ·rename_i c hg ho
   split at h
   ·rename_i f' hc
    split at h
    ·rename_i fn' hI
     split at h
     ·rename_i hr
      simp only [Option.some.injEq, Prod.mk.injEq] at h
      obtain ⟨rfl, rfl, rfl, rfl, rfl⟩ := h
      have := congrArg List.reverse he
      simp only [List.reverse_reverse, List.reverse_cons] at this
      exact ⟨this, hg, hI, List.isEmpty_iff.1 hr, c, ho, hc, rfl⟩
     ·cases h
    ·cases h
   ·cases h
  ·cases h
 ·cases h
theorem Vf4 (hr : Rel base W0 IO Old E.io φ0 s a w ow φ) : ∀ (l : List Operand) (vs : List V), evAll s l = some vs → All2 (VR φ (kds s.hp) w (Fz ow w Old base)) vs (l.map a.eval) := by
 intro l
 induction l with
 | nil => intro vs h; cases h; exact .nil
 | cons x l ih =>
  intro vs h
  simp only [evAll] at h
  split at h
  ·rename_i v l' h1 h2
   cases h
   exact .cons (Vh hr h1) (ih _ h2)
  ·cases h
theorem Vip (hE : EnvOk P E IO Old) {ops : Array Oper} {Q : Exit → Act → World → Prop} {rest : List Oper} : ∀ (l : List Oper) (s : St) (k : St → Option ρ) (a : Act) (w : World), evOps E ops l s k = some r → RelE base W0 IO Old E.io φ0 s a w →
  (∀ s' a' w', k s' = some r → RelE base W0 IO Old E.io φ0 s' a' w' → wpList P ops Q rest a' w') → wpList P ops Q (l ++ rest) a w := by
 intro l
 induction l with
 | nil => intro s k a w h hr hq; exact hq s a w h hr
 | cons o l ih =>
  intro s k a w h hr hq
  simp only [evOps] at h
  show wpList P ops Q (o :: (l ++ rest)) a w
  unfold wpList
  rcases VaP (Q := Q) (next := wpList P ops Q (l ++ rest)) hE h hr (fun s' a' w' hk hr' => ih s' k a' w' hk hr' hq) with ⟨h1, h2⟩ | ⟨h1, h2⟩
  ·rw [if_pos h1]; exact .inl h2.wp
  ·rw [if_neg (by simp [h1])]; exact h2
theorem VeV (hE : EnvOk P E IO Old) {I : FuncId → Option Func} (hI : ∀ f fn, I f = some fn → P.funcs[f]? = some fn ∧ fn.body.isSome = true ∧ fn.name ≠ "runtime.NumGoroutine") {o : Oper} {f : FuncId} {fn : Func} {args : List Operand} {cl : Call}
  (ho : o.op = .call cl) (hc : cl.callee = .value (.func f)) (ha : cl.args.toList = args) (hf : I f = some fn) (hres : fn.results.toList = []) {keep : Nat → List Nat} {n id : Nat} {k : St → Option ρ} (h : Vel E keep n id fn args o.dst s k = some r) (hr : RelE base W0 IO Old E.io φ0 s a w)
  {next : Act → World → Prop} {Q : Exit → Act → World → Prop} (hn : ∀ s' a' w', k s' = some r → RelE base W0 IO Old E.io φ0 s' a' w' → next a' w') : o.wp P a w next Q := by
 obtain ⟨ow, φ, hr⟩ := hr
 unfold Vel at h
 split at h
 rotate_left
 ·cases h
 rename_i vs hvs
 split at h
 rotate_left
 ·cases h
 rename_i hio
 have hall := Vf4 hr args vs hvs
 obtain ⟨hP, hb, hname⟩ := hI f fn hf
 obtain ⟨code, hcode⟩ := Option.isSome_iff_exists.1 hb
 have hent := Vhy hio.2.1 hr hall (fn.ntmps - vs.length)
 have hE' : EnvOk P (envIn E (topS s)) (fun b => ∃ id, ow b = some id) (OldIn ow w Old base) := ⟨hE.mo, hE.ty, hE.eq', hE.by', hE.con, fun _ b hb => .inr hb⟩
 have hlen := hall.length
 have hcall : Calls P f (args.map a.eval).toArray w fun e w' => e = .returned (retOf []) ∧ next (a.put o.dst (retOf [])) w' := by
  refine calls_of_wp hP hcode ?_
  have htm : (args.map a.eval).toArray ++ Array.replicate (fn.ntmps - (args.map a.eval).toArray.size) undef = (args.map a.eval ++ List.replicate (fn.ntmps - vs.length) undef).toArray := by
   apply Array.ext'
   simp only [List.length_map] at hlen
   simp [hlen]
  rw [htm]
  have hcd : Vg fn = code := by unfold Vg; rw [hcode]
  rw [hcd] at h
  refine VdW hE' _ n code _ _ _ _ _ h ⟨ow, φ, hent⟩ fun e s3 a3 w3 hk hr3 => ?_
  obtain ⟨ow3, φ3, hr3⟩ := hr3
  have key : k (({ sl := s.sl, hp := s3.hp } : St).put o.dst .gone) = some r → a3.defers = [] ∧ ∃ v, (results fn a3.tmps).run P w3 = .ok v w3 ∧ ((Ending.returned v = .returned (retOf [])) ∧ next (a.put o.dst (retOf [])) w3) := fun hk => by
   have hr0 := hr
   rw [hio.1] at hr0
   have hl := Vhz (List.all_eq_true.1 hio.2.2) hr0 hr3
   have hp := Rel.put hl (v := .gone) (u := retOf []) trivial o.dst
   obtain ⟨us, hu, hrun⟩ := VbU hE' hr3 (vs := []) (by rw [hres]; rfl)
   have hu0 : us = [] := List.length_eq_zero_iff.1 (by have := hu.length; simpa using this.symm)
   rw [hu0] at hrun
   exact ⟨hr3.dl, retOf [], hrun, rfl, hn _ _ _ hk ⟨_, _, by rw [hio.1]; exact hp⟩⟩
  cases e with
  | normal => exact key hk
  | exit i => cases hk
  | ret => exact key hk
 have hrun : (execOp a.eval o).run P w = .ok (.enter f (args.map a.eval).toArray) w := by
  have hbn : fn.body.isNone = false := by cases hb : fn.body <;> simp_all
  have e1 : (args.map a.eval).toArray = cl.args.map a.eval := by rw [← ha, ← Array.toList_map]
  rw [e1]
  simp [execOp, ho, resolve, hc, Act.eval, Deferred.ofValue, invoke, callFunc, hP, hname, hbn]
  intro hb
  rw [hb] at hcode
  cases hcode
 unfold Oper.wp
 rw [hrun, Oper.upon_enter]
 refine hcall.mono fun e w' hpost => ?_
 obtain ⟨rfl, h2⟩ := hpost
 exact h2
theorem Vf5 (hE : EnvOk P E IO Old) {I : FuncId → Option Func} (hI : ∀ f fn, I f = some fn → P.funcs[f]? = some fn ∧ fn.body.isSome = true ∧ fn.name ≠ "runtime.NumGoroutine") (keep : Nat → List Nat) (n : Nat) : ∀ (c : Code) (K : Ex → St → Option ρ) (Q : Exit → Act → World → Prop) (s : St) (a : Act) (w : World), execI E I keep n c K s = some r → RelE base W0 IO Old E.io φ0 s a w →
  (∀ e s' a' w', K e s' = some r → RelE base W0 IO Old E.io φ0 s' a' w' → Q e.to a' w') → c.wp P Q a w := by
 intro c
 induction c with
 | skip => intro K Q s a w h hr hq; exact wp_skip (hq .normal s a w h hr)
 | seq x y ihx ihy =>
  intro K Q s a w h hr hq
  refine wp_seq (ihx _ _ s a w h hr fun e s' a' w' hk hr' => ?_)
  cases e with
  | normal =>
   rcases VdB hk with hk | ⟨s2, hs2, hk⟩
   ·exact ihy K Q s' a' w' hk hr' hq
   ·exact ihy K Q s2 a' w' hk (Vay hr' hs2) hq
  | exit i => exact hq _ s' a' w' hk hr'
  | ret => exact hq _ s' a' w' hk hr'
 | cond c x y ihx ihy =>
  intro K Q s a w h hr hq
  simp only [execI] at h
  split at h
  ·rename_i b hb
   obtain ⟨ow, φ, hr0⟩ := hr
   have hv := VaV (Vh hr0 hb)
   split at h
   ·rename_i hbt
    subst hbt
    exact wp_cond_true hv (ihx K Q s a w h ⟨ow, φ, hr0⟩ hq)
   ·rename_i hbf
    simp only [Bool.not_eq_true] at hbf
    subst hbf
    exact wp_cond_false hv (ihy K Q s a w h ⟨ow, φ, hr0⟩ hq)
  ·cases h
 | block id c ih =>
  intro K Q s a w h hr hq
  refine wp_block (ih _ _ s a w h hr fun e s' a' w' hk hr' => ?_)
  cases e with
  | normal => exact hq .normal s' a' w' hk hr'
  | exit i =>
   simp only [VbY] at hk
   show (if i = id then Q .normal a' w' else Q (.exit i) a' w')
   split at hk
   ·rename_i hi; rw [if_pos hi]; exact hq .normal s' a' w' hk hr'
   ·rename_i hi; rw [if_neg hi]; exact hq (.exit i) s' a' w' hk hr'
  | ret => exact hq .ret s' a' w' hk hr'
 | loop c ih =>
  intro K Q s a w h hr hq
  simp only [execI] at h
  split at h
  rotate_left
  ·cases h
  rename_i s0 hs0
  have hr0 := Vay hr hs0
  have key : ∀ m s a w, loopN (execI E I keep n c) (St.norm E.io (keep (VL c))) K m s = some r → RelE base W0 IO Old E.io φ0 s a w → ∀ b k cs,
    ∃ e a' w', Q e a' w' ∧ Arrives P (lone (b.at a (.code c :: .inLoop c :: k)) cs w) b k cs e a' w' := by
   intro m
   induction m with
   | zero => intro s a w h; cases h
   | succ m ihm =>
    intro s a w h hr b k cs
    simp only [loopN] at h
    obtain ⟨e, a₁, w₁, hq1, harr⟩ := ih _ (fun e a' w' => match e with
     | .normal => ∃ s', RelE base W0 IO Old E.io φ0 s' a' w' ∧ loopN (execI E I keep n c) (St.norm E.io (keep (VL c))) K m s' = some r
     | e => Q e a' w') s a w h hr (fun e s' a' w' hk hr' => by
      cases e with
      | normal =>
       simp only [kLoop] at hk
       split at hk
       ·rename_i s2 hs2; exact ⟨s2, Vay hr' hs2, hk⟩
       ·cases hk
      | exit i => exact hq _ s' a' w' hk hr'
      | ret => exact hq _ s' a' w' hk hr') b (.inLoop c :: k) cs
    cases e with
    | normal =>
     obtain ⟨s', hr', hl⟩ := hq1
     obtain ⟨e₂, a₂, w₂, hq₂, harr₂⟩ := ihm s' a₁ w₁ hl hr' b k cs
     exact ⟨e₂, a₂, w₂, hq₂, .of_steps (Steps.trans harr (.one step_inLoop)) harr₂⟩
    | exit id => exact ⟨_, a₁, w₁, hq1, .pass (x := .inLoop c) rfl (fun _ _ => .inl (by simp)) harr⟩
    | goto l => exact ⟨_, a₁, w₁, hq1, .pass (x := .inLoop c) rfl (fun _ _ => .inl (by simp)) harr⟩
    | ret => exact ⟨_, a₁, w₁, hq1, .pass (x := .inLoop c) rfl (fun _ _ => .inl (by simp)) harr⟩
    | panic ch => exact ⟨_, a₁, w₁, hq1, .pass (x := .inLoop c) rfl (fun _ _ => .inl (by simp)) harr⟩
    | outgrown => exact ⟨_, a₁, w₁, hq1, .pass (x := .inLoop c) rfl (fun _ _ => .inl (by simp)) harr⟩
  intro b k cs
  obtain ⟨e, a', w', hq', harr⟩ := key n s0 a w h hr0 b k cs
  exact ⟨e, a', w', hq', .of_steps (.one step_loop) harr⟩
 | region id ops draw =>
  intro K Q s a w h hr hq
  cases draw with
  | false =>
   simp only [execI] at h
   split at h
   ·rename_i pre o f fn args hl
    obtain ⟨h1, h2, h3, h4, c, h5, h6, h7⟩ := VeU hl
    refine wp_region_list ?_
    rw [h1]
    refine Vip hE pre s _ a w h hr (fun s' a' w' hk hr' => ?_)
    unfold wpList
    rw [if_pos (by simp [Region.wanted, h2])]
    refine .inl (VeV hE hI h5 h6 h7 h3 h4 hk hr' fun s2 a2 w2 hk2 hr2 => ?_)
    unfold wpList
    exact hq .normal s2 a2 w2 hk2 hr2
   ·exact wp_region_list (VeE hE ops.toList s (K .normal) a w h hr (fun s' a' w' hk hr' => hq .normal s' a' w' hk hr'))
  | true =>
   simp only [execI] at h
   split at h
   ·rename_i hs
    exact VcA hE hs h hr (fun s' a' w' hk hr' => hq .normal s' a' w' hk hr')
   ·cases h
 | exit id => intro K Q s a w h hr hq; exact wp_exit (hq (.exit id) s a w h hr)
 | ret => intro K Q s a w h hr hq; exact wp_ret (hq .ret s a w h hr)
 | _ => intro K Q s a w h; simp [execI] at h
end
section
variable {E : Env}
theorem Vem (hE : ∀ IO Old : Nat → Prop, EnvOk P E IO Old) {I : FuncId → Option Func} (hI : ∀ f fn, I f = some fn → P.funcs[f]? = some fn ∧ fn.body.isSome = true ∧ fn.name ≠ "runtime.NumGoroutine") {f : FuncId} {fn : Func} {code : Code} {c : Con} (hf : P.funcs[f]? = some fn) (hb : fn.body = some code) (keep : Nat → List Nat)
  (hio : ∀ x : Tup (c.ps.map (·.2)), ioN c.gv (ksB (kds' c.ps (dats _ x))).length = E.io)
  (h : ∀ x r, c.F x = some r → ∃ n, execI E I keep n code (fun e s => match e with | .exit _ => none | _ => VbH E c (kds' c.ps (dats _ x)) fn.results.toList s) (Va9 (kds' c.ps (dats _ x)) (fn.ntmps - c.ps.length)) = some r) : Sound P f c := by
 intro x r hF w vs gs Old hO hn hlt hks
 obtain ⟨n, hex⟩ := h x r hF
 have hdx := Vax _ x
 obtain ⟨φ0, ow, fs, hfs, hφfs, hkfs, hvr0, hgs0, hrel⟩ := entry hks hO hn hlt (fn.ntmps - c.ps.length) c.gv
 rw [hio x] at hrel
 have hvl : vs.length = c.ps.length := by
  have h1 := (Vdi _ _ _ hks).1
  have h2 := congrArg List.length hdx
  simp only [List.length_map] at h2
  rw [VaX _ _ (by omega)] at h1
  exact h1
 refine calls_of_wp hf hb ?_
 have htm : vs.toArray ++ Array.replicate (fn.ntmps - vs.toArray.size) undef = (vs ++ List.replicate (fn.ntmps - c.ps.length) undef).toArray := by
  apply Array.ext'
  simp [hvl]
 rw [htm]
 refine Vf5 (hE _ _) hI keep n code _ _ _ _ _ hex ⟨_, _, hrel⟩ fun e s a w' hk hr => ?_
 have key : VbH E c (kds' c.ps (dats _ x)) fn.results.toList s = some r → a.defers = [] ∧ ∃ v, (results fn a.tmps).run P w' = .ok v w' ∧ ∃ us hs, Ending.returned v = .returned (retOf us) ∧ us.length = c.rs.length ∧ (hs.flatten ++ kpG c.gv gs).Nodup ∧ (∀ h ∈ hs.flatten, (w.heap.size ≤ h ∨ h ∈ gvG c.gv gs) ∧ h < w'.heap.size) ∧
   KsOk w' (Aft (fun b => Old b ∨ b ∈ gvG c.gv gs) w w' (hs.flatten ++ kpG c.gv gs)) (kds' c.rs (dats _ r)) us hs ∧
   KsOk w' (Aft (fun b => Old b ∨ b ∈ gvG c.gv gs) w w' (hs.flatten ++ kpG c.gv gs)) (kds' (iosG c.gv c.ps) ((dats _ r).drop c.rs.length)) (ioVsG c.gv c.ps vs) (ioGsG c.gv c.ps gs) ∧
   (∀ b, b < w.heap.size → b ∉ gs.flatten → w'.heap[b]? = w.heap[b]?) ∧ w.heap.size ≤ w'.heap.size ∧ w'.os = w.os ∧ w'.tape = w.tape ∧ w'.output = w.output := by
  intro hfin
  obtain ⟨ow0, φ', hr⟩ := hr
  unfold VbH at hfin
  obtain ⟨ow', hr⟩ := V6 (VbG E c fn.results.toList s) s ow0 φ' (fun i hi => by
   unfold VbG at hi
   split at hi
   ·simpa using (List.mem_filter.1 hi).2
   ·cases hi) hr
  generalize s.freezes (VbG E c fn.results.toList s) = s at hr hfin
  unfold Vek at hfin
  split at hfin
  rotate_left
  ·cases hfin
  rename_i rv hrv
  split at hfin
  rotate_left
  ·cases hfin
  rename_i hc
  simp only [Bool.and_eq_true, decide_eq_true_eq] at hc
  obtain ⟨hnd, hrl⟩ := hc
  have hnd := VaQ _ hnd
  obtain ⟨us, hus, hrun⟩ := VbU (hE _ _) hr hrv
  have hul := hus.length
  -- the parameters that were written
  have hlk : (kds (ksB (kds' c.ps (dats _ x)))) = kds (ksB (kds' c.ps (dats _ x))) := rfl
  have hlen : c.gv = false → (ksB (kds' c.ps (dats _ x))).length = E.io := fun hg => by rw [← hio x, hg]; rfl
  have hne : c.gv = false → ∀ id, kds (ksB (kds' c.ps (dats _ x))) id ≠ none → id < E.io := fun hg id hh => by
   cases hk : kds (ksB (kds' c.ps (dats _ x))) id with
   | none => exact absurd hk hh
   | some k => rw [← hlen hg]; exact V7 hk
  have hpl : c.ps.length = (ksV (kds' c.ps (dats _ x)) 0).length := by rw [hvr0.length, hvl]
  have hioe : All2 (VR φ' (kds s.hp) w' (Fz ow' w' (fun b => Old b ∨ b ∈ gvG c.gv gs) w.heap.size)) (ioVG c.gv c.ps (ksV (kds' c.ps (dats _ x)) 0)) (ioVsG c.gv c.ps vs) := by
   cases hg : c.gv
   rotate_left
   ·exact .nil
   show All2 _ (ioV c.ps (ksV (kds' c.ps (dats _ x)) 0)) (ioVs c.ps vs)
   refine Vgi (φ0 := φ0) ?_ (fun id k hh hk => hr.k0 id k (hne hg id hh) hk) (fun id hh => hr.f0 id (hne hg id hh)) c.ps _ _ hpl hvr0 (fun q hq => ?_)
   ·intro id k hk
    refine ⟨hkfs id k hk, ?_⟩
    rintro rfl
    obtain ⟨b, hb1, hb2⟩ := kds_some.1 hk
    obtain ⟨v, _, hv2⟩ := (Va8 _ _ _ hfs).2 id b hb1
    cases b <;> simp [Blk.kd] at hb2
    exact hv2
   ·refine VeF _ _ _ hfin q ?_
    rw [List.zip_append hrl.symm]
    refine List.mem_append_right _ ?_
    rw [hg]; exact hq
  have hall := hus.append hioe
  obtain ⟨_, hown⟩ := Vbp (S' := fun _ => True) hr.hp (fun _ _ => trivial) _ _ _ _ hall hfin
  have hids : idsL (c.rs ++ iosG c.gv c.ps) (rv ++ ioVG c.gv c.ps (ksV (kds' c.ps (dats _ x)) 0)) = idsL c.rs rv ++ idsL (iosG c.gv c.ps) (ioVG c.gv c.ps (ksV (kds' c.ps (dats _ x)) 0)) := Vc8 _ _ _ _ hrl.symm
  rw [hids] at hown
  have hioids : (idsL (iosG c.gv c.ps) (ioVG c.gv c.ps (ksV (kds' c.ps (dats _ x)) 0))).flatten = List.range E.io := by
   cases hg : c.gv
   ·show (idsL (ios c.ps) (ioV c.ps _)).flatten = _
    rw [Vhp _ _ _ hdx, hlen hg, List.range_eq_range']
   ·rw [← hio x, hg]; rfl
  have hiog : (idsL (iosG c.gv c.ps) (ioVG c.gv c.ps (ksV (kds' c.ps (dats _ x)) 0))).map (Vl φ') = ioGsG c.gv c.ps gs := by
   cases hg : c.gv
   rotate_left
   ·rfl
   show (idsL (ios c.ps) (ioV c.ps _)).map (Vl φ') = ioGs c.ps gs
   rw [Vhr _ _ _ hdx, Vfn, hgs0 φ' (fun j v hv => ?_)]
   have hj := (List.getElem?_eq_some_iff.1 hv).1
   rw [Var _ _ _ hfs, hlen hg] at hj
   rw [hr.f0 j hj]; exact hφfs j v hv
  obtain ⟨hgf, hgl1, hgl2⟩ := VeG c.ps _ vs gs hdx hks
  let hs := (idsL c.rs rv).map (Vl φ')
  have hhs : hs.flatten = Vl φ' (idsL c.rs rv).flatten := VaE _
  have hgs : kpG c.gv gs = Vl φ' (List.range E.io) := by
   cases hg : c.gv
   ·show gs.flatten = _
    rw [← hgf, ← hioids, ← VaE, hiog, hg]; rfl
   ·rw [← hio x, hg]; rfl
  have hown' : ∀ id ∈ (idsL c.rs rv).flatten ++ List.range E.io, ∀ g, blkOf (φ' id) = some g → ow' g = some id := by
   rw [List.flatten_append, hioids] at hown; exact hown
  have hboth : hs.flatten ++ kpG c.gv gs = Vl φ' ((idsL c.rs rv).flatten ++ List.range E.io) := by rw [hhs, hgs]; simp [Vl]
  have hF : ∀ b, Fz ow' w' (fun b => Old b ∨ b ∈ gvG c.gv gs) w.heap.size b → Aft (fun b => Old b ∨ b ∈ gvG c.gv gs) w w' (hs.flatten ++ kpG c.gv gs) b := by
   rintro b ⟨h1, h2, h3⟩
   refine ⟨h3, h2, fun hm => ?_⟩
   rw [hboth] at hm
   obtain ⟨id, i1, i2⟩ := Vaw hm
   rw [hown' id i1 b i2] at h1; cases h1
  obtain ⟨hks', _⟩ := Vbp (S' := Aft (fun b => Old b ∨ b ∈ gvG c.gv gs) w w' (hs.flatten ++ kpG c.gv gs)) hr.hp hF _ _ _ _ hall hfin
  have hdr := Vax _ r
  have hdl : c.rs.length ≤ (dats _ r).length := by
   have := congrArg List.length hdr
   simp only [List.length_map, List.length_append] at this
   omega
  rw [hids, List.map_append (f := Vl φ'), hiog, VdX _ _ _ hdl] at hks'
  obtain ⟨hk1, hk2⟩ := VdQ _ _ _ _ _ _ (by rw [VaX _ _ hdl, ← hul, hrl]) (by rw [VaX _ _ hdl, List.length_map, Vdj _ _ hrl.symm, hrl]) hks'
  refine ⟨hr.dl, _, hrun, us, hs, rfl, by omega, ?_, fun g hg => ?_, hk1, hk2, hr.fr, hr.sz, hr.mt⟩
  ·rw [hboth]; exact VbF _ hnd hown'
  ·rw [hhs] at hg
   obtain ⟨id, i1, i2⟩ := Vaw hg
   have hog := hown' id (List.mem_append_left _ i1) g i2
   obtain ⟨o1, o2, _⟩ := hr.own g id hog
   refine ⟨?_, o1⟩
   rcases o2 with o2 | ⟨o3, o4⟩
   ·exact .inl o2
   ·refine .inr ?_
    rcases o4 with o4 | o4 | o4
    ·exact absurd rfl ((List.nodup_append.1 hnd).2.2 id i1 id (List.mem_range.2 o4))
    ·exact absurd o3 (hO g o4).2
    ·exact o4
 cases e with
 | normal => exact key hk
 | ret => exact key hk
 | exit id => simp at hk
end
noncomputable def VcD (E : Env) (I : FuncId → Option Func) (keep : Nat → List Nat) (n : Nat) (fn : Func) (c : Con) (x : Tup (c.ps.map (·.2))) : Option (Tup ((c.rs ++ iosG c.gv c.ps).map (·.2))) :=
 execI E I keep n (Vg fn) (kEnd E fn c x) (Va9 (kds' c.ps (dats _ x)) (fn.ntmps - c.ps.length))
theorem Vfu {tab : List TRow} (h : okB P tab = true) {cs : List (FuncId × Con)} (hc : Goods P cs) (io : Nat) (mv : Bool) {f : FuncId} {fn : Func} {c : Con} (hf : P.funcs[f]? = some fn) (hb : fn.body.isSome = true) (hn : fn.name ≠ "runtime.NumGoroutine") (hrs : c.rs ≠ []) (keep : Nat → List Nat) (n : Nat)
  (hio : ∀ x : Tup (c.ps.map (·.2)), ioN c.gv (ksB (kds' c.ps (dats _ x))).length = io) {I : FuncId → Option Func} (hI : ∀ f fn, I f = some fn → P.funcs[f]? = some fn ∧ fn.body.isSome = true ∧ fn.name ≠ "runtime.NumGoroutine") (hx : ∀ x, VcD (envOf tab cs io mv) I keep n fn c x = c.F x) : Good P f c :=
 ⟨Vem (code := Vg fn) (envOk h hc io mv) hI hf (by unfold Vg; cases hb' : fn.body <;> simp_all) keep hio (fun x r hr => ⟨n, (hx x).trans hr⟩), fn, hf, hb, hn, hrs⟩
end Go.Ev

namespace Go.Ev.Tryz
open Go.Proofs Go.Pl
set_option linter.unusedVariables false
noncomputable section
def Qbl.con : Con := { ps := [(.val, (.pair .bool (.pair .bool (.pair .bool (.pair .bool (.pair .bool (.int .i64)))))))], rs := [(.val, (.pair .bool (.pair .bool (.pair .bool (.pair .bool (.pair .bool (.int .i64)))))))], F := fun x => Qbl.f x }
def Qbl.cs : List (FuncId × Con) := []
def Qbl.E : Env := envOf tab Qbl.cs 0 false
def Qbl.keep (i : Nat) : List Nat := []
set_option maxRecDepth 100000 in
theorem Qbl.body (n : Nat) (x : Bool × Bool × Bool × Bool × Bool × Int) : bodyF Qbl.E Qbl.keep n Tryz.f165 Qbl.con x = Qbl.fn n x := by
 have h : bodyF Qbl.E Qbl.keep n Tryz.f165 Qbl.con x = Qbl.top x := by kernel_rfl
 exact h
set_option maxRecDepth 100000 in
theorem Qbl.good : Good Tryz.prog 165 Qbl.con :=
 Vf tabok (cs := Qbl.cs) trivial 0 false (fn := Tryz.f165) Tryz.func165 rfl (by decide) (by simp [Qbl.con]) Qbl.keep NN (fun _ => rfl) (fun x => Qbl.body NN x)
end
end Go.Ev.Tryz

namespace Go.Ev.Tryz
open Go.Proofs Go.Pl
set_option linter.unusedVariables false
noncomputable section
def Qau.con : Con := { ps := [(.val, (.pair .bool (.pair .bool (.pair .bool (.pair .bool (.pair .bool (.int .i64))))))), (.val, (.int .i64))], rs := [(.val, (.pair .bool (.pair .bool (.pair .bool (.pair .bool (.pair .bool (.int .i64))))))), (.val, (.int .i64))], F := fun x => Qau.f x.1 x.2 }
def Qau.cs : List (FuncId × Con) := [(165, Qbl.con)]
def Qau.E : Env := envOf tab Qau.cs 0 false
def Qau.keep (i : Nat) : List Nat := []
set_option maxRecDepth 100000 in
theorem Qau.body (n : Nat) (x : YB × Int) : bodyF Qau.E Qau.keep n Tryz.f153 Qau.con x = Qau.fn n x.1 x.2 := by
 have h : bodyF Qau.E Qau.keep n Tryz.f153 Qau.con x = Qau.top x.1 x.2 := by kernel_rfl
 exact h
set_option maxRecDepth 100000 in
theorem Qau.good : Good Tryz.prog 153 Qau.con :=
 Vf tabok (cs := Qau.cs) ⟨Qbl.good, trivial⟩ 0 false (fn := Tryz.f153) Tryz.func153 rfl (by decide) (by simp [Qau.con]) Qau.keep NN (fun _ => rfl) (fun x => Qau.body NN x)
end
end Go.Ev.Tryz

namespace Go.Ev.Tryz
open Go.Proofs Go.Pl
set_option linter.unusedVariables false
noncomputable section
def Qa.st100000001 (w0a : Bool) (V : Bool) (K : Bool) (g : Bool) (v : Bool) (w : Int) (d0a : List YC) (o : Int) (m : Int) (j : Bool × Bool × Bool × Bool × Bool × Int) (w2' : List Int) : St := ⟨[.ptr 1 [], .gone, .gone, .gone, .gone, .gone, .gone, .gone, .gone, .gone, .gone, .gone, .gone, .gone, .gone, .gone, .gone, .gone, .gone, .gone, .gone, .gone, .gone, .gone, .gone, .gone, .gone, .gone, .gone, .gone, .gone, .gone, .gone, .gone, .gone, .gone, .gone, .gone, .gone, .gone, .gone, .gone, .gone, .gone, .gone, .gone, .gone, .gone, .gone, .gone, .gone, .gone, .gone, .gone, .gone, .gone, .gone, .gone, .gone, .gone, .gone, .gone, .gone, .gone, .gone, .gone, .gone, .gone, .gone, .gone, .gone, .gone, .gone, .gone, .gone, .gone, .gone], [.box 114 (.pair .bool (.pair .bool (.pair .bool (.pair .bool (.pair .bool (.int .i64)))))) (.pr (.dat .bool w0a) (.pr (.dat .bool V) (.pr (.dat .bool K) (.pr (.dat .bool g) (.pr (.dat .bool v) (.dat (.int .i64) w)))))), .box 137 (.pair (.sl 72 (.pair (.int .i64) (.int .i64))) (.pair (.int .i64) (.pair (.int .i64) (.pair (.pair .bool (.pair .bool (.pair .bool (.pair .bool (.pair .bool (.int .i64)))))) (.sl 2 (.int .i64)))))) (.pr (.dat (.sl 72 (.pair (.int .i64) (.int .i64))) d0a) (.pr (.dat (.int .i64) o) (.pr (.dat (.int .i64) m) (.pr (.dat (.pair .bool (.pair .bool (.pair .bool (.pair .bool (.pair .bool (.int .i64)))))) j) (.ref 2))))), .row 2 (.int .i64) w2' none]⟩
def Qa.tr0 (L100000001 : YM) (s : Int) (v4a : Bool) (a : Bool) (t : Bool) (r : Bool) (p : Bool) (q : Int) (d6a : List YC) (b : Int) (u : Int) (c : Bool × Bool × Bool × Bool × Bool × Int) (w2 : List Int) (w0a : Bool) (V : Bool) (K : Bool) (g : Bool) (v : Bool) (w : Int) (d0a : List YC) (o : Int) (m : Int) (j : Bool × Bool × Bool × Bool × Bool × Int) (w2' : List Int) : Option YK :=
 if w2'.length + ([o]).length < room 8 then
  L100000001 s v4a a t r p q d6a b u c w2 w0a V K g v w d0a (IntKind.i64.wrap (o + 1)) m j (w2' ++ ([o]))
 else
  none
def Qa.tr1 (L100000001 : YM) (s : Int) (v4a : Bool) (a : Bool) (t : Bool) (r : Bool) (p : Bool) (q : Int) (d6a : List YC) (b : Int) (u : Int) (c : Bool × Bool × Bool × Bool × Bool × Int) (w2 : List Int) (w0a : Bool) (V : Bool) (K : Bool) (g : Bool) (v : Bool) (w : Int) (d0a : List YC) (o : Int) (m : Int) (j : Bool × Bool × Bool × Bool × Bool × Int) (w2' : List Int) : Option YK :=
 (Qau.f j ((d0a.getD (o : Int).toNat (0, 0)).2)).bind fun r5 =>
 if ((r5.2 : Int) == 0) = true then
  L100000001 s v4a a t r p q d6a b u c w2 w0a V K g v w d0a (IntKind.i64.wrap (o + 1)) m r5.1 w2'
 else
  agree (
   Qa.tr0 L100000001 s v4a a t r p q d6a b u c w2 w0a V K g v w d0a o m j w2'
  ) (
   agree (
    Qa.tr0 L100000001 s v4a a t r p q d6a b u c w2 w0a V K g v w d0a o m j w2'
   ) (
    Qa.tr0 L100000001 s v4a a t r p q d6a b u c w2 w0a V K g v w d0a o m j w2'
   )
  )
def Qa.tr2 (L100000001 : YM) (s : Int) (v4a : Bool) (a : Bool) (t : Bool) (r : Bool) (p : Bool) (q : Int) (d6a : List YC) (b : Int) (u : Int) (c : Bool × Bool × Bool × Bool × Bool × Int) (w2 : List Int) (w0a : Bool) (V : Bool) (K : Bool) (g : Bool) (v : Bool) (w : Int) (d0a : List YC) (o : Int) (m : Int) (j : Bool × Bool × Bool × Bool × Bool × Int) (w2' : List Int) : Option YK :=
 agree (
  Qa.tr1 L100000001 s v4a a t r p q d6a b u c w2 w0a V K g v w d0a o m j w2'
 ) (
  Qa.tr1 L100000001 s v4a a t r p q d6a b u c w2 w0a V K g v w d0a o m j w2'
 )
def Qa.tr3 (L100000001 : YM) (s : Int) (v4a : Bool) (a : Bool) (t : Bool) (r : Bool) (p : Bool) (q : Int) (d6a : List YC) (b : Int) (u : Int) (c : Bool × Bool × Bool × Bool × Bool × Int) (w2 : List Int) (w0a : Bool) (V : Bool) (K : Bool) (g : Bool) (v : Bool) (w : Int) (d0a : List YC) (o : Int) (m : Int) (j : Bool × Bool × Bool × Bool × Bool × Int) (w2' : List Int) : Option YK :=
 agree (
  Qa.tr2 L100000001 s v4a a t r p q d6a b u c w2 w0a V K g v w d0a o m j w2'
 ) (
  Qa.tr1 L100000001 s v4a a t r p q d6a b u c w2 w0a V K g v w d0a o m j w2'
 )
def Qa.tr4 (L100000001 : YM) (s : Int) (v4a : Bool) (a : Bool) (t : Bool) (r : Bool) (p : Bool) (q : Int) (d6a : List YC) (b : Int) (u : Int) (c : Bool × Bool × Bool × Bool × Bool × Int) (w2 : List Int) (w0a : Bool) (V : Bool) (K : Bool) (g : Bool) (v : Bool) (w : Int) (d0a : List YC) (o : Int) (m : Int) (j : Bool × Bool × Bool × Bool × Bool × Int) (w2' : List Int) : Option YK :=
 if (0 : Int) ≤ o ∧ (o : Int) < d0a.length then
  Qa.tr1 L100000001 s v4a a t r p q d6a b u c w2 w0a V K g v w d0a o m j w2'
 else
  none
def Qa.tr5 (L100000001 : YM) (s : Int) (v4a : Bool) (a : Bool) (t : Bool) (r : Bool) (p : Bool) (q : Int) (d6a : List YC) (b : Int) (u : Int) (c : Bool × Bool × Bool × Bool × Bool × Int) (w2 : List Int) (w0a : Bool) (V : Bool) (K : Bool) (g : Bool) (v : Bool) (w : Int) (d0a : List YC) (o : Int) (m : Int) (j : Bool × Bool × Bool × Bool × Bool × Int) (w2' : List Int) : Option YK :=
 agree (
  if (0 : Int) ≤ o ∧ (o : Int) < d0a.length then
   Qa.tr3 L100000001 s v4a a t r p q d6a b u c w2 w0a V K g v w d0a o m j w2'
  else
   none
 ) (
  Qa.tr4 L100000001 s v4a a t r p q d6a b u c w2 w0a V K g v w d0a o m j w2'
 )
def Qa.tr6 (L100000001 : YM) (s : Int) (v4a : Bool) (a : Bool) (t : Bool) (r : Bool) (p : Bool) (q : Int) (d6a : List YC) (b : Int) (u : Int) (c : Bool × Bool × Bool × Bool × Bool × Int) (w2 : List Int) (w0a : Bool) (V : Bool) (K : Bool) (g : Bool) (v : Bool) (w : Int) (d0a : List YC) (o : Int) (m : Int) (j : Bool × Bool × Bool × Bool × Bool × Int) (w2' : List Int) : Option YK :=
 agree (
  Qa.tr4 L100000001 s v4a a t r p q d6a b u c w2 w0a V K g v w d0a o m j w2'
 ) (
  Qa.tr4 L100000001 s v4a a t r p q d6a b u c w2 w0a V K g v w d0a o m j w2'
 )
def Qa.tr7 (L100000001 : YM) (s : Int) (v4a : Bool) (a : Bool) (t : Bool) (r : Bool) (p : Bool) (q : Int) (d6a : List YC) (b : Int) (u : Int) (c : Bool × Bool × Bool × Bool × Bool × Int) (w2 : List Int) (w0a : Bool) (V : Bool) (K : Bool) (g : Bool) (v : Bool) (w : Int) (d0a : List YC) (o : Int) (m : Int) (j : Bool × Bool × Bool × Bool × Bool × Int) (w2' : List Int) : Option YK :=
 agree (
  Qa.tr4 L100000001 s v4a a t r p q d6a b u c w2 w0a V K g v w d0a o m j w2'
 ) (
  if (0 : Int) ≤ o ∧ (o : Int) < d0a.length then
   Qa.tr2 L100000001 s v4a a t r p q d6a b u c w2 w0a V K g v w d0a o m j w2'
  else
   none
 )
def Qa.tr8 (L100000001 : YM) (s : Int) (v4a : Bool) (a : Bool) (t : Bool) (r : Bool) (p : Bool) (q : Int) (d6a : List YC) (b : Int) (u : Int) (c : Bool × Bool × Bool × Bool × Bool × Int) (w2 : List Int) (w0a : Bool) (V : Bool) (K : Bool) (g : Bool) (v : Bool) (w : Int) (d0a : List YC) (o : Int) (m : Int) (j : Bool × Bool × Bool × Bool × Bool × Int) (w2' : List Int) : Option YK :=
 agree (
  Qa.tr5 L100000001 s v4a a t r p q d6a b u c w2 w0a V K g v w d0a o m j w2'
 ) (
  agree (
   if (0 : Int) ≤ o ∧ (o : Int) < d0a.length then
    agree (
     Qa.tr3 L100000001 s v4a a t r p q d6a b u c w2 w0a V K g v w d0a o m j w2'
    ) (
     agree (
      Qa.tr3 L100000001 s v4a a t r p q d6a b u c w2 w0a V K g v w d0a o m j w2'
     ) (
      Qa.tr2 L100000001 s v4a a t r p q d6a b u c w2 w0a V K g v w d0a o m j w2'
     )
    )
   else
    none
  ) (
   Qa.tr7 L100000001 s v4a a t r p q d6a b u c w2 w0a V K g v w d0a o m j w2'
  )
 )
def Qa.g100000001raw (L7 : YN) (L100000001 : YM) (s : Int) (v4a : Bool) (a : Bool) (t : Bool) (r : Bool) (p : Bool) (q : Int) (d6a : List YC) (b : Int) (u : Int) (c : Bool × Bool × Bool × Bool × Bool × Int) (w2 : List Int) (w0a : Bool) (V : Bool) (K : Bool) (g : Bool) (v : Bool) (w : Int) (d0a : List YC) (o : Int) (m : Int) (j : Bool × Bool × Bool × Bool × Bool × Int) (w2' : List Int) : Option YK :=
 if (decide ((o : Int) < (d0a.length : Int))) = true then
  if (0 : Int) ≤ o ∧ (o : Int) < d0a.length then
   if ((((d0a.getD (o : Int).toNat (0, 0)).1) : Int) == m) = true then
    agree (
     agree (
      Qa.tr5 L100000001 s v4a a t r p q d6a b u c w2 w0a V K g v w d0a o m j w2'
     ) (
      agree (
       Qa.tr5 L100000001 s v4a a t r p q d6a b u c w2 w0a V K g v w d0a o m j w2'
      ) (
       Qa.tr6 L100000001 s v4a a t r p q d6a b u c w2 w0a V K g v w d0a o m j w2'
      )
     )
    ) (
     agree (
      Qa.tr8 L100000001 s v4a a t r p q d6a b u c w2 w0a V K g v w d0a o m j w2'
     ) (
      agree (
       Qa.tr8 L100000001 s v4a a t r p q d6a b u c w2 w0a V K g v w d0a o m j w2'
      ) (
       agree (
        Qa.tr6 L100000001 s v4a a t r p q d6a b u c w2 w0a V K g v w d0a o m j w2'
       ) (
        agree (
         Qa.tr7 L100000001 s v4a a t r p q d6a b u c w2 w0a V K g v w d0a o m j w2'
        ) (
         Qa.tr7 L100000001 s v4a a t r p q d6a b u c w2 w0a V K g v w d0a o m j w2'
        )
       )
      )
     )
    )
   else
    L7 s w0a V K g v w d0a o m j w2'
  else
   none
 else
  L7 s w0a V K g v w d0a o m j w2'
theorem Qa.g100000001raw_eq (L7 : YN) (L100000001 : YM) (s : Int) (v4a : Bool) (a : Bool) (t : Bool) (r : Bool) (p : Bool) (q : Int) (d6a : List YC) (b : Int) (u : Int) (c : Bool × Bool × Bool × Bool × Bool × Int) (w2 : List Int) (w0a : Bool) (V : Bool) (K : Bool) (g : Bool) (v : Bool) (w : Int) (d0a : List YC) (o : Int) (m : Int) (j : Bool × Bool × Bool × Bool × Bool × Int) (w2' : List Int) : Qa.g100000001raw L7 L100000001 s v4a a t r p q d6a b u c w2 w0a V K g v w d0a o m j w2' = Qa.g100000001 L7 L100000001 s v4a a t r p q d6a b u c w2 w0a V K g v w d0a o m j w2' := by
 unfold Qa.g100000001raw Qa.g100000001
 simp only [Vt, Qa.tr0, Qa.tr1, Qa.tr2, Qa.tr3, Qa.tr4, Qa.tr5, Qa.tr6, Qa.tr7, Qa.tr8]
def Qa.st1000009 (s : Int) (v4a : Bool) (a : Bool) (t : Bool) (r : Bool) (p : Bool) (q : Int) (d6a : List YC) (b : Int) (u : Int) (c : Bool × Bool × Bool × Bool × Bool × Int) (w2 : List Int) : St := ⟨[.gone, .dat (.int .i64) s, .gone, .gone, .ptr 0 [], .gone, .ptr 1 [], .gone, .gone, .gone, .gone, .gone, .gone, .gone, .gone, .gone, .gone, .gone, .gone, .gone, .gone, .gone, .gone, .gone, .gone, .gone, .gone, .gone, .gone, .gone, .gone, .gone, .gone, .gone], [.box 114 (.pair .bool (.pair .bool (.pair .bool (.pair .bool (.pair .bool (.int .i64)))))) (.pr (.dat .bool v4a) (.pr (.dat .bool a) (.pr (.dat .bool t) (.pr (.dat .bool r) (.pr (.dat .bool p) (.dat (.int .i64) q)))))), .box 137 (.pair (.sl 72 (.pair (.int .i64) (.int .i64))) (.pair (.int .i64) (.pair (.int .i64) (.pair (.pair .bool (.pair .bool (.pair .bool (.pair .bool (.pair .bool (.int .i64)))))) (.sl 2 (.int .i64)))))) (.pr (.dat (.sl 72 (.pair (.int .i64) (.int .i64))) d6a) (.pr (.dat (.int .i64) b) (.pr (.dat (.int .i64) u) (.pr (.dat (.pair .bool (.pair .bool (.pair .bool (.pair .bool (.pair .bool (.int .i64)))))) c) (.ref 2))))), .row 2 (.int .i64) w2 none]⟩
def Qa.st1000008 (s : Int) (v4a : Bool) (a : Bool) (t : Bool) (r : Bool) (p : Bool) (q : Int) (d6a : List YC) (b : Int) (u : Int) (c : Bool × Bool × Bool × Bool × Bool × Int) (w2 : List Int) : St := ⟨[.gone, .dat (.int .i64) s, .gone, .gone, .ptr 0 [], .gone, .ptr 1 [], .gone, .gone, .gone, .gone, .gone, .gone, .gone, .gone, .gone, .gone, .gone, .gone, .gone, .gone, .gone, .gone, .gone, .gone, .gone, .gone, .gone, .gone, .gone, .gone, .gone, .gone, .gone], [.box 114 (.pair .bool (.pair .bool (.pair .bool (.pair .bool (.pair .bool (.int .i64)))))) (.pr (.dat .bool v4a) (.pr (.dat .bool a) (.pr (.dat .bool t) (.pr (.dat .bool r) (.pr (.dat .bool p) (.dat (.int .i64) q)))))), .box 137 (.pair (.sl 72 (.pair (.int .i64) (.int .i64))) (.pair (.int .i64) (.pair (.int .i64) (.pair (.pair .bool (.pair .bool (.pair .bool (.pair .bool (.pair .bool (.int .i64)))))) (.sl 2 (.int .i64)))))) (.pr (.dat (.sl 72 (.pair (.int .i64) (.int .i64))) d6a) (.pr (.dat (.int .i64) b) (.pr (.dat (.int .i64) u) (.pr (.dat (.pair .bool (.pair .bool (.pair .bool (.pair .bool (.pair .bool (.int .i64)))))) c) (.ref 2))))), .row 2 (.int .i64) w2 none]⟩
def Qa.st7 (s : Int) (v4a : Bool) (a : Bool) (t : Bool) (r : Bool) (p : Bool) (q : Int) (d6a : List YC) (b : Int) (u : Int) (c : Bool × Bool × Bool × Bool × Bool × Int) (w2 : List Int) : St := ⟨[.gone, .dat (.int .i64) s, .gone, .gone, .ptr 0 [], .gone, .ptr 1 [], .gone, .gone, .gone, .gone, .gone, .gone, .gone, .gone, .gone, .gone, .gone, .gone, .gone, .gone, .gone, .gone, .gone, .gone, .gone, .gone, .gone, .gone, .gone, .gone, .gone, .gone, .gone], [.box 114 (.pair .bool (.pair .bool (.pair .bool (.pair .bool (.pair .bool (.int .i64)))))) (.pr (.dat .bool v4a) (.pr (.dat .bool a) (.pr (.dat .bool t) (.pr (.dat .bool r) (.pr (.dat .bool p) (.dat (.int .i64) q)))))), .box 137 (.pair (.sl 72 (.pair (.int .i64) (.int .i64))) (.pair (.int .i64) (.pair (.int .i64) (.pair (.pair .bool (.pair .bool (.pair .bool (.pair .bool (.pair .bool (.int .i64)))))) (.sl 2 (.int .i64)))))) (.pr (.dat (.sl 72 (.pair (.int .i64) (.int .i64))) d6a) (.pr (.dat (.int .i64) b) (.pr (.dat (.int .i64) u) (.pr (.dat (.pair .bool (.pair .bool (.pair .bool (.pair .bool (.pair .bool (.int .i64)))))) c) (.ref 2))))), .row 2 (.int .i64) w2 none]⟩
def Qa.st1000007 (s : Int) (v4a : Bool) (a : Bool) (t : Bool) (r : Bool) (p : Bool) (q : Int) (d6a : List YC) (b : Int) (u : Int) (c : Bool × Bool × Bool × Bool × Bool × Int) (w2 : List Int) : St := ⟨[.gone, .dat (.int .i64) s, .gone, .gone, .ptr 0 [], .gone, .ptr 1 [], .gone, .gone, .gone, .gone, .gone, .gone, .gone, .gone, .gone, .gone, .gone, .gone, .gone, .gone, .gone, .gone, .gone, .gone, .gone, .gone, .gone, .gone, .gone, .gone, .gone, .gone, .gone], [.box 114 (.pair .bool (.pair .bool (.pair .bool (.pair .bool (.pair .bool (.int .i64)))))) (.pr (.dat .bool v4a) (.pr (.dat .bool a) (.pr (.dat .bool t) (.pr (.dat .bool r) (.pr (.dat .bool p) (.dat (.int .i64) q)))))), .box 137 (.pair (.sl 72 (.pair (.int .i64) (.int .i64))) (.pair (.int .i64) (.pair (.int .i64) (.pair (.pair .bool (.pair .bool (.pair .bool (.pair .bool (.pair .bool (.int .i64)))))) (.sl 2 (.int .i64)))))) (.pr (.dat (.sl 72 (.pair (.int .i64) (.int .i64))) d6a) (.pr (.dat (.int .i64) b) (.pr (.dat (.int .i64) u) (.pr (.dat (.pair .bool (.pair .bool (.pair .bool (.pair .bool (.pair .bool (.int .i64)))))) c) (.ref 2))))), .row 2 (.int .i64) w2 none]⟩
def Qa.st70000001 (w0a : Bool) (V : Bool) (K : Bool) (g : Bool) (v : Bool) (w : Int) (d0a : List YC) (o : Int) (m : Int) (j : Bool × Bool × Bool × Bool × Bool × Int) (w2' : List Int) : St := ⟨[.ptr 1 [], .gone, .gone, .gone, .gone, .gone, .gone, .gone, .gone, .gone, .gone, .gone, .gone, .gone, .gone, .gone, .gone, .gone, .gone, .gone, .gone, .gone, .gone, .gone, .gone, .gone, .gone, .gone, .gone, .gone, .gone, .gone, .gone, .gone, .gone, .gone, .gone, .gone, .gone, .gone, .gone, .gone, .gone, .gone, .gone, .gone, .gone, .gone, .gone, .gone, .gone, .gone, .gone, .gone, .gone, .gone, .gone, .gone, .gone, .gone, .gone, .gone, .gone, .gone, .gone, .gone, .gone, .gone, .gone, .gone, .gone, .gone, .gone, .gone, .gone, .gone, .gone], [.box 114 (.pair .bool (.pair .bool (.pair .bool (.pair .bool (.pair .bool (.int .i64)))))) (.pr (.dat .bool w0a) (.pr (.dat .bool V) (.pr (.dat .bool K) (.pr (.dat .bool g) (.pr (.dat .bool v) (.dat (.int .i64) w)))))), .box 137 (.pair (.sl 72 (.pair (.int .i64) (.int .i64))) (.pair (.int .i64) (.pair (.int .i64) (.pair (.pair .bool (.pair .bool (.pair .bool (.pair .bool (.pair .bool (.int .i64)))))) (.sl 2 (.int .i64)))))) (.pr (.dat (.sl 72 (.pair (.int .i64) (.int .i64))) d0a) (.pr (.dat (.int .i64) o) (.pr (.dat (.int .i64) m) (.pr (.dat (.pair .bool (.pair .bool (.pair .bool (.pair .bool (.pair .bool (.int .i64)))))) j) (.ref 2))))), .row 2 (.int .i64) w2' none]⟩
def Qa.tr9 (L70000001 : YL) (s : Int) (v4a : Bool) (a : Bool) (t : Bool) (r : Bool) (p : Bool) (q : Int) (d6a : List YC) (b : Int) (u : Int) (R : Bool) (Q : Bool) (l : Bool) (d : Bool) (y : Bool) (z : Int) (w2 : List Int) (w0a : Bool) (V : Bool) (K : Bool) (g : Bool) (v : Bool) (w : Int) (d0a : List YC) (o : Int) (m : Int) (j : Bool × Bool × Bool × Bool × Bool × Int) (w2' : List Int) : Option YK :=
 if w2'.length + ([o]).length < room 8 then
  L70000001 s v4a a t r p q d6a b u R Q l d y z w2 w0a V K g v w d0a (IntKind.i64.wrap (o + 1)) m j (w2' ++ ([o]))
 else
  none
def Qa.tr10 (L70000001 : YL) (s : Int) (v4a : Bool) (a : Bool) (t : Bool) (r : Bool) (p : Bool) (q : Int) (d6a : List YC) (b : Int) (u : Int) (R : Bool) (Q : Bool) (l : Bool) (d : Bool) (y : Bool) (z : Int) (w2 : List Int) (w0a : Bool) (V : Bool) (K : Bool) (g : Bool) (v : Bool) (w : Int) (d0a : List YC) (o : Int) (m : Int) (j : Bool × Bool × Bool × Bool × Bool × Int) (w2' : List Int) : Option YK :=
 (Qau.f j ((d0a.getD (o : Int).toNat (0, 0)).2)).bind fun r3 =>
 if ((r3.2 : Int) == 0) = true then
  L70000001 s v4a a t r p q d6a b u R Q l d y z w2 w0a V K g v w d0a (IntKind.i64.wrap (o + 1)) m r3.1 w2'
 else
  agree (
   Qa.tr9 L70000001 s v4a a t r p q d6a b u R Q l d y z w2 w0a V K g v w d0a o m j w2'
  ) (
   agree (
    Qa.tr9 L70000001 s v4a a t r p q d6a b u R Q l d y z w2 w0a V K g v w d0a o m j w2'
   ) (
    Qa.tr9 L70000001 s v4a a t r p q d6a b u R Q l d y z w2 w0a V K g v w d0a o m j w2'
   )
  )
def Qa.tr11 (L70000001 : YL) (s : Int) (v4a : Bool) (a : Bool) (t : Bool) (r : Bool) (p : Bool) (q : Int) (d6a : List YC) (b : Int) (u : Int) (R : Bool) (Q : Bool) (l : Bool) (d : Bool) (y : Bool) (z : Int) (w2 : List Int) (w0a : Bool) (V : Bool) (K : Bool) (g : Bool) (v : Bool) (w : Int) (d0a : List YC) (o : Int) (m : Int) (j : Bool × Bool × Bool × Bool × Bool × Int) (w2' : List Int) : Option YK :=
 agree (
  Qa.tr10 L70000001 s v4a a t r p q d6a b u R Q l d y z w2 w0a V K g v w d0a o m j w2'
 ) (
  Qa.tr10 L70000001 s v4a a t r p q d6a b u R Q l d y z w2 w0a V K g v w d0a o m j w2'
 )
def Qa.tr12 (L70000001 : YL) (s : Int) (v4a : Bool) (a : Bool) (t : Bool) (r : Bool) (p : Bool) (q : Int) (d6a : List YC) (b : Int) (u : Int) (R : Bool) (Q : Bool) (l : Bool) (d : Bool) (y : Bool) (z : Int) (w2 : List Int) (w0a : Bool) (V : Bool) (K : Bool) (g : Bool) (v : Bool) (w : Int) (d0a : List YC) (o : Int) (m : Int) (j : Bool × Bool × Bool × Bool × Bool × Int) (w2' : List Int) : Option YK :=
 agree (
  Qa.tr11 L70000001 s v4a a t r p q d6a b u R Q l d y z w2 w0a V K g v w d0a o m j w2'
 ) (
  Qa.tr10 L70000001 s v4a a t r p q d6a b u R Q l d y z w2 w0a V K g v w d0a o m j w2'
 )
def Qa.tr13 (L70000001 : YL) (s : Int) (v4a : Bool) (a : Bool) (t : Bool) (r : Bool) (p : Bool) (q : Int) (d6a : List YC) (b : Int) (u : Int) (R : Bool) (Q : Bool) (l : Bool) (d : Bool) (y : Bool) (z : Int) (w2 : List Int) (w0a : Bool) (V : Bool) (K : Bool) (g : Bool) (v : Bool) (w : Int) (d0a : List YC) (o : Int) (m : Int) (j : Bool × Bool × Bool × Bool × Bool × Int) (w2' : List Int) : Option YK :=
 if (0 : Int) ≤ o ∧ (o : Int) < d0a.length then
  Qa.tr10 L70000001 s v4a a t r p q d6a b u R Q l d y z w2 w0a V K g v w d0a o m j w2'
 else
  none
def Qa.tr14 (L70000001 : YL) (s : Int) (v4a : Bool) (a : Bool) (t : Bool) (r : Bool) (p : Bool) (q : Int) (d6a : List YC) (b : Int) (u : Int) (R : Bool) (Q : Bool) (l : Bool) (d : Bool) (y : Bool) (z : Int) (w2 : List Int) (w0a : Bool) (V : Bool) (K : Bool) (g : Bool) (v : Bool) (w : Int) (d0a : List YC) (o : Int) (m : Int) (j : Bool × Bool × Bool × Bool × Bool × Int) (w2' : List Int) : Option YK :=
 agree (
  if (0 : Int) ≤ o ∧ (o : Int) < d0a.length then
   Qa.tr12 L70000001 s v4a a t r p q d6a b u R Q l d y z w2 w0a V K g v w d0a o m j w2'
  else
   none
 ) (
  Qa.tr13 L70000001 s v4a a t r p q d6a b u R Q l d y z w2 w0a V K g v w d0a o m j w2'
 )
def Qa.tr15 (L70000001 : YL) (s : Int) (v4a : Bool) (a : Bool) (t : Bool) (r : Bool) (p : Bool) (q : Int) (d6a : List YC) (b : Int) (u : Int) (R : Bool) (Q : Bool) (l : Bool) (d : Bool) (y : Bool) (z : Int) (w2 : List Int) (w0a : Bool) (V : Bool) (K : Bool) (g : Bool) (v : Bool) (w : Int) (d0a : List YC) (o : Int) (m : Int) (j : Bool × Bool × Bool × Bool × Bool × Int) (w2' : List Int) : Option YK :=
 agree (
  Qa.tr13 L70000001 s v4a a t r p q d6a b u R Q l d y z w2 w0a V K g v w d0a o m j w2'
 ) (
  Qa.tr13 L70000001 s v4a a t r p q d6a b u R Q l d y z w2 w0a V K g v w d0a o m j w2'
 )
def Qa.tr16 (L70000001 : YL) (s : Int) (v4a : Bool) (a : Bool) (t : Bool) (r : Bool) (p : Bool) (q : Int) (d6a : List YC) (b : Int) (u : Int) (R : Bool) (Q : Bool) (l : Bool) (d : Bool) (y : Bool) (z : Int) (w2 : List Int) (w0a : Bool) (V : Bool) (K : Bool) (g : Bool) (v : Bool) (w : Int) (d0a : List YC) (o : Int) (m : Int) (j : Bool × Bool × Bool × Bool × Bool × Int) (w2' : List Int) : Option YK :=
 agree (
  Qa.tr13 L70000001 s v4a a t r p q d6a b u R Q l d y z w2 w0a V K g v w d0a o m j w2'
 ) (
  if (0 : Int) ≤ o ∧ (o : Int) < d0a.length then
   Qa.tr11 L70000001 s v4a a t r p q d6a b u R Q l d y z w2 w0a V K g v w d0a o m j w2'
  else
   none
 )
def Qa.tr17 (L70000001 : YL) (s : Int) (v4a : Bool) (a : Bool) (t : Bool) (r : Bool) (p : Bool) (q : Int) (d6a : List YC) (b : Int) (u : Int) (R : Bool) (Q : Bool) (l : Bool) (d : Bool) (y : Bool) (z : Int) (w2 : List Int) (w0a : Bool) (V : Bool) (K : Bool) (g : Bool) (v : Bool) (w : Int) (d0a : List YC) (o : Int) (m : Int) (j : Bool × Bool × Bool × Bool × Bool × Int) (w2' : List Int) : Option YK :=
 agree (
  Qa.tr14 L70000001 s v4a a t r p q d6a b u R Q l d y z w2 w0a V K g v w d0a o m j w2'
 ) (
  agree (
   if (0 : Int) ≤ o ∧ (o : Int) < d0a.length then
    agree (
     Qa.tr12 L70000001 s v4a a t r p q d6a b u R Q l d y z w2 w0a V K g v w d0a o m j w2'
    ) (
     agree (
      Qa.tr12 L70000001 s v4a a t r p q d6a b u R Q l d y z w2 w0a V K g v w d0a o m j w2'
     ) (
      Qa.tr11 L70000001 s v4a a t r p q d6a b u R Q l d y z w2 w0a V K g v w d0a o m j w2'
     )
    )
   else
    none
  ) (
   Qa.tr16 L70000001 s v4a a t r p q d6a b u R Q l d y z w2 w0a V K g v w d0a o m j w2'
  )
 )
def Qa.g70000001raw (I1000007 : YN) (L70000001 : YL) (s : Int) (v4a : Bool) (a : Bool) (t : Bool) (r : Bool) (p : Bool) (q : Int) (d6a : List YC) (b : Int) (u : Int) (R : Bool) (Q : Bool) (l : Bool) (d : Bool) (y : Bool) (z : Int) (w2 : List Int) (w0a : Bool) (V : Bool) (K : Bool) (g : Bool) (v : Bool) (w : Int) (d0a : List YC) (o : Int) (m : Int) (j : Bool × Bool × Bool × Bool × Bool × Int) (w2' : List Int) : Option YK :=
 if (decide ((o : Int) < (d0a.length : Int))) = true then
  if (0 : Int) ≤ o ∧ (o : Int) < d0a.length then
   if ((((d0a.getD (o : Int).toNat (0, 0)).1) : Int) == m) = true then
    agree (
     agree (
      Qa.tr14 L70000001 s v4a a t r p q d6a b u R Q l d y z w2 w0a V K g v w d0a o m j w2'
     ) (
      agree (
       Qa.tr14 L70000001 s v4a a t r p q d6a b u R Q l d y z w2 w0a V K g v w d0a o m j w2'
      ) (
       Qa.tr15 L70000001 s v4a a t r p q d6a b u R Q l d y z w2 w0a V K g v w d0a o m j w2'
      )
     )
    ) (
     agree (
      Qa.tr17 L70000001 s v4a a t r p q d6a b u R Q l d y z w2 w0a V K g v w d0a o m j w2'
     ) (
      agree (
       Qa.tr17 L70000001 s v4a a t r p q d6a b u R Q l d y z w2 w0a V K g v w d0a o m j w2'
      ) (
       agree (
        Qa.tr15 L70000001 s v4a a t r p q d6a b u R Q l d y z w2 w0a V K g v w d0a o m j w2'
       ) (
        agree (
         Qa.tr16 L70000001 s v4a a t r p q d6a b u R Q l d y z w2 w0a V K g v w d0a o m j w2'
        ) (
         Qa.tr16 L70000001 s v4a a t r p q d6a b u R Q l d y z w2 w0a V K g v w d0a o m j w2'
        )
       )
      )
     )
    )
   else
    I1000007 s w0a V K g v w d0a o m j w2'
  else
   none
 else
  I1000007 s w0a V K g v w d0a o m j w2'
theorem Qa.g70000001raw_eq (I1000007 : YN) (L70000001 : YL) (s : Int) (v4a : Bool) (a : Bool) (t : Bool) (r : Bool) (p : Bool) (q : Int) (d6a : List YC) (b : Int) (u : Int) (R : Bool) (Q : Bool) (l : Bool) (d : Bool) (y : Bool) (z : Int) (w2 : List Int) (w0a : Bool) (V : Bool) (K : Bool) (g : Bool) (v : Bool) (w : Int) (d0a : List YC) (o : Int) (m : Int) (j : Bool × Bool × Bool × Bool × Bool × Int) (w2' : List Int) : Qa.g70000001raw I1000007 L70000001 s v4a a t r p q d6a b u R Q l d y z w2 w0a V K g v w d0a o m j w2' = Qa.g70000001 I1000007 L70000001 s v4a a t r p q d6a b u R Q l d y z w2 w0a V K g v w d0a o m j w2' := by
 unfold Qa.g70000001raw Qa.g70000001
 simp only [Vt, Qa.tr9, Qa.tr10, Qa.tr11, Qa.tr12, Qa.tr13, Qa.tr14, Qa.tr15, Qa.tr16, Qa.tr17]
def Qa.st1000006 (s : Int) (v4a : Bool) (a : Bool) (t : Bool) (r : Bool) (p : Bool) (q : Int) (d6a : List YC) (b : Int) (u : Int) (R : Bool) (Q : Bool) (l : Bool) (d : Bool) (y : Bool) (z : Int) (w2 : List Int) : St := ⟨[.gone, .dat (.int .i64) s, .gone, .gone, .ptr 0 [], .gone, .ptr 1 [], .gone, .gone, .gone, .gone, .gone, .gone, .gone, .gone, .gone, .gone, .gone, .gone, .gone, .gone, .gone, .gone, .gone, .gone, .gone, .gone, .gone, .gone, .gone, .gone, .gone, .gone, .gone], [.box 114 (.pair .bool (.pair .bool (.pair .bool (.pair .bool (.pair .bool (.int .i64)))))) (.pr (.dat .bool v4a) (.pr (.dat .bool a) (.pr (.dat .bool t) (.pr (.dat .bool r) (.pr (.dat .bool p) (.dat (.int .i64) q)))))), .box 137 (.pair (.sl 72 (.pair (.int .i64) (.int .i64))) (.pair (.int .i64) (.pair (.int .i64) (.pair (.pair .bool (.pair .bool (.pair .bool (.pair .bool (.pair .bool (.int .i64)))))) (.sl 2 (.int .i64)))))) (.pr (.dat (.sl 72 (.pair (.int .i64) (.int .i64))) d6a) (.pr (.dat (.int .i64) b) (.pr (.dat (.int .i64) u) (.pr (.pr (.dat .bool R) (.pr (.dat .bool Q) (.pr (.dat .bool l) (.pr (.dat .bool d) (.pr (.dat .bool y) (.dat (.int .i64) z)))))) (.ref 2))))), .row 2 (.int .i64) w2 none]⟩
def Qa.con : Con := { ps := [(.val, (.sl 72 (.pair (.int .i64) (.int .i64)))), (.val, (.int .i64))], rs := [(.val, (.pair .bool (.pair .bool (.pair .bool (.pair .bool (.pair .bool (.int .i64))))))), (.val, (.int .i64))], F := fun x => Qa.f x.1 x.2 }
def Qa.cs : List (FuncId × Con) := [(55, Qo.con), (88, Qa5.con), (153, Qau.con)]
def Qa.E : Env := envOf tab Qa.cs 0 false
def Qa.I (f : FuncId) : Option Func := if f = 132 then some Tryz.f132 else if f = 133 then some Tryz.f133 else none
theorem Qa.hI : ∀ f fn, Qa.I f = some fn → Tryz.prog.funcs[f]? = some fn ∧ fn.body.isSome = true ∧ fn.name ≠ "runtime.NumGoroutine" := by
  intro f fn h
  unfold Qa.I at h
  split at h
  · rename_i e; subst e; cases h; exact ⟨Tryz.func132, rfl, by decide⟩
  split at h
  · rename_i e; subst e; cases h; exact ⟨Tryz.func133, rfl, by decide⟩
  cases h
def Qa.keep (i : Nat) : List Nat := if i = 100000001 then [0] else if i = 1000009 then [1, 4, 6] else if i = 1000008 then [1, 4, 6] else if i = 7 then [1, 4, 6] else if i = 1000007 then [1, 4, 6] else if i = 70000001 then [0, 200000] else if i = 1000006 then [1, 4, 6] else []
def Qa.at100000001 (n : Nat) (x : YE × Int) (M7 : St → Option (YK)) (s : Int) (v4a : Bool) (a : Bool) (t : Bool) (r : Bool) (p : Bool) (q : Int) (d6a : List YC) (b : Int) (u : Int) (c : Bool × Bool × Bool × Bool × Bool × Int) (w2 : List Int) : Code × (Ex → St → Option (YK)) := ctx (envIn Qa.E 2) (VaF Qa.keep 9) n [.blk] (Vg Tryz.f132) (kIn ((ctxI Qa.E Qa.I Qa.keep n [.snd, .snd, .snd, .snd, .snd, .fst, .blk, .rd M7, .snd, .blk, .snd] (Vg Tryz.f102) (kEnd Qa.E Tryz.f102 Qa.con x)).2 .normal) [.gone, .dat (.int .i64) s, .gone, .gone, .ptr 0 [], .gone, .ptr 1 [], .gone, .gone, .gone, .gone, .gone, .gone, .gone, .gone, .gone, .gone, .gone, .gone, .gone, .gone, .gone, .gone, .gone, .gone, .gone, .gone, .gone, .ptr 1 [], .gone, .gone, .gone, .gone, .gone] (some 29))
def Qa.LN100000001 (n : Nat) (x : YE × Int) (M7 : St → Option (YK)) (s : Int) (v4a : Bool) (a : Bool) (t : Bool) (r : Bool) (p : Bool) (q : Int) (d6a : List YC) (b : Int) (u : Int) (c : Bool × Bool × Bool × Bool × Bool × Int) (w2 : List Int) : Nat → St → Option (YK) := loopN (exec (envIn Qa.E 2) (VaF Qa.keep 9) n (Vj (Qa.at100000001 n x M7 s v4a a t r p q d6a b u c w2).1)) (St.norm 2 (VaF Qa.keep 9 1)) (Qa.at100000001 n x M7 s v4a a t r p q d6a b u c w2).2
def Qa.at1000009 (n : Nat) (x : YE × Int) (M7 : St → Option (YK)) : Code × (Ex → St → Option (YK)) := ctxI Qa.E Qa.I Qa.keep n [.snd, .snd, .snd, .snd, .snd, .fst, .blk, .rd M7, .snd, .blk, .snd] (Vg Tryz.f102) (kEnd Qa.E Tryz.f102 Qa.con x)
def Qa.LN1000009 (n : Nat) (x : YE × Int) (M7 : St → Option (YK)) : Nat → St → Option (YK) := cutN (execI Qa.E Qa.I Qa.keep n (Qa.at1000009 n x M7).1 (Qa.at1000009 n x M7).2)
def Qa.at1000008 (n : Nat) (x : YE × Int) (M7 : St → Option (YK)) : Code × (Ex → St → Option (YK)) := ctxI Qa.E Qa.I Qa.keep n [.snd, .snd, .snd, .snd, .snd, .fst, .blk, .rd M7, .snd] (Vg Tryz.f102) (kEnd Qa.E Tryz.f102 Qa.con x)
def Qa.LN1000008 (n : Nat) (x : YE × Int) (M7 : St → Option (YK)) : Nat → St → Option (YK) := cutN (execI Qa.E Qa.I Qa.keep n (Qa.at1000008 n x M7).1 (Qa.at1000008 n x M7).2)
def Qa.at7 (n : Nat) (x : YE × Int) : Code × (Ex → St → Option (YK)) := ctxI Qa.E Qa.I Qa.keep n [.snd, .snd, .snd, .snd, .snd, .fst, .blk] (Vg Tryz.f102) (kEnd Qa.E Tryz.f102 Qa.con x)
def Qa.LN7 (n : Nat) (x : YE × Int) : Nat → St → Option (YK) := loopN (execI Qa.E Qa.I Qa.keep n (Vj (Qa.at7 n x).1)) (St.norm 0 (Qa.keep 7)) (Qa.at7 n x).2
def Qa.at1000007 (n : Nat) (x : YE × Int) : Code × (Ex → St → Option (YK)) := ctxI Qa.E Qa.I Qa.keep n [.snd, .snd, .snd, .snd, .snd] (Vg Tryz.f102) (kEnd Qa.E Tryz.f102 Qa.con x)
def Qa.LN1000007 (n : Nat) (x : YE × Int) : Nat → St → Option (YK) := cutN (execI Qa.E Qa.I Qa.keep n (Qa.at1000007 n x).1 (Qa.at1000007 n x).2)
def Qa.at70000001 (n : Nat) (x : YE × Int) (s : Int) (v4a : Bool) (a : Bool) (t : Bool) (r : Bool) (p : Bool) (q : Int) (d6a : List YC) (b : Int) (u : Int) (R : Bool) (Q : Bool) (l : Bool) (d : Bool) (y : Bool) (z : Int) (w2 : List Int) : Code × (Ex → St → Option (YK)) := ctx (envIn Qa.E 2) (VaF Qa.keep 6) n [.blk] (Vg Tryz.f132) (kIn ((ctxI Qa.E Qa.I Qa.keep n [.snd, .snd, .snd, .snd, .fst] (Vg Tryz.f102) (kEnd Qa.E Tryz.f102 Qa.con x)).2 .normal) [.gone, .dat (.int .i64) s, .gone, .gone, .ptr 0 [], .gone, .ptr 1 [], .gone, .gone, .gone, .gone, .gone, .gone, .gone, .gone, .gone, .gone, .gone, .ptr 1 [], .gone, .gone, .gone, .gone, .gone, .gone, .gone, .gone, .gone, .gone, .gone, .gone, .gone, .gone, .gone] (some 19))
def Qa.LN70000001 (n : Nat) (x : YE × Int) (s : Int) (v4a : Bool) (a : Bool) (t : Bool) (r : Bool) (p : Bool) (q : Int) (d6a : List YC) (b : Int) (u : Int) (R : Bool) (Q : Bool) (l : Bool) (d : Bool) (y : Bool) (z : Int) (w2 : List Int) : Nat → St → Option (YK) := loopN (exec (envIn Qa.E 2) (VaF Qa.keep 6) n (Vj (Qa.at70000001 n x s v4a a t r p q d6a b u R Q l d y z w2).1)) (St.norm 2 (VaF Qa.keep 6 1)) (Qa.at70000001 n x s v4a a t r p q d6a b u R Q l d y z w2).2
def Qa.at1000006 (n : Nat) (x : YE × Int) : Code × (Ex → St → Option (YK)) := ctxI Qa.E Qa.I Qa.keep n [.snd, .snd, .snd, .snd] (Vg Tryz.f102) (kEnd Qa.E Tryz.f102 Qa.con x)
def Qa.LN1000006 (n : Nat) (x : YE × Int) : Nat → St → Option (YK) := cutN (execI Qa.E Qa.I Qa.keep n (Qa.at1000006 n x).1 (Qa.at1000006 n x).2)
set_option maxRecDepth 100000 in
theorem Qa.lem100000001 (n : Nat) (x : YE × Int) (M7 : St → Option (YK)) : ∀ (k : Nat) (s : Int) (v4a : Bool) (a : Bool) (t : Bool) (r : Bool) (p : Bool) (q : Int) (d6a : List YC) (b : Int) (u : Int) (c : Bool × Bool × Bool × Bool × Bool × Int) (w2 : List Int) (w0a : Bool) (V : Bool) (K : Bool) (g : Bool) (v : Bool) (w : Int) (d0a : List YC) (o : Int) (m : Int) (j : Bool × Bool × Bool × Bool × Bool × Int) (w2' : List Int), Qa.LN100000001 n x M7 s v4a a t r p q d6a b u c w2 k (Qa.st100000001 w0a V K g v w d0a o m j w2') = Qa.l100000001 n (fun s v4a a t r p q d6a b u c w2 => M7 (Qa.st7 s v4a a t r p q d6a b u c w2)) k s v4a a t r p q d6a b u c w2 w0a V K g v w d0a o m j w2' := by
 intro k
 induction k with
 | zero => intro s v4a a t r p q d6a b u c w2 w0a V K g v w d0a o m j w2'; rfl
 | succ k ih =>
  intro s v4a a t r p q d6a b u c w2 w0a V K g v w d0a o m j w2'
  have h : Qa.LN100000001 n x M7 s v4a a t r p q d6a b u c w2 (k + 1) (Qa.st100000001 w0a V K g v w d0a o m j w2') = Qa.g100000001raw (fun s v4a a t r p q d6a b u c w2 => M7 (Qa.st7 s v4a a t r p q d6a b u c w2)) (fun s v4a a t r p q d6a b u c w2 w0a V K g v w d0a o m j w2' => Qa.LN100000001 n x M7 s v4a a t r p q d6a b u c w2 k (Qa.st100000001 w0a V K g v w d0a o m j w2')) s v4a a t r p q d6a b u c w2 w0a V K g v w d0a o m j w2' := by kernel_rfl
  rw [Qa.g100000001raw_eq] at h
  rw [h]
  simp only [ih]
  rfl
set_option maxRecDepth 100000 in
theorem Qa.lem1000009 (n : Nat) (x : YE × Int) (M7 : St → Option (YK)) : ∀ (k : Nat) (s : Int) (v4a : Bool) (a : Bool) (t : Bool) (r : Bool) (p : Bool) (q : Int) (d6a : List YC) (b : Int) (u : Int) (c : Bool × Bool × Bool × Bool × Bool × Int) (w2 : List Int), Qa.LN1000009 n x M7 k (Qa.st1000009 s v4a a t r p q d6a b u c w2) = Qa.l1000009 n (fun s v4a a t r p q d6a b u c w2 => M7 (Qa.st7 s v4a a t r p q d6a b u c w2)) k s v4a a t r p q d6a b u c w2 := by
 intro k
 induction k with
 | zero => intro s v4a a t r p q d6a b u c w2; rfl
 | succ k ih =>
  intro s v4a a t r p q d6a b u c w2
  have h : Qa.LN1000009 n x M7 (k + 1) (Qa.st1000009 s v4a a t r p q d6a b u c w2) = Qa.g1000009 (fun s v4a a t r p q d6a b u c w2 w0a V K g v w d0a o m j w2' => Qa.LN100000001 n x M7 s v4a a t r p q d6a b u c w2 n (Qa.st100000001 w0a V K g v w d0a o m j w2')) (fun s v4a a t r p q d6a b u c w2 => M7 (Qa.st7 s v4a a t r p q d6a b u c w2)) (fun s v4a a t r p q d6a b u c w2 => Qa.LN1000009 n x M7 k (Qa.st1000009 s v4a a t r p q d6a b u c w2)) s v4a a t r p q d6a b u c w2 := by kernel_rfl
  rw [h]
  simp only [ih, Qa.lem100000001]
  rfl
set_option maxRecDepth 100000 in
theorem Qa.lem1000008 (n : Nat) (x : YE × Int) (M7 : St → Option (YK)) : ∀ (k : Nat) (s : Int) (v4a : Bool) (a : Bool) (t : Bool) (r : Bool) (p : Bool) (q : Int) (d6a : List YC) (b : Int) (u : Int) (c : Bool × Bool × Bool × Bool × Bool × Int) (w2 : List Int), Qa.LN1000008 n x M7 k (Qa.st1000008 s v4a a t r p q d6a b u c w2) = Qa.l1000008 n (fun s v4a a t r p q d6a b u c w2 => M7 (Qa.st7 s v4a a t r p q d6a b u c w2)) k s v4a a t r p q d6a b u c w2 := by
 intro k
 induction k with
 | zero => intro s v4a a t r p q d6a b u c w2; rfl
 | succ k ih =>
  intro s v4a a t r p q d6a b u c w2
  have h : Qa.LN1000008 n x M7 (k + 1) (Qa.st1000008 s v4a a t r p q d6a b u c w2) = Qa.g1000008 (fun s v4a a t r p q d6a b u c w2 => Qa.LN1000009 n x M7 n (Qa.st1000009 s v4a a t r p q d6a b u c w2)) (fun s v4a a t r p q d6a b u c w2 => M7 (Qa.st7 s v4a a t r p q d6a b u c w2)) (fun s v4a a t r p q d6a b u c w2 => Qa.LN1000008 n x M7 k (Qa.st1000008 s v4a a t r p q d6a b u c w2)) s v4a a t r p q d6a b u c w2 := by kernel_rfl
  rw [h]
  simp only [ih, Qa.lem1000009]
  rfl
set_option maxRecDepth 100000 in
theorem Qa.lem7 (n : Nat) (x : YE × Int) : ∀ (k : Nat) (s : Int) (v4a : Bool) (a : Bool) (t : Bool) (r : Bool) (p : Bool) (q : Int) (d6a : List YC) (b : Int) (u : Int) (c : Bool × Bool × Bool × Bool × Bool × Int) (w2 : List Int), Qa.LN7 n x k (Qa.st7 s v4a a t r p q d6a b u c w2) = Qa.l7 n k s v4a a t r p q d6a b u c w2 := by
 intro k
 induction k with
 | zero => intro s v4a a t r p q d6a b u c w2; rfl
 | succ k ih =>
  intro s v4a a t r p q d6a b u c w2
  have h : Qa.LN7 n x (k + 1) (Qa.st7 s v4a a t r p q d6a b u c w2) = Qa.g7 (fun s v4a a t r p q d6a b u c w2 => Qa.LN1000008 n x (Qa.LN7 n x k) n (Qa.st1000008 s v4a a t r p q d6a b u c w2)) (fun s v4a a t r p q d6a b u c w2 => Qa.LN7 n x k (Qa.st7 s v4a a t r p q d6a b u c w2)) s v4a a t r p q d6a b u c w2 := by kernel_rfl
  rw [h]
  simp only [ih, Qa.lem1000008]
  rfl
set_option maxRecDepth 100000 in
theorem Qa.lem1000007 (n : Nat) (x : YE × Int) : ∀ (k : Nat) (s : Int) (v4a : Bool) (a : Bool) (t : Bool) (r : Bool) (p : Bool) (q : Int) (d6a : List YC) (b : Int) (u : Int) (c : Bool × Bool × Bool × Bool × Bool × Int) (w2 : List Int), Qa.LN1000007 n x k (Qa.st1000007 s v4a a t r p q d6a b u c w2) = Qa.l1000007 n k s v4a a t r p q d6a b u c w2 := by
 intro k
 induction k with
 | zero => intro s v4a a t r p q d6a b u c w2; rfl
 | succ k ih =>
  intro s v4a a t r p q d6a b u c w2
  have h : Qa.LN1000007 n x (k + 1) (Qa.st1000007 s v4a a t r p q d6a b u c w2) = Qa.g1000007 (fun s v4a a t r p q d6a b u c w2 => Qa.LN7 n x n (Qa.st7 s v4a a t r p q d6a b u c w2)) (fun s v4a a t r p q d6a b u c w2 => Qa.LN1000007 n x k (Qa.st1000007 s v4a a t r p q d6a b u c w2)) s v4a a t r p q d6a b u c w2 := by kernel_rfl
  rw [h]
  simp only [ih, Qa.lem7]
  rfl
set_option maxRecDepth 100000 in
theorem Qa.lem70000001 (n : Nat) (x : YE × Int) : ∀ (k : Nat) (s : Int) (v4a : Bool) (a : Bool) (t : Bool) (r : Bool) (p : Bool) (q : Int) (d6a : List YC) (b : Int) (u : Int) (R : Bool) (Q : Bool) (l : Bool) (d : Bool) (y : Bool) (z : Int) (w2 : List Int) (w0a : Bool) (V : Bool) (K : Bool) (g : Bool) (v : Bool) (w : Int) (d0a : List YC) (o : Int) (m : Int) (j : Bool × Bool × Bool × Bool × Bool × Int) (w2' : List Int), Qa.LN70000001 n x s v4a a t r p q d6a b u R Q l d y z w2 k (Qa.st70000001 w0a V K g v w d0a o m j w2') = Qa.l70000001 n k s v4a a t r p q d6a b u R Q l d y z w2 w0a V K g v w d0a o m j w2' := by
 intro k
 induction k with
 | zero => intro s v4a a t r p q d6a b u R Q l d y z w2 w0a V K g v w d0a o m j w2'; rfl
 | succ k ih =>
  intro s v4a a t r p q d6a b u R Q l d y z w2 w0a V K g v w d0a o m j w2'
  have h : Qa.LN70000001 n x s v4a a t r p q d6a b u R Q l d y z w2 (k + 1) (Qa.st70000001 w0a V K g v w d0a o m j w2') = Qa.g70000001raw (fun s v4a a t r p q d6a b u c w2 => Qa.LN1000007 n x n (Qa.st1000007 s v4a a t r p q d6a b u c w2)) (fun s v4a a t r p q d6a b u R Q l d y z w2 w0a V K g v w d0a o m j w2' => Qa.LN70000001 n x s v4a a t r p q d6a b u R Q l d y z w2 k (Qa.st70000001 w0a V K g v w d0a o m j w2')) s v4a a t r p q d6a b u R Q l d y z w2 w0a V K g v w d0a o m j w2' := by kernel_rfl
  rw [Qa.g70000001raw_eq] at h
  rw [h]
  simp only [ih, Qa.lem1000007]
  rfl
set_option maxRecDepth 100000 in
theorem Qa.lem1000006 (n : Nat) (x : YE × Int) : ∀ (k : Nat) (s : Int) (v4a : Bool) (a : Bool) (t : Bool) (r : Bool) (p : Bool) (q : Int) (d6a : List YC) (b : Int) (u : Int) (R : Bool) (Q : Bool) (l : Bool) (d : Bool) (y : Bool) (z : Int) (w2 : List Int), Qa.LN1000006 n x k (Qa.st1000006 s v4a a t r p q d6a b u R Q l d y z w2) = Qa.l1000006 n k s v4a a t r p q d6a b u R Q l d y z w2 := by
 intro k
 induction k with
 | zero => intro s v4a a t r p q d6a b u R Q l d y z w2; rfl
 | succ k ih =>
  intro s v4a a t r p q d6a b u R Q l d y z w2
  have h : Qa.LN1000006 n x (k + 1) (Qa.st1000006 s v4a a t r p q d6a b u R Q l d y z w2) = Qa.g1000006 (fun s v4a a t r p q d6a b u R Q l d y z w2 w0a V K g v w d0a o m j w2' => Qa.LN70000001 n x s v4a a t r p q d6a b u R Q l d y z w2 n (Qa.st70000001 w0a V K g v w d0a o m j w2')) (fun s v4a a t r p q d6a b u R Q l d y z w2 => Qa.LN1000006 n x k (Qa.st1000006 s v4a a t r p q d6a b u R Q l d y z w2)) s v4a a t r p q d6a b u R Q l d y z w2 := by kernel_rfl
  rw [h]
  simp only [ih, Qa.lem70000001]
  rfl
set_option maxRecDepth 100000 in
theorem Qa.body (n : Nat) (x : YE × Int) : VcD Qa.E Qa.I Qa.keep n Tryz.f102 Qa.con x = Qa.fn n x.1 x.2 := by
 have h : VcD Qa.E Qa.I Qa.keep n Tryz.f102 Qa.con x = Qa.top (fun s v4a a t r p q d6a b u R Q l d y z w2 => Qa.LN1000006 n x n (Qa.st1000006 s v4a a t r p q d6a b u R Q l d y z w2)) x.1 x.2 := by kernel_rfl
 rw [h]
 simp only [Qa.lem1000006]
 rfl
set_option maxRecDepth 100000 in
theorem Qa.good : Good Tryz.prog 102 Qa.con :=
 Vfu tabok (cs := Qa.cs) ⟨Qo.good, Qa5.good, Qau.good, trivial⟩ 0 false (fn := Tryz.f102) Tryz.func102 rfl (by decide) (by simp [Qa.con]) Qa.keep NN (fun _ => rfl) Qa.hI (fun x => Qa.body NN x)
end
end Go.Ev.Tryz

namespace Go.Ev.Tryz
open Go.Proofs Go.Pl
set_option linter.unusedVariables false
noncomputable section
def QaJ.con : Con := { ps := [(.val, (.pair .bool (.pair .bool (.pair .bool (.pair .bool (.pair .bool (.int .i64)))))))], rs := [(.val, .str)], F := fun x => QaJ.f x }
def QaJ.cs : List (FuncId × Con) := []
def QaJ.E : Env := envOf tab QaJ.cs 0 false
def QaJ.keep (i : Nat) : List Nat := []
set_option maxRecDepth 100000 in
theorem QaJ.body (n : Nat) (x : Bool × Bool × Bool × Bool × Bool × Int) : bodyF QaJ.E QaJ.keep n Tryz.f103 QaJ.con x = QaJ.fn n x := by
 have h : bodyF QaJ.E QaJ.keep n Tryz.f103 QaJ.con x = QaJ.top x := by kernel_rfl
 exact h
set_option maxRecDepth 100000 in
theorem QaJ.good : Good Tryz.prog 103 QaJ.con :=
 Vf tabok (cs := QaJ.cs) trivial 0 false (fn := Tryz.f103) Tryz.func103 rfl (by decide) (by simp [QaJ.con]) QaJ.keep NN (fun _ => rfl) (fun x => QaJ.body NN x)
end
end Go.Ev.Tryz

namespace Go.Ev.Tryz
open Go.Proofs Go.Pl
set_option linter.unusedVariables false
noncomputable section
def Q6.st2 (q : ByteArray) (k5 : Int) (p : List ByteArray) : St := ⟨[.ref 0, .dat .str q, .gone, .gone, .gone, .dat (.int .i64) k5, .gone, .gone, .gone, .gone, .gone, .gone, .gone, .gone, .gone, .gone, .gone, .gone, .gone, .gone, .gone, .gone, .gone, .gone, .gone, .gone, .gone, .gone, .gone, .gone, .gone, .gone, .gone, .gone, .gone, .gone, .gone, .gone, .gone, .gone, .gone, .gone, .gone, .gone, .gone, .gone, .gone, .gone, .gone], [.row 9 .str p none]⟩
def Q6.con : Con := { ps := [(.own, (.sl 9 .str)), (.val, .str)], rs := [(.own, (.sl 9 .str))], gv := true, F := fun x => Q6.f x.1 x.2 }
def Q6.cs : List (FuncId × Con) := []
def Q6.E : Env := envOf tab Q6.cs 0 true
def Q6.keep (i : Nat) : List Nat := if i = 2 then [0, 1, 5] else []
def Q6.at2 (n : Nat) (x : List ByteArray × ByteArray) : Code × (Ex → St → Option (YJ)) := ctx Q6.E Q6.keep n [.snd, .snd, .fst, .blk] (Vg Tryz.f104) (kEnd Q6.E Tryz.f104 Q6.con x)
def Q6.LN2 (n : Nat) (x : List ByteArray × ByteArray) : Nat → St → Option (YJ) := loopN (exec Q6.E Q6.keep n (Vj (Q6.at2 n x).1)) (St.norm 0 (Q6.keep 2)) (Q6.at2 n x).2
set_option maxRecDepth 100000 in
theorem Q6.lem2 (n : Nat) (x : List ByteArray × ByteArray) : ∀ (k : Nat) (q : ByteArray) (k5 : Int) (p : List ByteArray), Q6.LN2 n x k (Q6.st2 q k5 p) = Q6.l2 n k q k5 p := by
 intro k
 induction k with
 | zero => intro q k5 p; rfl
 | succ k ih =>
  intro q k5 p
  have h : Q6.LN2 n x (k + 1) (Q6.st2 q k5 p) = Q6.g2 (fun q k5 p => Q6.LN2 n x k (Q6.st2 q k5 p)) q k5 p := by kernel_rfl
  rw [h]
  simp only [ih]
  rfl
set_option maxRecDepth 100000 in
theorem Q6.body (n : Nat) (x : List ByteArray × ByteArray) : bodyF Q6.E Q6.keep n Tryz.f104 Q6.con x = Q6.fn n x.1 x.2 := by
 have h : bodyF Q6.E Q6.keep n Tryz.f104 Q6.con x = Q6.top (fun q k5 p => Q6.LN2 n x n (Q6.st2 q k5 p)) x.1 x.2 := by kernel_rfl
 rw [h]
 simp only [Q6.lem2]
 rfl
set_option maxRecDepth 100000 in
theorem Q6.good : Good Tryz.prog 104 Q6.con :=
 Vf tabok (cs := Q6.cs) trivial 0 true (fn := Tryz.f104) Tryz.func104 rfl (by decide) (by simp [Q6.con]) Q6.keep NN (fun _ => rfl) (fun x => Q6.body NN x)
end
end Go.Ev.Tryz

namespace Go.Ev.Tryz
open Go.Proofs Go.Pl
set_option linter.unusedVariables false
noncomputable section
def QH.st2 (q : Int) (p : Int) (v9 : List Int) (v10 : Int) (v11 : Int) : St := ⟨[.gone, .dat (.int .i64) q, .dat (.int .i64) p, .gone, .gone, .gone, .gone, .gone, .gone, .dat (.sl 2 (.int .i64)) v9, .dat (.int .i64) v10, .dat (.int .i64) v11, .gone, .gone, .gone, .gone, .gone, .gone, .gone, .gone, .gone], []⟩
def QH.con : Con := { ps := [(.val, (.sl 2 (.int .i64))), (.val, (.int .i64)), (.val, (.int .i64))], rs := [(.val, .bool)], F := fun x => QH.f x.1 x.2.1 x.2.2 }
def QH.cs : List (FuncId × Con) := [(86, Qag.con)]
def QH.E : Env := envOf tab QH.cs 0 false
def QH.keep (i : Nat) : List Nat := if i = 2 then [1, 2, 9, 10, 11] else []
def QH.at2 (n : Nat) (x : List Int × Int × Int) : Code × (Ex → St → Option (Bool)) := ctx QH.E QH.keep n [.snd, .fst, .snd, .blk] (Vg Tryz.f166) (kEnd QH.E Tryz.f166 QH.con x)
def QH.LN2 (n : Nat) (x : List Int × Int × Int) : Nat → St → Option (Bool) := loopN (exec QH.E QH.keep n (Vj (QH.at2 n x).1)) (St.norm 0 (QH.keep 2)) (QH.at2 n x).2
set_option maxRecDepth 100000 in
theorem QH.lem2 (n : Nat) (x : List Int × Int × Int) : ∀ (k : Nat) (q : Int) (p : Int) (v9 : List Int) (v10 : Int) (v11 : Int), QH.LN2 n x k (QH.st2 q p v9 v10 v11) = QH.l2 n k q p v9 v10 v11 := by
 intro k
 induction k with
 | zero => intro q p v9 v10 v11; rfl
 | succ k ih =>
  intro q p v9 v10 v11
  have h : QH.LN2 n x (k + 1) (QH.st2 q p v9 v10 v11) = QH.g2 (fun q p v9 v10 v11 => QH.LN2 n x k (QH.st2 q p v9 v10 v11)) q p v9 v10 v11 := by kernel_rfl
  rw [h]
  simp only [ih]
  rfl
set_option maxRecDepth 100000 in
theorem QH.body (n : Nat) (x : List Int × Int × Int) : bodyF QH.E QH.keep n Tryz.f166 QH.con x = QH.fn n x.1 x.2.1 x.2.2 := by
 have h : bodyF QH.E QH.keep n Tryz.f166 QH.con x = QH.top (fun q p v9 v10 v11 => QH.LN2 n x n (QH.st2 q p v9 v10 v11)) x.1 x.2.1 x.2.2 := by kernel_rfl
 rw [h]
 simp only [QH.lem2]
 rfl
set_option maxRecDepth 100000 in
theorem QH.good : Good Tryz.prog 166 QH.con :=
 Vf tabok (cs := QH.cs) ⟨Qag.good, trivial⟩ 0 false (fn := Tryz.f166) Tryz.func166 rfl (by decide) (by simp [QH.con]) QH.keep NN (fun _ => rfl) (fun x => QH.body NN x)
end
end Go.Ev.Tryz

namespace Go.Ev.Tryz
open Go.Proofs Go.Pl
set_option linter.unusedVariables false
noncomputable section
def Qaz.con : Con := { ps := [(.val, (.sl 2 (.int .i64)))], rs := [(.val, .bool)], F := fun x => Qaz.f x }
def Qaz.cs : List (FuncId × Con) := [(166, QH.con)]
def Qaz.E : Env := envOf tab Qaz.cs 0 false
def Qaz.keep (i : Nat) : List Nat := []
set_option maxRecDepth 100000 in
theorem Qaz.body (n : Nat) (x : List Int) : bodyF Qaz.E Qaz.keep n Tryz.f154 Qaz.con x = Qaz.fn n x := by
 have h : bodyF Qaz.E Qaz.keep n Tryz.f154 Qaz.con x = Qaz.top x := by kernel_rfl
 exact h
set_option maxRecDepth 100000 in
theorem Qaz.good : Good Tryz.prog 154 Qaz.con :=
 Vf tabok (cs := Qaz.cs) ⟨QH.good, trivial⟩ 0 false (fn := Tryz.f154) Tryz.func154 rfl (by decide) (by simp [Qaz.con]) Qaz.keep NN (fun _ => rfl) (fun x => Qaz.body NN x)
end
end Go.Ev.Tryz

namespace Go.Ev.Tryz
open Go.Proofs Go.Pl
set_option linter.unusedVariables false
noncomputable section
def QX.st4 (v8 : List ByteArray) (v9 : Int) (v10 : Int) : St := ⟨[.gone, .gone, .gone, .gone, .gone, .gone, .gone, .gone, .dat (.sl 9 .str) v8, .dat (.int .i64) v9, .dat (.int .i64) v10, .gone, .gone, .gone, .gone, .gone, .gone, .gone], []⟩
def QX.con : Con := { ps := [(.val, (.sl 9 .str))], rs := [(.val, .bool)], F := fun x => QX.f x }
def QX.cs : List (FuncId × Con) := [(85, QO.con)]
def QX.E : Env := envOf tab QX.cs 0 false
def QX.keep (i : Nat) : List Nat := if i = 4 then [8, 9, 10] else []
def QX.at4 (n : Nat) (x : List ByteArray) : Code × (Ex → St → Option (Bool)) := ctx QX.E QX.keep n [.snd, .snd, .fst, .snd, .blk] (Vg Tryz.f155) (kEnd QX.E Tryz.f155 QX.con x)
def QX.LN4 (n : Nat) (x : List ByteArray) : Nat → St → Option (Bool) := loopN (exec QX.E QX.keep n (Vj (QX.at4 n x).1)) (St.norm 0 (QX.keep 4)) (QX.at4 n x).2
set_option maxRecDepth 100000 in
theorem QX.lem4 (n : Nat) (x : List ByteArray) : ∀ (k : Nat) (v8 : List ByteArray) (v9 : Int) (v10 : Int), QX.LN4 n x k (QX.st4 v8 v9 v10) = QX.l4 n k v8 v9 v10 := by
 intro k
 induction k with
 | zero => intro v8 v9 v10; rfl
 | succ k ih =>
  intro v8 v9 v10
  have h : QX.LN4 n x (k + 1) (QX.st4 v8 v9 v10) = QX.g4 (fun v8 v9 v10 => QX.LN4 n x k (QX.st4 v8 v9 v10)) v8 v9 v10 := by kernel_rfl
  rw [h]
  simp only [ih]
  rfl
set_option maxRecDepth 100000 in
theorem QX.body (n : Nat) (x : List ByteArray) : bodyF QX.E QX.keep n Tryz.f155 QX.con x = QX.fn n x := by
 have h : bodyF QX.E QX.keep n Tryz.f155 QX.con x = QX.top (fun v8 v9 v10 => QX.LN4 n x n (QX.st4 v8 v9 v10)) x := by kernel_rfl
 rw [h]
 simp only [QX.lem4]
 rfl
set_option maxRecDepth 100000 in
theorem QX.good : Good Tryz.prog 155 QX.con :=
 Vf tabok (cs := QX.cs) ⟨QO.good, trivial⟩ 0 false (fn := Tryz.f155) Tryz.func155 rfl (by decide) (by simp [QX.con]) QX.keep NN (fun _ => rfl) (fun x => QX.body NN x)
end
end Go.Ev.Tryz

namespace Go.Ev.Tryz
open Go.Proofs Go.Pl
set_option linter.unusedVariables false
noncomputable section
def QaX.con : Con := { ps := [(.val, (.sl 2 (.int .i64))), (.val, (.sl 72 (.pair (.int .i64) (.int .i64)))), (.val, (.sl 70 (.pair (.int .i64) (.pair .str (.int .i64))))), (.val, (.sl 9 .str))], rs := [(.val, .bool)], F := fun x => QaX.f x.1 x.2.1 x.2.2.1 x.2.2.2 }
def QaX.cs : List (FuncId × Con) := [(54, Qx.con), (55, Qo.con), (154, Qaz.con), (155, QX.con)]
def QaX.E : Env := envOf tab QaX.cs 0 false
def QaX.keep (i : Nat) : List Nat := []
set_option maxRecDepth 100000 in
theorem QaX.body (n : Nat) (x : List Int × YE × YD × List ByteArray) : bodyF QaX.E QaX.keep n Tryz.f134 QaX.con x = QaX.fn n x.1 x.2.1 x.2.2.1 x.2.2.2 := by
 have h : bodyF QaX.E QaX.keep n Tryz.f134 QaX.con x = QaX.top x.1 x.2.1 x.2.2.1 x.2.2.2 := by kernel_rfl
 exact h
set_option maxRecDepth 100000 in
theorem QaX.good : Good Tryz.prog 134 QaX.con :=
 Vf tabok (cs := QaX.cs) ⟨Qx.good, Qo.good, Qaz.good, QX.good, trivial⟩ 0 false (fn := Tryz.f134) Tryz.func134 rfl (by decide) (by simp [QaX.con]) QaX.keep NN (fun _ => rfl) (fun x => QaX.body NN x)
end
end Go.Ev.Tryz

namespace Go.Ev.Tryz
open Go.Proofs Go.Pl
set_option linter.unusedVariables false
noncomputable section
def Qbj.con : Con := { ps := [(.val, (.pair .bool (.pair .bool (.pair .bool (.pair .bool (.pair .bool (.int .i64)))))))], rs := [(.val, .bool)], F := fun x => Qbj.f x }
def Qbj.cs : List (FuncId × Con) := []
def Qbj.E : Env := envOf tab Qbj.cs 0 false
def Qbj.keep (i : Nat) : List Nat := []
set_option maxRecDepth 100000 in
theorem Qbj.body (n : Nat) (x : Bool × Bool × Bool × Bool × Bool × Int) : bodyF Qbj.E Qbj.keep n Tryz.f156 Qbj.con x = Qbj.fn n x := by
 have h : bodyF Qbj.E Qbj.keep n Tryz.f156 Qbj.con x = Qbj.top x := by kernel_rfl
 exact h
set_option maxRecDepth 100000 in
theorem Qbj.good : Good Tryz.prog 156 Qbj.con :=
 Vf tabok (cs := Qbj.cs) trivial 0 false (fn := Tryz.f156) Tryz.func156 rfl (by decide) (by simp [Qbj.con]) Qbj.keep NN (fun _ => rfl) (fun x => Qbj.body NN x)
end
end Go.Ev.Tryz

namespace Go.Ev.Tryz
open Go.Proofs Go.Pl
set_option linter.unusedVariables false
noncomputable section
def Qv.st2 (p : List YA) (t2 : Int) (v9 : List ByteArray) (v10 : Int) (v11 : Int) : St := ⟨[.dat (.sl 70 (.pair (.int .i64) (.pair .str (.int .i64)))) p, .gone, .dat (.int .i64) t2, .gone, .gone, .gone, .gone, .gone, .gone, .dat (.sl 9 .str) v9, .dat (.int .i64) v10, .dat (.int .i64) v11, .gone, .gone, .gone, .gone, .gone, .gone, .gone, .gone, .gone], []⟩
def Qv.con : Con := { ps := [(.val, (.sl 70 (.pair (.int .i64) (.pair .str (.int .i64))))), (.val, (.sl 9 .str)), (.val, (.int .i64))], rs := [(.val, .bool)], F := fun x => Qv.f x.1 x.2.1 x.2.2 }
def Qv.cs : List (FuncId × Con) := [(131, Q1.con)]
def Qv.E : Env := envOf tab Qv.cs 0 false
def Qv.keep (i : Nat) : List Nat := if i = 2 then [0, 2, 9, 10, 11] else []
def Qv.at2 (n : Nat) (x : YD × List ByteArray × Int) : Code × (Ex → St → Option (Bool)) := ctx Qv.E Qv.keep n [.snd, .fst, .snd, .blk] (Vg Tryz.f157) (kEnd Qv.E Tryz.f157 Qv.con x)
def Qv.LN2 (n : Nat) (x : YD × List ByteArray × Int) : Nat → St → Option (Bool) := loopN (exec Qv.E Qv.keep n (Vj (Qv.at2 n x).1)) (St.norm 0 (Qv.keep 2)) (Qv.at2 n x).2
set_option maxRecDepth 100000 in
theorem Qv.lem2 (n : Nat) (x : YD × List ByteArray × Int) : ∀ (k : Nat) (p : List YA) (t2 : Int) (v9 : List ByteArray) (v10 : Int) (v11 : Int), Qv.LN2 n x k (Qv.st2 p t2 v9 v10 v11) = Qv.l2 n k p t2 v9 v10 v11 := by
 intro k
 induction k with
 | zero => intro p t2 v9 v10 v11; rfl
 | succ k ih =>
  intro p t2 v9 v10 v11
  have h : Qv.LN2 n x (k + 1) (Qv.st2 p t2 v9 v10 v11) = Qv.g2 (fun p t2 v9 v10 v11 => Qv.LN2 n x k (Qv.st2 p t2 v9 v10 v11)) p t2 v9 v10 v11 := by kernel_rfl
  rw [h]
  simp only [ih]
  rfl
set_option maxRecDepth 100000 in
theorem Qv.body (n : Nat) (x : YD × List ByteArray × Int) : bodyF Qv.E Qv.keep n Tryz.f157 Qv.con x = Qv.fn n x.1 x.2.1 x.2.2 := by
 have h : bodyF Qv.E Qv.keep n Tryz.f157 Qv.con x = Qv.top (fun p t2 v9 v10 v11 => Qv.LN2 n x n (Qv.st2 p t2 v9 v10 v11)) x.1 x.2.1 x.2.2 := by kernel_rfl
 rw [h]
 simp only [Qv.lem2]
 rfl
set_option maxRecDepth 100000 in
theorem Qv.good : Good Tryz.prog 157 Qv.con :=
 Vf tabok (cs := Qv.cs) ⟨Q1.good, trivial⟩ 0 false (fn := Tryz.f157) Tryz.func157 rfl (by decide) (by simp [Qv.con]) Qv.keep NN (fun _ => rfl) (fun x => Qv.body NN x)
end
end Go.Ev.Tryz

namespace Go.Ev.Tryz
open Go.Proofs Go.Pl
set_option linter.unusedVariables false
noncomputable section
def Qb.st1000019 (q : List Int) (r : List YA) (s : List ByteArray) (t : Int) (w : List Int) (y : List YC) (v : Int) (u : Int) (p : Bool × Bool × Bool × Bool × Bool × Int) (w2 : List Int) : St := ⟨[.dat (.sl 2 (.int .i64)) q, .gone, .dat (.sl 70 (.pair (.int .i64) (.pair .str (.int .i64)))) r, .dat (.sl 9 .str) s, .gone, .gone, .gone, .gone, .gone, .ref 0, .dat (.int .i64) t, .gone, .gone, .ptr 1 [], .gone, .gone, .gone, .gone, .gone, .gone, .gone, .gone, .gone, .gone, .gone, .gone, .gone, .gone, .gone, .gone, .gone, .gone, .gone, .gone, .gone, .gone, .gone, .gone, .gone, .gone, .gone, .gone, .gone, .gone, .gone, .gone, .gone, .gone, .gone, .gone, .gone, .gone, .gone, .gone, .gone, .gone, .gone, .gone, .gone, .gone, .gone, .gone, .gone, .gone, .gone, .gone, .gone, .gone, .gone, .gone, .gone, .gone, .gone, .gone, .gone, .gone, .gone, .gone, .gone, .gone, .gone, .gone, .gone, .gone, .gone], [.row 2 (.int .i64) w none, .box 137 (.pair (.sl 72 (.pair (.int .i64) (.int .i64))) (.pair (.int .i64) (.pair (.int .i64) (.pair (.pair .bool (.pair .bool (.pair .bool (.pair .bool (.pair .bool (.int .i64)))))) (.sl 2 (.int .i64)))))) (.pr (.dat (.sl 72 (.pair (.int .i64) (.int .i64))) y) (.pr (.dat (.int .i64) v) (.pr (.dat (.int .i64) u) (.pr (.dat (.pair .bool (.pair .bool (.pair .bool (.pair .bool (.pair .bool (.int .i64)))))) p) (.ref 2))))), .row 2 (.int .i64) w2 none]⟩
def Qb.st14 (q : List Int) (r : List YA) (s : List ByteArray) (t : Int) (v50 : List Int) (v51 : Int) (v52 : Int) (w : List Int) (y : List YC) (v : Int) (u : Int) (p : Bool × Bool × Bool × Bool × Bool × Int) (w2 : List Int) : St := ⟨[.dat (.sl 2 (.int .i64)) q, .gone, .dat (.sl 70 (.pair (.int .i64) (.pair .str (.int .i64)))) r, .dat (.sl 9 .str) s, .gone, .gone, .gone, .gone, .gone, .ref 0, .dat (.int .i64) t, .gone, .gone, .ptr 1 [], .gone, .gone, .gone, .gone, .gone, .gone, .gone, .gone, .gone, .gone, .gone, .gone, .gone, .gone, .gone, .gone, .gone, .gone, .gone, .gone, .gone, .gone, .gone, .gone, .gone, .gone, .gone, .gone, .gone, .gone, .gone, .gone, .gone, .gone, .gone, .gone, .dat (.sl 2 (.int .i64)) v50, .dat (.int .i64) v51, .dat (.int .i64) v52, .gone, .gone, .gone, .gone, .gone, .gone, .gone, .gone, .gone, .gone, .gone, .gone, .gone, .gone, .gone, .gone, .gone, .gone, .gone, .gone, .gone, .gone, .gone, .gone, .gone, .gone, .gone, .gone, .gone, .gone, .gone, .gone], [.row 2 (.int .i64) w none, .box 137 (.pair (.sl 72 (.pair (.int .i64) (.int .i64))) (.pair (.int .i64) (.pair (.int .i64) (.pair (.pair .bool (.pair .bool (.pair .bool (.pair .bool (.pair .bool (.int .i64)))))) (.sl 2 (.int .i64)))))) (.pr (.dat (.sl 72 (.pair (.int .i64) (.int .i64))) y) (.pr (.dat (.int .i64) v) (.pr (.dat (.int .i64) u) (.pr (.dat (.pair .bool (.pair .bool (.pair .bool (.pair .bool (.pair .bool (.int .i64)))))) p) (.ref 2))))), .row 2 (.int .i64) w2 none]⟩
def Qb.st1000012 (q : List Int) (r : List YA) (s : List ByteArray) (t : Int) (w : List Int) (y : List YC) (v : Int) (u : Int) (p : Bool × Bool × Bool × Bool × Bool × Int) (w2 : List Int) : St := ⟨[.dat (.sl 2 (.int .i64)) q, .gone, .dat (.sl 70 (.pair (.int .i64) (.pair .str (.int .i64)))) r, .dat (.sl 9 .str) s, .gone, .gone, .gone, .gone, .gone, .ref 0, .dat (.int .i64) t, .gone, .gone, .ptr 1 [], .gone, .gone, .gone, .gone, .gone, .gone, .gone, .gone, .gone, .gone, .gone, .gone, .gone, .gone, .gone, .gone, .gone, .gone, .gone, .gone, .gone, .gone, .gone, .gone, .gone, .gone, .gone, .gone, .gone, .gone, .gone, .gone, .gone, .gone, .gone, .gone, .gone, .gone, .gone, .gone, .gone, .gone, .gone, .gone, .gone, .gone, .gone, .gone, .gone, .gone, .gone, .gone, .gone, .gone, .gone, .gone, .gone, .gone, .gone, .gone, .gone, .gone, .gone, .gone, .gone, .gone, .gone, .gone, .gone, .gone, .gone], [.row 2 (.int .i64) w none, .box 137 (.pair (.sl 72 (.pair (.int .i64) (.int .i64))) (.pair (.int .i64) (.pair (.int .i64) (.pair (.pair .bool (.pair .bool (.pair .bool (.pair .bool (.pair .bool (.int .i64)))))) (.sl 2 (.int .i64)))))) (.pr (.dat (.sl 72 (.pair (.int .i64) (.int .i64))) y) (.pr (.dat (.int .i64) v) (.pr (.dat (.int .i64) u) (.pr (.dat (.pair .bool (.pair .bool (.pair .bool (.pair .bool (.pair .bool (.int .i64)))))) p) (.ref 2))))), .row 2 (.int .i64) w2 none]⟩
def Qb.st120000001 (w0 : List Int) (d0a : List YC) (b : Int) (a : Int) (z : Bool × Bool × Bool × Bool × Bool × Int) (w2' : List Int) : St := ⟨[.ptr 1 [], .gone, .gone, .gone, .gone, .gone, .gone, .gone, .gone, .gone, .gone, .gone, .gone, .gone, .gone, .gone, .gone, .gone, .gone, .gone, .gone, .gone, .gone, .gone, .gone, .gone, .gone, .gone, .gone, .gone, .gone, .gone, .gone, .gone, .gone, .gone, .gone, .gone, .gone, .gone, .gone, .gone, .gone, .gone, .gone, .gone, .gone, .gone, .gone, .gone, .gone, .gone, .gone, .gone, .gone, .gone, .gone, .gone, .gone, .gone, .gone, .gone, .gone, .gone, .gone, .gone, .gone, .gone, .gone, .gone, .gone, .gone, .gone, .gone, .gone, .gone, .gone], [.row 2 (.int .i64) w0 none, .box 137 (.pair (.sl 72 (.pair (.int .i64) (.int .i64))) (.pair (.int .i64) (.pair (.int .i64) (.pair (.pair .bool (.pair .bool (.pair .bool (.pair .bool (.pair .bool (.int .i64)))))) (.sl 2 (.int .i64)))))) (.pr (.dat (.sl 72 (.pair (.int .i64) (.int .i64))) d0a) (.pr (.dat (.int .i64) b) (.pr (.dat (.int .i64) a) (.pr (.dat (.pair .bool (.pair .bool (.pair .bool (.pair .bool (.pair .bool (.int .i64)))))) z) (.ref 2))))), .row 2 (.int .i64) w2' none]⟩
def Qb.tr0 (L120000001 : YQ) (q : List Int) (r : List YA) (s : List ByteArray) (t : Int) (w : List Int) (y : List YC) (v : Int) (u : Int) (p : Bool × Bool × Bool × Bool × Bool × Int) (w2 : List Int) (w0 : List Int) (d0a : List YC) (b : Int) (a : Int) (z : Bool × Bool × Bool × Bool × Bool × Int) (w2' : List Int) : Option YO :=
 if w2'.length + ([b]).length < room 8 then
  L120000001 q r s t w y v u p w2 w0 d0a (IntKind.i64.wrap (b + 1)) a z (w2' ++ ([b]))
 else
  none
def Qb.tr1 (L120000001 : YQ) (q : List Int) (r : List YA) (s : List ByteArray) (t : Int) (w : List Int) (y : List YC) (v : Int) (u : Int) (p : Bool × Bool × Bool × Bool × Bool × Int) (w2 : List Int) (w0 : List Int) (d0a : List YC) (b : Int) (a : Int) (z : Bool × Bool × Bool × Bool × Bool × Int) (w2' : List Int) : Option YO :=
 (Qau.f z ((d0a.getD (b : Int).toNat (0, 0)).2)).bind fun r1 =>
 if ((r1.2 : Int) == 0) = true then
  L120000001 q r s t w y v u p w2 w0 d0a (IntKind.i64.wrap (b + 1)) a r1.1 w2'
 else
  agree (
   Qb.tr0 L120000001 q r s t w y v u p w2 w0 d0a b a z w2'
  ) (
   agree (
    Qb.tr0 L120000001 q r s t w y v u p w2 w0 d0a b a z w2'
   ) (
    Qb.tr0 L120000001 q r s t w y v u p w2 w0 d0a b a z w2'
   )
  )
def Qb.tr2 (L120000001 : YQ) (q : List Int) (r : List YA) (s : List ByteArray) (t : Int) (w : List Int) (y : List YC) (v : Int) (u : Int) (p : Bool × Bool × Bool × Bool × Bool × Int) (w2 : List Int) (w0 : List Int) (d0a : List YC) (b : Int) (a : Int) (z : Bool × Bool × Bool × Bool × Bool × Int) (w2' : List Int) : Option YO :=
 agree (
  Qb.tr1 L120000001 q r s t w y v u p w2 w0 d0a b a z w2'
 ) (
  Qb.tr1 L120000001 q r s t w y v u p w2 w0 d0a b a z w2'
 )
def Qb.tr3 (L120000001 : YQ) (q : List Int) (r : List YA) (s : List ByteArray) (t : Int) (w : List Int) (y : List YC) (v : Int) (u : Int) (p : Bool × Bool × Bool × Bool × Bool × Int) (w2 : List Int) (w0 : List Int) (d0a : List YC) (b : Int) (a : Int) (z : Bool × Bool × Bool × Bool × Bool × Int) (w2' : List Int) : Option YO :=
 agree (
  Qb.tr2 L120000001 q r s t w y v u p w2 w0 d0a b a z w2'
 ) (
  Qb.tr1 L120000001 q r s t w y v u p w2 w0 d0a b a z w2'
 )
def Qb.tr4 (L120000001 : YQ) (q : List Int) (r : List YA) (s : List ByteArray) (t : Int) (w : List Int) (y : List YC) (v : Int) (u : Int) (p : Bool × Bool × Bool × Bool × Bool × Int) (w2 : List Int) (w0 : List Int) (d0a : List YC) (b : Int) (a : Int) (z : Bool × Bool × Bool × Bool × Bool × Int) (w2' : List Int) : Option YO :=
 if (0 : Int) ≤ b ∧ (b : Int) < d0a.length then
  Qb.tr1 L120000001 q r s t w y v u p w2 w0 d0a b a z w2'
 else
  none
def Qb.tr5 (L120000001 : YQ) (q : List Int) (r : List YA) (s : List ByteArray) (t : Int) (w : List Int) (y : List YC) (v : Int) (u : Int) (p : Bool × Bool × Bool × Bool × Bool × Int) (w2 : List Int) (w0 : List Int) (d0a : List YC) (b : Int) (a : Int) (z : Bool × Bool × Bool × Bool × Bool × Int) (w2' : List Int) : Option YO :=
 agree (
  if (0 : Int) ≤ b ∧ (b : Int) < d0a.length then
   Qb.tr3 L120000001 q r s t w y v u p w2 w0 d0a b a z w2'
  else
   none
 ) (
  Qb.tr4 L120000001 q r s t w y v u p w2 w0 d0a b a z w2'
 )
def Qb.tr6 (L120000001 : YQ) (q : List Int) (r : List YA) (s : List ByteArray) (t : Int) (w : List Int) (y : List YC) (v : Int) (u : Int) (p : Bool × Bool × Bool × Bool × Bool × Int) (w2 : List Int) (w0 : List Int) (d0a : List YC) (b : Int) (a : Int) (z : Bool × Bool × Bool × Bool × Bool × Int) (w2' : List Int) : Option YO :=
 agree (
  Qb.tr4 L120000001 q r s t w y v u p w2 w0 d0a b a z w2'
 ) (
  Qb.tr4 L120000001 q r s t w y v u p w2 w0 d0a b a z w2'
 )
def Qb.tr7 (L120000001 : YQ) (q : List Int) (r : List YA) (s : List ByteArray) (t : Int) (w : List Int) (y : List YC) (v : Int) (u : Int) (p : Bool × Bool × Bool × Bool × Bool × Int) (w2 : List Int) (w0 : List Int) (d0a : List YC) (b : Int) (a : Int) (z : Bool × Bool × Bool × Bool × Bool × Int) (w2' : List Int) : Option YO :=
 agree (
  Qb.tr4 L120000001 q r s t w y v u p w2 w0 d0a b a z w2'
 ) (
  if (0 : Int) ≤ b ∧ (b : Int) < d0a.length then
   Qb.tr2 L120000001 q r s t w y v u p w2 w0 d0a b a z w2'
  else
   none
 )
def Qb.tr8 (L120000001 : YQ) (q : List Int) (r : List YA) (s : List ByteArray) (t : Int) (w : List Int) (y : List YC) (v : Int) (u : Int) (p : Bool × Bool × Bool × Bool × Bool × Int) (w2 : List Int) (w0 : List Int) (d0a : List YC) (b : Int) (a : Int) (z : Bool × Bool × Bool × Bool × Bool × Int) (w2' : List Int) : Option YO :=
 agree (
  Qb.tr5 L120000001 q r s t w y v u p w2 w0 d0a b a z w2'
 ) (
  agree (
   if (0 : Int) ≤ b ∧ (b : Int) < d0a.length then
    agree (
     Qb.tr3 L120000001 q r s t w y v u p w2 w0 d0a b a z w2'
    ) (
     agree (
      Qb.tr3 L120000001 q r s t w y v u p w2 w0 d0a b a z w2'
     ) (
      Qb.tr2 L120000001 q r s t w y v u p w2 w0 d0a b a z w2'
     )
    )
   else
    none
  ) (
   Qb.tr7 L120000001 q r s t w y v u p w2 w0 d0a b a z w2'
  )
 )
def Qb.g120000001raw (I1000012 : YP) (L10 : YP) (L120000001 : YQ) (q : List Int) (r : List YA) (s : List ByteArray) (t : Int) (w : List Int) (y : List YC) (v : Int) (u : Int) (p : Bool × Bool × Bool × Bool × Bool × Int) (w2 : List Int) (w0 : List Int) (d0a : List YC) (b : Int) (a : Int) (z : Bool × Bool × Bool × Bool × Bool × Int) (w2' : List Int) : Option YO :=
 if (decide ((b : Int) < (d0a.length : Int))) = true then
  if (0 : Int) ≤ b ∧ (b : Int) < d0a.length then
   if ((((d0a.getD (b : Int).toNat (0, 0)).1) : Int) == a) = true then
    agree (
     agree (
      Qb.tr5 L120000001 q r s t w y v u p w2 w0 d0a b a z w2'
     ) (
      agree (
       Qb.tr5 L120000001 q r s t w y v u p w2 w0 d0a b a z w2'
      ) (
       Qb.tr6 L120000001 q r s t w y v u p w2 w0 d0a b a z w2'
      )
     )
    ) (
     agree (
      Qb.tr8 L120000001 q r s t w y v u p w2 w0 d0a b a z w2'
     ) (
      agree (
       Qb.tr8 L120000001 q r s t w y v u p w2 w0 d0a b a z w2'
      ) (
       agree (
        Qb.tr6 L120000001 q r s t w y v u p w2 w0 d0a b a z w2'
       ) (
        agree (
         Qb.tr7 L120000001 q r s t w y v u p w2 w0 d0a b a z w2'
        ) (
         Qb.tr7 L120000001 q r s t w y v u p w2 w0 d0a b a z w2'
        )
       )
      )
     )
    )
   else
    I1000012 q r s t w0 d0a b a z w2'
  else
   none
 else
  I1000012 q r s t w0 d0a b a z w2'
theorem Qb.g120000001raw_eq (I1000012 : YP) (L10 : YP) (L120000001 : YQ) (q : List Int) (r : List YA) (s : List ByteArray) (t : Int) (w : List Int) (y : List YC) (v : Int) (u : Int) (p : Bool × Bool × Bool × Bool × Bool × Int) (w2 : List Int) (w0 : List Int) (d0a : List YC) (b : Int) (a : Int) (z : Bool × Bool × Bool × Bool × Bool × Int) (w2' : List Int) : Qb.g120000001raw I1000012 L10 L120000001 q r s t w y v u p w2 w0 d0a b a z w2' = Qb.g120000001 I1000012 L10 L120000001 q r s t w y v u p w2 w0 d0a b a z w2' := by
 unfold Qb.g120000001raw Qb.g120000001
 simp only [Vt, Qb.tr0, Qb.tr1, Qb.tr2, Qb.tr3, Qb.tr4, Qb.tr5, Qb.tr6, Qb.tr7, Qb.tr8]
def Qb.st1000011 (q : List Int) (r : List YA) (s : List ByteArray) (t : Int) (w : List Int) (y : List YC) (v : Int) (u : Int) (p : Bool × Bool × Bool × Bool × Bool × Int) (w2 : List Int) : St := ⟨[.dat (.sl 2 (.int .i64)) q, .gone, .dat (.sl 70 (.pair (.int .i64) (.pair .str (.int .i64)))) r, .dat (.sl 9 .str) s, .gone, .gone, .gone, .gone, .gone, .ref 0, .dat (.int .i64) t, .gone, .gone, .ptr 1 [], .gone, .gone, .gone, .gone, .gone, .gone, .gone, .gone, .gone, .gone, .gone, .gone, .gone, .gone, .gone, .gone, .gone, .gone, .gone, .gone, .gone, .gone, .gone, .gone, .gone, .gone, .gone, .gone, .gone, .gone, .gone, .gone, .gone, .gone, .gone, .gone, .gone, .gone, .gone, .gone, .gone, .gone, .gone, .gone, .gone, .gone, .gone, .gone, .gone, .gone, .gone, .gone, .gone, .gone, .gone, .gone, .gone, .gone, .gone, .gone, .gone, .gone, .gone, .gone, .gone, .gone, .gone, .gone, .gone, .gone, .gone], [.row 2 (.int .i64) w none, .box 137 (.pair (.sl 72 (.pair (.int .i64) (.int .i64))) (.pair (.int .i64) (.pair (.int .i64) (.pair (.pair .bool (.pair .bool (.pair .bool (.pair .bool (.pair .bool (.int .i64)))))) (.sl 2 (.int .i64)))))) (.pr (.dat (.sl 72 (.pair (.int .i64) (.int .i64))) y) (.pr (.dat (.int .i64) v) (.pr (.dat (.int .i64) u) (.pr (.dat (.pair .bool (.pair .bool (.pair .bool (.pair .bool (.pair .bool (.int .i64)))))) p) (.ref 2))))), .row 2 (.int .i64) w2 none]⟩
def Qb.st10 (q : List Int) (r : List YA) (s : List ByteArray) (t : Int) (w : List Int) (y : List YC) (v : Int) (u : Int) (p : Bool × Bool × Bool × Bool × Bool × Int) (w2 : List Int) : St := ⟨[.dat (.sl 2 (.int .i64)) q, .gone, .dat (.sl 70 (.pair (.int .i64) (.pair .str (.int .i64)))) r, .dat (.sl 9 .str) s, .gone, .gone, .gone, .gone, .gone, .ref 0, .dat (.int .i64) t, .gone, .gone, .ptr 1 [], .gone, .gone, .gone, .gone, .gone, .gone, .gone, .gone, .gone, .gone, .gone, .gone, .gone, .gone, .gone, .gone, .gone, .gone, .gone, .gone, .gone, .gone, .gone, .gone, .gone, .gone, .gone, .gone, .gone, .gone, .gone, .gone, .gone, .gone, .gone, .gone, .gone, .gone, .gone, .gone, .gone, .gone, .gone, .gone, .gone, .gone, .gone, .gone, .gone, .gone, .gone, .gone, .gone, .gone, .gone, .gone, .gone, .gone, .gone, .gone, .gone, .gone, .gone, .gone, .gone, .gone, .gone, .gone, .gone, .gone, .gone], [.row 2 (.int .i64) w none, .box 137 (.pair (.sl 72 (.pair (.int .i64) (.int .i64))) (.pair (.int .i64) (.pair (.int .i64) (.pair (.pair .bool (.pair .bool (.pair .bool (.pair .bool (.pair .bool (.int .i64)))))) (.sl 2 (.int .i64)))))) (.pr (.dat (.sl 72 (.pair (.int .i64) (.int .i64))) y) (.pr (.dat (.int .i64) v) (.pr (.dat (.int .i64) u) (.pr (.dat (.pair .bool (.pair .bool (.pair .bool (.pair .bool (.pair .bool (.int .i64)))))) p) (.ref 2))))), .row 2 (.int .i64) w2 none]⟩
def Qb.st4 (q : List Int) (c : List YC) (r : List YA) (s : List ByteArray) (t : Int) (v19 : List Int) (v20 : Int) (v21 : Int) (w : List Int) : St := ⟨[.dat (.sl 2 (.int .i64)) q, .dat (.sl 72 (.pair (.int .i64) (.int .i64))) c, .dat (.sl 70 (.pair (.int .i64) (.pair .str (.int .i64)))) r, .dat (.sl 9 .str) s, .gone, .gone, .gone, .gone, .gone, .ref 0, .dat (.int .i64) t, .gone, .gone, .gone, .gone, .gone, .gone, .gone, .gone, .dat (.sl 2 (.int .i64)) v19, .dat (.int .i64) v20, .dat (.int .i64) v21, .gone, .gone, .gone, .gone, .gone, .gone, .gone, .gone, .gone, .gone, .gone, .gone, .gone, .gone, .gone, .gone, .gone, .gone, .gone, .gone, .gone, .gone, .gone, .gone, .gone, .gone, .gone, .gone, .gone, .gone, .gone, .gone, .gone, .gone, .gone, .gone, .gone, .gone, .gone, .gone, .gone, .gone, .gone, .gone, .gone, .gone, .gone, .gone, .gone, .gone, .gone, .gone, .gone, .gone, .gone, .gone, .gone, .gone, .gone, .gone, .gone, .gone, .gone], [.row 2 (.int .i64) w none]⟩
def Qb.con : Con := { ps := [(.val, (.sl 2 (.int .i64))), (.val, (.sl 72 (.pair (.int .i64) (.int .i64)))), (.val, (.sl 70 (.pair (.int .i64) (.pair .str (.int .i64))))), (.val, (.sl 9 .str))], rs := [(.own, (.sl 2 (.int .i64)))], F := fun x => Qb.f x.1 x.2.1 x.2.2.1 x.2.2.2 }
def Qb.cs : List (FuncId × Con) := [(153, Qau.con), (156, Qbj.con), (157, Qv.con)]
def Qb.E : Env := envOf tab Qb.cs 0 false
def Qb.I (f : FuncId) : Option Func := if f = 132 then some Tryz.f132 else if f = 133 then some Tryz.f133 else none
theorem Qb.hI : ∀ f fn, Qb.I f = some fn → Tryz.prog.funcs[f]? = some fn ∧ fn.body.isSome = true ∧ fn.name ≠ "runtime.NumGoroutine" := by
  intro f fn h
  unfold Qb.I at h
  split at h
  · rename_i e; subst e; cases h; exact ⟨Tryz.func132, rfl, by decide⟩
  split at h
  · rename_i e; subst e; cases h; exact ⟨Tryz.func133, rfl, by decide⟩
  cases h
def Qb.keep (i : Nat) : List Nat := if i = 1000019 then [0, 2, 3, 9, 10, 13] else if i = 14 then [0, 2, 3, 9, 10, 13, 50, 51, 52] else if i = 1000012 then [0, 2, 3, 9, 10, 13] else if i = 120000001 then [0, 200000] else if i = 1000011 then [0, 2, 3, 9, 10, 13] else if i = 10 then [0, 2, 3, 9, 10, 13, 200013] else if i = 4 then [0, 1, 2, 3, 9, 10, 19, 20, 21] else []
def Qb.at1000019 (n : Nat) (x : List Int × YE × YD × List ByteArray) (M10 : St → Option (YO)) : Code × (Ex → St → Option (YO)) := ctxI Qb.E Qb.I Qb.keep n [.snd, .snd, .snd, .snd, .snd, .fst, .blk, .rd M10, .snd, .blk, .snd, .snd] (Vg Tryz.f135) (kEnd Qb.E Tryz.f135 Qb.con x)
def Qb.LN1000019 (n : Nat) (x : List Int × YE × YD × List ByteArray) (M10 : St → Option (YO)) : Nat → St → Option (YO) := cutN (execI Qb.E Qb.I Qb.keep n (Qb.at1000019 n x M10).1 (Qb.at1000019 n x M10).2)
def Qb.at14 (n : Nat) (x : List Int × YE × YD × List ByteArray) (M10 : St → Option (YO)) : Code × (Ex → St → Option (YO)) := ctxI Qb.E Qb.I Qb.keep n [.snd, .snd, .snd, .snd, .snd, .fst, .blk, .rd M10, .snd, .blk, .snd, .fst, .snd, .yes, .snd, .blk] (Vg Tryz.f135) (kEnd Qb.E Tryz.f135 Qb.con x)
def Qb.LN14 (n : Nat) (x : List Int × YE × YD × List ByteArray) (M10 : St → Option (YO)) : Nat → St → Option (YO) := loopN (execI Qb.E Qb.I Qb.keep n (Vj (Qb.at14 n x M10).1)) (St.norm 0 (Qb.keep 14)) (Qb.at14 n x M10).2
def Qb.at1000012 (n : Nat) (x : List Int × YE × YD × List ByteArray) (M10 : St → Option (YO)) : Code × (Ex → St → Option (YO)) := ctxI Qb.E Qb.I Qb.keep n [.snd, .snd, .snd, .snd, .snd, .fst, .blk, .rd M10, .snd, .blk, .snd] (Vg Tryz.f135) (kEnd Qb.E Tryz.f135 Qb.con x)
def Qb.LN1000012 (n : Nat) (x : List Int × YE × YD × List ByteArray) (M10 : St → Option (YO)) : Nat → St → Option (YO) := cutN (execI Qb.E Qb.I Qb.keep n (Qb.at1000012 n x M10).1 (Qb.at1000012 n x M10).2)
def Qb.at120000001 (n : Nat) (x : List Int × YE × YD × List ByteArray) (M10 : St → Option (YO)) (q : List Int) (r : List YA) (s : List ByteArray) (t : Int) (w : List Int) (y : List YC) (v : Int) (u : Int) (p : Bool × Bool × Bool × Bool × Bool × Int) (w2 : List Int) : Code × (Ex → St → Option (YO)) := ctx (envIn Qb.E 2) (VaF Qb.keep 11) n [.blk] (Vg Tryz.f132) (kIn ((ctxI Qb.E Qb.I Qb.keep n [.snd, .snd, .snd, .snd, .snd, .fst, .blk, .rd M10, .snd, .blk, .fst] (Vg Tryz.f135) (kEnd Qb.E Tryz.f135 Qb.con x)).2 .normal) [.dat (.sl 2 (.int .i64)) q, .gone, .dat (.sl 70 (.pair (.int .i64) (.pair .str (.int .i64)))) r, .dat (.sl 9 .str) s, .gone, .gone, .gone, .gone, .gone, .ref 0, .dat (.int .i64) t, .gone, .gone, .ptr 1 [], .gone, .gone, .gone, .gone, .gone, .gone, .gone, .gone, .gone, .gone, .gone, .gone, .gone, .gone, .gone, .gone, .gone, .gone, .gone, .gone, .gone, .gone, .gone, .gone, .gone, .gone, .gone, .gone, .gone, .ptr 1 [], .gone, .gone, .gone, .gone, .gone, .gone, .gone, .gone, .gone, .gone, .gone, .gone, .gone, .gone, .gone, .gone, .gone, .gone, .gone, .gone, .gone, .gone, .gone, .gone, .gone, .gone, .gone, .gone, .gone, .gone, .gone, .gone, .gone, .gone, .gone, .gone, .gone, .gone, .gone, .gone, .gone] (some 44))
def Qb.LN120000001 (n : Nat) (x : List Int × YE × YD × List ByteArray) (M10 : St → Option (YO)) (q : List Int) (r : List YA) (s : List ByteArray) (t : Int) (w : List Int) (y : List YC) (v : Int) (u : Int) (p : Bool × Bool × Bool × Bool × Bool × Int) (w2 : List Int) : Nat → St → Option (YO) := loopN (exec (envIn Qb.E 2) (VaF Qb.keep 11) n (Vj (Qb.at120000001 n x M10 q r s t w y v u p w2).1)) (St.norm 2 (VaF Qb.keep 11 1)) (Qb.at120000001 n x M10 q r s t w y v u p w2).2
def Qb.at1000011 (n : Nat) (x : List Int × YE × YD × List ByteArray) (M10 : St → Option (YO)) : Code × (Ex → St → Option (YO)) := ctxI Qb.E Qb.I Qb.keep n [.snd, .snd, .snd, .snd, .snd, .fst, .blk, .rd M10, .snd] (Vg Tryz.f135) (kEnd Qb.E Tryz.f135 Qb.con x)
def Qb.LN1000011 (n : Nat) (x : List Int × YE × YD × List ByteArray) (M10 : St → Option (YO)) : Nat → St → Option (YO) := cutN (execI Qb.E Qb.I Qb.keep n (Qb.at1000011 n x M10).1 (Qb.at1000011 n x M10).2)
def Qb.at10 (n : Nat) (x : List Int × YE × YD × List ByteArray) : Code × (Ex → St → Option (YO)) := ctxI Qb.E Qb.I Qb.keep n [.snd, .snd, .snd, .snd, .snd, .fst, .blk] (Vg Tryz.f135) (kEnd Qb.E Tryz.f135 Qb.con x)
def Qb.LN10 (n : Nat) (x : List Int × YE × YD × List ByteArray) : Nat → St → Option (YO) := loopN (execI Qb.E Qb.I Qb.keep n (Vj (Qb.at10 n x).1)) (St.norm 0 (Qb.keep 10)) (Qb.at10 n x).2
def Qb.at4 (n : Nat) (x : List Int × YE × YD × List ByteArray) : Code × (Ex → St → Option (YO)) := ctxI Qb.E Qb.I Qb.keep n [.snd, .snd, .snd, .fst, .snd, .blk] (Vg Tryz.f135) (kEnd Qb.E Tryz.f135 Qb.con x)
def Qb.LN4 (n : Nat) (x : List Int × YE × YD × List ByteArray) : Nat → St → Option (YO) := loopN (execI Qb.E Qb.I Qb.keep n (Vj (Qb.at4 n x).1)) (St.norm 0 (Qb.keep 4)) (Qb.at4 n x).2
set_option maxRecDepth 100000 in
theorem Qb.lem1000019 (n : Nat) (x : List Int × YE × YD × List ByteArray) (M10 : St → Option (YO)) : ∀ (k : Nat) (q : List Int) (r : List YA) (s : List ByteArray) (t : Int) (w : List Int) (y : List YC) (v : Int) (u : Int) (p : Bool × Bool × Bool × Bool × Bool × Int) (w2 : List Int), Qb.LN1000019 n x M10 k (Qb.st1000019 q r s t w y v u p w2) = Qb.l1000019 n (fun q r s t w y v u p w2 => M10 (Qb.st10 q r s t w y v u p w2)) k q r s t w y v u p w2 := by
 intro k
 induction k with
 | zero => intro q r s t w y v u p w2; rfl
 | succ k ih =>
  intro q r s t w y v u p w2
  have h : Qb.LN1000019 n x M10 (k + 1) (Qb.st1000019 q r s t w y v u p w2) = Qb.g1000019 (fun q r s t w y v u p w2 => M10 (Qb.st10 q r s t w y v u p w2)) (fun q r s t w y v u p w2 => Qb.LN1000019 n x M10 k (Qb.st1000019 q r s t w y v u p w2)) q r s t w y v u p w2 := by kernel_rfl
  rw [h]
  simp only [ih]
  rfl
set_option maxRecDepth 100000 in
theorem Qb.lem14 (n : Nat) (x : List Int × YE × YD × List ByteArray) (M10 : St → Option (YO)) : ∀ (k : Nat) (q : List Int) (r : List YA) (s : List ByteArray) (t : Int) (v50 : List Int) (v51 : Int) (v52 : Int) (w : List Int) (y : List YC) (v : Int) (u : Int) (p : Bool × Bool × Bool × Bool × Bool × Int) (w2 : List Int), Qb.LN14 n x M10 k (Qb.st14 q r s t v50 v51 v52 w y v u p w2) = Qb.l14 n (fun q r s t w y v u p w2 => M10 (Qb.st10 q r s t w y v u p w2)) k q r s t v50 v51 v52 w y v u p w2 := by
 intro k
 induction k with
 | zero => intro q r s t v50 v51 v52 w y v u p w2; rfl
 | succ k ih =>
  intro q r s t v50 v51 v52 w y v u p w2
  have h : Qb.LN14 n x M10 (k + 1) (Qb.st14 q r s t v50 v51 v52 w y v u p w2) = Qb.g14 (fun q r s t w y v u p w2 => Qb.LN1000019 n x M10 n (Qb.st1000019 q r s t w y v u p w2)) (fun q r s t w y v u p w2 => M10 (Qb.st10 q r s t w y v u p w2)) (fun q r s t v50 v51 v52 w y v u p w2 => Qb.LN14 n x M10 k (Qb.st14 q r s t v50 v51 v52 w y v u p w2)) q r s t v50 v51 v52 w y v u p w2 := by kernel_rfl
  rw [h]
  simp only [ih, Qb.lem1000019]
  rfl
set_option maxRecDepth 100000 in
theorem Qb.lem1000012 (n : Nat) (x : List Int × YE × YD × List ByteArray) (M10 : St → Option (YO)) : ∀ (k : Nat) (q : List Int) (r : List YA) (s : List ByteArray) (t : Int) (w : List Int) (y : List YC) (v : Int) (u : Int) (p : Bool × Bool × Bool × Bool × Bool × Int) (w2 : List Int), Qb.LN1000012 n x M10 k (Qb.st1000012 q r s t w y v u p w2) = Qb.l1000012 n (fun q r s t w y v u p w2 => M10 (Qb.st10 q r s t w y v u p w2)) k q r s t w y v u p w2 := by
 intro k
 induction k with
 | zero => intro q r s t w y v u p w2; rfl
 | succ k ih =>
  intro q r s t w y v u p w2
  have h : Qb.LN1000012 n x M10 (k + 1) (Qb.st1000012 q r s t w y v u p w2) = Qb.g1000012 (fun q r s t v50 v51 v52 w y v u p w2 => Qb.LN14 n x M10 n (Qb.st14 q r s t v50 v51 v52 w y v u p w2)) (fun q r s t w y v u p w2 => Qb.LN1000019 n x M10 n (Qb.st1000019 q r s t w y v u p w2)) (fun q r s t w y v u p w2 => M10 (Qb.st10 q r s t w y v u p w2)) (fun q r s t w y v u p w2 => Qb.LN1000012 n x M10 k (Qb.st1000012 q r s t w y v u p w2)) q r s t w y v u p w2 := by kernel_rfl
  rw [h]
  simp only [ih, Qb.lem14, Qb.lem1000019]
  rfl
set_option maxRecDepth 100000 in
theorem Qb.lem120000001 (n : Nat) (x : List Int × YE × YD × List ByteArray) (M10 : St → Option (YO)) : ∀ (k : Nat) (q : List Int) (r : List YA) (s : List ByteArray) (t : Int) (w : List Int) (y : List YC) (v : Int) (u : Int) (p : Bool × Bool × Bool × Bool × Bool × Int) (w2 : List Int) (w0 : List Int) (d0a : List YC) (b : Int) (a : Int) (z : Bool × Bool × Bool × Bool × Bool × Int) (w2' : List Int), Qb.LN120000001 n x M10 q r s t w y v u p w2 k (Qb.st120000001 w0 d0a b a z w2') = Qb.l120000001 n (fun q r s t w y v u p w2 => M10 (Qb.st10 q r s t w y v u p w2)) k q r s t w y v u p w2 w0 d0a b a z w2' := by
 intro k
 induction k with
 | zero => intro q r s t w y v u p w2 w0 d0a b a z w2'; rfl
 | succ k ih =>
  intro q r s t w y v u p w2 w0 d0a b a z w2'
  have h : Qb.LN120000001 n x M10 q r s t w y v u p w2 (k + 1) (Qb.st120000001 w0 d0a b a z w2') = Qb.g120000001raw (fun q r s t w y v u p w2 => Qb.LN1000012 n x M10 n (Qb.st1000012 q r s t w y v u p w2)) (fun q r s t w y v u p w2 => M10 (Qb.st10 q r s t w y v u p w2)) (fun q r s t w y v u p w2 w0 d0a b a z w2' => Qb.LN120000001 n x M10 q r s t w y v u p w2 k (Qb.st120000001 w0 d0a b a z w2')) q r s t w y v u p w2 w0 d0a b a z w2' := by kernel_rfl
  rw [Qb.g120000001raw_eq] at h
  rw [h]
  simp only [ih, Qb.lem1000012]
  rfl
set_option maxRecDepth 100000 in
theorem Qb.lem1000011 (n : Nat) (x : List Int × YE × YD × List ByteArray) (M10 : St → Option (YO)) : ∀ (k : Nat) (q : List Int) (r : List YA) (s : List ByteArray) (t : Int) (w : List Int) (y : List YC) (v : Int) (u : Int) (p : Bool × Bool × Bool × Bool × Bool × Int) (w2 : List Int), Qb.LN1000011 n x M10 k (Qb.st1000011 q r s t w y v u p w2) = Qb.l1000011 n (fun q r s t w y v u p w2 => M10 (Qb.st10 q r s t w y v u p w2)) k q r s t w y v u p w2 := by
 intro k
 induction k with
 | zero => intro q r s t w y v u p w2; rfl
 | succ k ih =>
  intro q r s t w y v u p w2
  have h : Qb.LN1000011 n x M10 (k + 1) (Qb.st1000011 q r s t w y v u p w2) = Qb.g1000011 (fun q r s t w y v u p w2 w0 d0a b a z w2' => Qb.LN120000001 n x M10 q r s t w y v u p w2 n (Qb.st120000001 w0 d0a b a z w2')) (fun q r s t w y v u p w2 => M10 (Qb.st10 q r s t w y v u p w2)) (fun q r s t w y v u p w2 => Qb.LN1000011 n x M10 k (Qb.st1000011 q r s t w y v u p w2)) q r s t w y v u p w2 := by kernel_rfl
  rw [h]
  simp only [ih, Qb.lem120000001]
  rfl
set_option maxRecDepth 100000 in
theorem Qb.lem10 (n : Nat) (x : List Int × YE × YD × List ByteArray) : ∀ (k : Nat) (q : List Int) (r : List YA) (s : List ByteArray) (t : Int) (w : List Int) (y : List YC) (v : Int) (u : Int) (p : Bool × Bool × Bool × Bool × Bool × Int) (w2 : List Int), Qb.LN10 n x k (Qb.st10 q r s t w y v u p w2) = Qb.l10 n k q r s t w y v u p w2 := by
 intro k
 induction k with
 | zero => intro q r s t w y v u p w2; rfl
 | succ k ih =>
  intro q r s t w y v u p w2
  have h : Qb.LN10 n x (k + 1) (Qb.st10 q r s t w y v u p w2) = Qb.g10 (fun q r s t w y v u p w2 => Qb.LN1000011 n x (Qb.LN10 n x k) n (Qb.st1000011 q r s t w y v u p w2)) (fun q r s t w y v u p w2 => Qb.LN10 n x k (Qb.st10 q r s t w y v u p w2)) q r s t w y v u p w2 := by kernel_rfl
  rw [h]
  simp only [ih, Qb.lem1000011]
  rfl
set_option maxRecDepth 100000 in
theorem Qb.lem4 (n : Nat) (x : List Int × YE × YD × List ByteArray) : ∀ (k : Nat) (q : List Int) (c : List YC) (r : List YA) (s : List ByteArray) (t : Int) (v19 : List Int) (v20 : Int) (v21 : Int) (w : List Int), Qb.LN4 n x k (Qb.st4 q c r s t v19 v20 v21 w) = Qb.l4 n k q c r s t v19 v20 v21 w := by
 intro k
 induction k with
 | zero => intro q c r s t v19 v20 v21 w; rfl
 | succ k ih =>
  intro q c r s t v19 v20 v21 w
  have h : Qb.LN4 n x (k + 1) (Qb.st4 q c r s t v19 v20 v21 w) = Qb.g4 (fun q r s t w y v u p w2 => Qb.LN10 n x n (Qb.st10 q r s t w y v u p w2)) (fun q c r s t v19 v20 v21 w => Qb.LN4 n x k (Qb.st4 q c r s t v19 v20 v21 w)) q c r s t v19 v20 v21 w := by kernel_rfl
  rw [h]
  simp only [ih, Qb.lem10]
  rfl
set_option maxRecDepth 100000 in
theorem Qb.body (n : Nat) (x : List Int × YE × YD × List ByteArray) : VcD Qb.E Qb.I Qb.keep n Tryz.f135 Qb.con x = Qb.fn n x.1 x.2.1 x.2.2.1 x.2.2.2 := by
 have h : VcD Qb.E Qb.I Qb.keep n Tryz.f135 Qb.con x = Qb.top (fun q c r s t v19 v20 v21 w => Qb.LN4 n x n (Qb.st4 q c r s t v19 v20 v21 w)) x.1 x.2.1 x.2.2.1 x.2.2.2 := by kernel_rfl
 rw [h]
 simp only [Qb.lem4]
 rfl
set_option maxRecDepth 100000 in
theorem Qb.good : Good Tryz.prog 135 Qb.con :=
 Vfu tabok (cs := Qb.cs) ⟨Qau.good, Qbj.good, Qv.good, trivial⟩ 0 false (fn := Tryz.f135) Tryz.func135 rfl (by decide) (by simp [Qb.con]) Qb.keep NN (fun _ => rfl) Qb.hI (fun x => Qb.body NN x)
end
end Go.Ev.Tryz

namespace Go.Ev.Tryz
open Go.Proofs Go.Pl
set_option linter.unusedVariables false
noncomputable section
def Qax.con : Con := { ps := [(.val, (.sl 2 (.int .i64))), (.val, (.sl 72 (.pair (.int .i64) (.int .i64)))), (.val, (.sl 70 (.pair (.int .i64) (.pair .str (.int .i64))))), (.val, (.sl 9 .str))], rs := [(.own, (.sl 2 (.int .i64))), (.own, (.int .i64))], F := fun x => Qax.f x.1 x.2.1 x.2.2.1 x.2.2.2 }
def Qax.cs : List (FuncId × Con) := [(134, QaX.con), (135, Qb.con)]
def Qax.E : Env := envOf tab Qax.cs 0 false
def Qax.keep (i : Nat) : List Nat := []
set_option maxRecDepth 100000 in
theorem Qax.body (n : Nat) (x : List Int × YE × YD × List ByteArray) : bodyF Qax.E Qax.keep n Tryz.f105 Qax.con x = Qax.fn n x.1 x.2.1 x.2.2.1 x.2.2.2 := by
 have h : bodyF Qax.E Qax.keep n Tryz.f105 Qax.con x = Qax.top x.1 x.2.1 x.2.2.1 x.2.2.2 := by kernel_rfl
 exact h
set_option maxRecDepth 100000 in
theorem Qax.good : Good Tryz.prog 105 Qax.con :=
 Vf tabok (cs := Qax.cs) ⟨QaX.good, Qb.good, trivial⟩ 0 false (fn := Tryz.f105) Tryz.func105 rfl (by decide) (by simp [Qax.con]) Qax.keep NN (fun _ => rfl) (fun x => Qax.body NN x)
end
end Go.Ev.Tryz

namespace Go.Ev.Tryz
open Go.Proofs Go.Pl
set_option linter.unusedVariables false
noncomputable section
def QU.st3 (p : ByteArray) (v9 : List YA) (v10 : Int) (v11 : Int) (q : List Int) : St := ⟨[.gone, .dat .str p, .gone, .gone, .gone, .ref 0, .gone, .gone, .gone, .dat (.sl 74 (.pair (.int .i64) (.pair .str (.int .i64)))) v9, .dat (.int .i64) v10, .dat (.int .i64) v11, .gone, .gone, .gone, .gone, .gone, .gone, .gone, .gone, .gone, .gone, .gone, .gone, .gone, .gone, .gone, .gone, .gone, .gone], [.row 2 (.int .i64) q none]⟩
def QU.con : Con := { ps := [(.val, (.sl 74 (.pair (.int .i64) (.pair .str (.int .i64))))), (.val, .str)], rs := [(.own, (.sl 2 (.int .i64)))], F := fun x => QU.f x.1 x.2 }
def QU.cs : List (FuncId × Con) := []
def QU.E : Env := envOf tab QU.cs 0 false
def QU.keep (i : Nat) : List Nat := if i = 3 then [1, 5, 9, 10, 11] else []
def QU.at3 (n : Nat) (x : YD × ByteArray) : Code × (Ex → St → Option (YO)) := ctx QU.E QU.keep n [.snd, .snd, .fst, .snd, .blk] (Vg Tryz.f117) (kEnd QU.E Tryz.f117 QU.con x)
def QU.LN3 (n : Nat) (x : YD × ByteArray) : Nat → St → Option (YO) := loopN (exec QU.E QU.keep n (Vj (QU.at3 n x).1)) (St.norm 0 (QU.keep 3)) (QU.at3 n x).2
set_option maxRecDepth 100000 in
theorem QU.lem3 (n : Nat) (x : YD × ByteArray) : ∀ (k : Nat) (p : ByteArray) (v9 : List YA) (v10 : Int) (v11 : Int) (q : List Int), QU.LN3 n x k (QU.st3 p v9 v10 v11 q) = QU.l3 n k p v9 v10 v11 q := by
 intro k
 induction k with
 | zero => intro p v9 v10 v11 q; rfl
 | succ k ih =>
  intro p v9 v10 v11 q
  have h : QU.LN3 n x (k + 1) (QU.st3 p v9 v10 v11 q) = QU.g3 (fun p v9 v10 v11 q => QU.LN3 n x k (QU.st3 p v9 v10 v11 q)) p v9 v10 v11 q := by kernel_rfl
  rw [h]
  simp only [ih]
  rfl
set_option maxRecDepth 100000 in
theorem QU.body (n : Nat) (x : YD × ByteArray) : bodyF QU.E QU.keep n Tryz.f117 QU.con x = QU.fn n x.1 x.2 := by
 have h : bodyF QU.E QU.keep n Tryz.f117 QU.con x = QU.top (fun p v9 v10 v11 q => QU.LN3 n x n (QU.st3 p v9 v10 v11 q)) x.1 x.2 := by kernel_rfl
 rw [h]
 simp only [QU.lem3]
 rfl
set_option maxRecDepth 100000 in
theorem QU.good : Good Tryz.prog 117 QU.con :=
 Vf tabok (cs := QU.cs) trivial 0 false (fn := Tryz.f117) Tryz.func117 rfl (by decide) (by simp [QU.con]) QU.keep NN (fun _ => rfl) (fun x => QU.body NN x)
end
end Go.Ev.Tryz

namespace Go.Ev.Tryz
open Go.Proofs Go.Pl
set_option linter.unusedVariables false
noncomputable section
def Qan.con : Con := { ps := [(.val, (.sl 74 (.pair (.int .i64) (.pair .str (.int .i64))))), (.val, .str)], rs := [(.val, (.int .i64))], F := fun x => Qan.f x.1 x.2 }
def Qan.cs : List (FuncId × Con) := [(117, QU.con)]
def Qan.E : Env := envOf tab Qan.cs 0 false
def Qan.keep (i : Nat) : List Nat := []
set_option maxRecDepth 100000 in
theorem Qan.body (n : Nat) (x : YD × ByteArray) : bodyF Qan.E Qan.keep n Tryz.f89 Qan.con x = Qan.fn n x.1 x.2 := by
 have h : bodyF Qan.E Qan.keep n Tryz.f89 Qan.con x = Qan.top x.1 x.2 := by kernel_rfl
 exact h
set_option maxRecDepth 100000 in
theorem Qan.good : Good Tryz.prog 89 Qan.con :=
 Vf tabok (cs := Qan.cs) ⟨QU.good, trivial⟩ 0 false (fn := Tryz.f89) Tryz.func89 rfl (by decide) (by simp [Qan.con]) Qan.keep NN (fun _ => rfl) (fun x => Qan.body NN x)
end
end Go.Ev.Tryz

namespace Go.Ev.Tryz
open Go.Proofs Go.Pl
set_option linter.unusedVariables false
noncomputable section
def Qk.st4 (p : List YA) (v8 : List YA) (v9 : Int) (v10 : Int) : St := ⟨[.dat (.sl 74 (.pair (.int .i64) (.pair .str (.int .i64)))) p, .gone, .gone, .gone, .gone, .gone, .gone, .gone, .dat (.sl 74 (.pair (.int .i64) (.pair .str (.int .i64)))) v8, .dat (.int .i64) v9, .dat (.int .i64) v10, .gone, .gone, .gone, .gone, .gone, .gone, .gone, .gone, .gone, .gone, .gone, .gone, .gone, .gone, .gone, .gone, .gone, .gone, .gone, .gone, .gone, .gone, .gone, .gone, .gone, .gone, .gone, .gone, .gone, .gone, .gone], []⟩
def Qk.con : Con := { ps := [(.val, (.sl 74 (.pair (.int .i64) (.pair .str (.int .i64)))))], rs := [(.val, .bool)], F := fun x => Qk.f x }
def Qk.cs : List (FuncId × Con) := [(85, QO.con), (86, Qag.con), (89, Qan.con)]
def Qk.E : Env := envOf tab Qk.cs 0 false
def Qk.keep (i : Nat) : List Nat := if i = 4 then [0, 8, 9, 10] else []
def Qk.at4 (n : Nat) (x : List YA) : Code × (Ex → St → Option (Bool)) := ctx Qk.E Qk.keep n [.snd, .snd, .fst, .snd, .blk] (Vg Tryz.f56) (kEnd Qk.E Tryz.f56 Qk.con x)
def Qk.LN4 (n : Nat) (x : List YA) : Nat → St → Option (Bool) := loopN (exec Qk.E Qk.keep n (Vj (Qk.at4 n x).1)) (St.norm 0 (Qk.keep 4)) (Qk.at4 n x).2
set_option maxRecDepth 100000 in
theorem Qk.lem4 (n : Nat) (x : List YA) : ∀ (k : Nat) (p : List YA) (v8 : List YA) (v9 : Int) (v10 : Int), Qk.LN4 n x k (Qk.st4 p v8 v9 v10) = Qk.l4 n k p v8 v9 v10 := by
 intro k
 induction k with
 | zero => intro p v8 v9 v10; rfl
 | succ k ih =>
  intro p v8 v9 v10
  have h : Qk.LN4 n x (k + 1) (Qk.st4 p v8 v9 v10) = Qk.g4 (fun p v8 v9 v10 => Qk.LN4 n x k (Qk.st4 p v8 v9 v10)) p v8 v9 v10 := by kernel_rfl
  rw [h]
  simp only [ih]
  rfl
set_option maxRecDepth 100000 in
theorem Qk.body (n : Nat) (x : List YA) : bodyF Qk.E Qk.keep n Tryz.f56 Qk.con x = Qk.fn n x := by
 have h : bodyF Qk.E Qk.keep n Tryz.f56 Qk.con x = Qk.top (fun p v8 v9 v10 => Qk.LN4 n x n (Qk.st4 p v8 v9 v10)) x := by kernel_rfl
 rw [h]
 simp only [Qk.lem4]
 rfl
set_option maxRecDepth 100000 in
theorem Qk.good : Good Tryz.prog 56 Qk.con :=
 Vf tabok (cs := Qk.cs) ⟨QO.good, Qag.good, Qan.good, trivial⟩ 0 false (fn := Tryz.f56) Tryz.func56 rfl (by decide) (by simp [Qk.con]) Qk.keep NN (fun _ => rfl) (fun x => Qk.body NN x)
end
end Go.Ev.Tryz

namespace Go.Ev.Tryz
open Go.Proofs Go.Pl
set_option linter.unusedVariables false
noncomputable section
def Qaf.tr0 (p : List YA) (b1 : Int × ByteArray × Int) : Option YW :=
 if ([] : List YA).length + p.length < room 32 then
  if (([] : List YA) ++ p).length + ([b1]).length < room 32 then
   (Qk.f ((([] : List YA) ++ p) ++ ([b1]))).bind fun r2 =>
   if (!r2) = true then
    some ([], 5)
   else
    some ((([] : List YA) ++ p) ++ ([b1]), 0)
  else
   none
 else
  none
def Qaf.tr1 (p : List YA) (b1 : Int × ByteArray × Int) : Option YW :=
 agree (
  Qaf.tr0 p b1
 ) (
  Qaf.tr0 p b1
 )
def Qaf.topraw (p : List YA) (b1 : Int × ByteArray × Int) : Option YW :=
 (Qk.f p).bind fun r1 =>
 if (!r1) = true then
  some ([], 1)
 else if (((p.length : Int) : Int) == 60) = true then
  some ([], 3)
 else
  agree (
   agree (
    Qaf.tr0 p b1
   ) (
    Qaf.tr1 p b1
   )
  ) (
   agree (
    Qaf.tr1 p b1
   ) (
    Qaf.tr0 p b1
   )
  )
theorem Qaf.topraw_eq (p : List YA) (b1 : Int × ByteArray × Int) : Qaf.topraw p b1 = Qaf.top p b1 := by
 unfold Qaf.topraw Qaf.top
 simp only [Vt, Qaf.tr0, Qaf.tr1]
def Qaf.con : Con := { ps := [(.val, (.sl 74 (.pair (.int .i64) (.pair .str (.int .i64))))), (.val, (.pair (.int .i64) (.pair .str (.int .i64))))], rs := [(.own, (.sl 74 (.pair (.int .i64) (.pair .str (.int .i64))))), (.own, (.int .i64))], F := fun x => Qaf.f x.1 x.2 }
def Qaf.cs : List (FuncId × Con) := [(56, Qk.con)]
def Qaf.E : Env := envOf tab Qaf.cs 0 false
def Qaf.keep (i : Nat) : List Nat := []
set_option maxRecDepth 100000 in
theorem Qaf.body (n : Nat) (x : YD × Int × ByteArray × Int) : bodyF Qaf.E Qaf.keep n Tryz.f106 Qaf.con x = Qaf.fn n x.1 x.2 := by
 have h : bodyF Qaf.E Qaf.keep n Tryz.f106 Qaf.con x = Qaf.topraw x.1 x.2 := by kernel_rfl
 rw [Qaf.topraw_eq] at h
 exact h
set_option maxRecDepth 100000 in
theorem Qaf.good : Good Tryz.prog 106 Qaf.con :=
 Vf tabok (cs := Qaf.cs) ⟨Qk.good, trivial⟩ 0 false (fn := Tryz.f106) Tryz.func106 rfl (by decide) (by simp [Qaf.con]) Qaf.keep NN (fun _ => rfl) (fun x => Qaf.body NN x)
end
end Go.Ev.Tryz

namespace Go.Ev.Tryz
open Go.Proofs Go.Pl
set_option linter.unusedVariables false
noncomputable section
def QaA.con : Con := { ps := [(.val, (.sl 74 (.pair (.int .i64) (.pair .str (.int .i64))))), (.val, .str)], rs := [(.val, (.int .i64)), (.val, (.int .i64))], F := fun x => QaA.f x.1 x.2 }
def QaA.cs : List (FuncId × Con) := [(56, Qk.con), (85, QO.con), (89, Qan.con)]
def QaA.E : Env := envOf tab QaA.cs 0 false
def QaA.keep (i : Nat) : List Nat := []
set_option maxRecDepth 100000 in
theorem QaA.body (n : Nat) (x : YD × ByteArray) : bodyF QaA.E QaA.keep n Tryz.f107 QaA.con x = QaA.fn n x.1 x.2 := by
 have h : bodyF QaA.E QaA.keep n Tryz.f107 QaA.con x = QaA.top x.1 x.2 := by kernel_rfl
 exact h
set_option maxRecDepth 100000 in
theorem QaA.good : Good Tryz.prog 107 QaA.con :=
 Vf tabok (cs := QaA.cs) ⟨Qk.good, QO.good, Qan.good, trivial⟩ 0 false (fn := Tryz.f107) Tryz.func107 rfl (by decide) (by simp [QaA.con]) QaA.keep NN (fun _ => rfl) (fun x => QaA.body NN x)
end
end Go.Ev.Tryz

namespace Go.Ev.Tryz
open Go.Proofs Go.Pl
set_option linter.unusedVariables false
noncomputable section
def Qp.st3 (p : List YA) (v6 : List YA) (v7 : Int) (v8 : Int) (q : List ByteArray) : St := ⟨[.dat (.sl 74 (.pair (.int .i64) (.pair .str (.int .i64)))) p, .gone, .gone, .ref 0, .gone, .gone, .dat (.sl 74 (.pair (.int .i64) (.pair .str (.int .i64)))) v6, .dat (.int .i64) v7, .dat (.int .i64) v8, .gone, .gone, .gone, .gone, .gone, .gone, .gone, .gone, .gone, .gone, .gone, .gone, .gone, .gone], [.row 9 .str q none]⟩
def Qp.con : Con := { ps := [(.val, (.sl 74 (.pair (.int .i64) (.pair .str (.int .i64)))))], rs := [(.own, (.sl 9 .str))], F := fun x => Qp.f x }
def Qp.cs : List (FuncId × Con) := [(89, Qan.con), (104, Q6.con)]
def Qp.E : Env := envOf tab Qp.cs 0 false
def Qp.keep (i : Nat) : List Nat := if i = 3 then [0, 3, 6, 7, 8] else []
def Qp.at3 (n : Nat) (x : List YA) : Code × (Ex → St → Option (YJ)) := ctx Qp.E Qp.keep n [.snd, .snd, .fst, .snd, .blk] (Vg Tryz.f108) (kEnd Qp.E Tryz.f108 Qp.con x)
def Qp.LN3 (n : Nat) (x : List YA) : Nat → St → Option (YJ) := loopN (exec Qp.E Qp.keep n (Vj (Qp.at3 n x).1)) (St.norm 0 (Qp.keep 3)) (Qp.at3 n x).2
set_option maxRecDepth 100000 in
theorem Qp.lem3 (n : Nat) (x : List YA) : ∀ (k : Nat) (p : List YA) (v6 : List YA) (v7 : Int) (v8 : Int) (q : List ByteArray), Qp.LN3 n x k (Qp.st3 p v6 v7 v8 q) = Qp.l3 n k p v6 v7 v8 q := by
 intro k
 induction k with
 | zero => intro p v6 v7 v8 q; rfl
 | succ k ih =>
  intro p v6 v7 v8 q
  have h : Qp.LN3 n x (k + 1) (Qp.st3 p v6 v7 v8 q) = Qp.g3 (fun p v6 v7 v8 q => Qp.LN3 n x k (Qp.st3 p v6 v7 v8 q)) p v6 v7 v8 q := by kernel_rfl
  rw [h]
  simp only [ih]
  rfl
set_option maxRecDepth 100000 in
theorem Qp.body (n : Nat) (x : List YA) : bodyF Qp.E Qp.keep n Tryz.f108 Qp.con x = Qp.fn n x := by
 have h : bodyF Qp.E Qp.keep n Tryz.f108 Qp.con x = Qp.top (fun p v6 v7 v8 q => Qp.LN3 n x n (Qp.st3 p v6 v7 v8 q)) x := by kernel_rfl
 rw [h]
 simp only [Qp.lem3]
 rfl
set_option maxRecDepth 100000 in
theorem Qp.good : Good Tryz.prog 108 Qp.con :=
 Vf tabok (cs := Qp.cs) ⟨Qan.good, Q6.good, trivial⟩ 0 false (fn := Tryz.f108) Tryz.func108 rfl (by decide) (by simp [Qp.con]) Qp.keep NN (fun _ => rfl) (fun x => Qp.body NN x)
end
end Go.Ev.Tryz

namespace Go.Ev.Tryz
open Go.Proofs Go.Pl
set_option linter.unusedVariables false
noncomputable section
def QZ.st3 (p : ByteArray) (q : ByteArray) (v8 : List ByteArray) (v9 : Int) (v10 : Int) : St := ⟨[.gone, .dat .str p, .gone, .gone, .gone, .dat .str q, .gone, .gone, .dat (.sl 9 .str) v8, .dat (.int .i64) v9, .dat (.int .i64) v10, .gone, .gone, .gone, .gone, .gone, .gone, .gone, .gone, .gone, .gone, .gone, .gone, .gone, .gone], []⟩
def QZ.con : Con := { ps := [(.val, (.sl 9 .str)), (.val, .str)], rs := [(.val, .str)], F := fun x => QZ.f x.1 x.2 }
def QZ.cs : List (FuncId × Con) := []
def QZ.E : Env := envOf tab QZ.cs 0 false
def QZ.keep (i : Nat) : List Nat := if i = 3 then [1, 5, 8, 9, 10] else []
def QZ.at3 (n : Nat) (x : List ByteArray × ByteArray) : Code × (Ex → St → Option (ByteArray)) := ctx QZ.E QZ.keep n [.snd, .snd, .fst, .snd, .blk] (Vg Tryz.f109) (kEnd QZ.E Tryz.f109 QZ.con x)
def QZ.LN3 (n : Nat) (x : List ByteArray × ByteArray) : Nat → St → Option (ByteArray) := loopN (exec QZ.E QZ.keep n (Vj (QZ.at3 n x).1)) (St.norm 0 (QZ.keep 3)) (QZ.at3 n x).2
set_option maxRecDepth 100000 in
theorem QZ.lem3 (n : Nat) (x : List ByteArray × ByteArray) : ∀ (k : Nat) (p : ByteArray) (q : ByteArray) (v8 : List ByteArray) (v9 : Int) (v10 : Int), QZ.LN3 n x k (QZ.st3 p q v8 v9 v10) = QZ.l3 n k p q v8 v9 v10 := by
 intro k
 induction k with
 | zero => intro p q v8 v9 v10; rfl
 | succ k ih =>
  intro p q v8 v9 v10
  have h : QZ.LN3 n x (k + 1) (QZ.st3 p q v8 v9 v10) = QZ.g3 (fun p q v8 v9 v10 => QZ.LN3 n x k (QZ.st3 p q v8 v9 v10)) p q v8 v9 v10 := by kernel_rfl
  rw [h]
  simp only [ih]
  rfl
set_option maxRecDepth 100000 in
theorem QZ.body (n : Nat) (x : List ByteArray × ByteArray) : bodyF QZ.E QZ.keep n Tryz.f109 QZ.con x = QZ.fn n x.1 x.2 := by
 have h : bodyF QZ.E QZ.keep n Tryz.f109 QZ.con x = QZ.top (fun p q v8 v9 v10 => QZ.LN3 n x n (QZ.st3 p q v8 v9 v10)) x.1 x.2 := by kernel_rfl
 rw [h]
 simp only [QZ.lem3]
 rfl
set_option maxRecDepth 100000 in
theorem QZ.good : Good Tryz.prog 109 QZ.con :=
 Vf tabok (cs := QZ.cs) trivial 0 false (fn := Tryz.f109) Tryz.func109 rfl (by decide) (by simp [QZ.con]) QZ.keep NN (fun _ => rfl) (fun x => QZ.body NN x)
end
end Go.Ev.Tryz

namespace Go.Ev.Tryz
open Go.Proofs Go.Pl
set_option linter.unusedVariables false
noncomputable section
def QG.st7 (p : List YA) (q : Int) (v20 : Int) (v21 : Int) (r : List YA) (v19 : List ByteArray) : St := ⟨[.dat (.sl 74 (.pair (.int .i64) (.pair .str (.int .i64)))) p, .dat (.int .i64) q, .gone, .gone, .gone, .gone, .ref 0, .gone, .gone, .gone, .gone, .gone, .gone, .gone, .gone, .gone, .gone, .gone, .gone, .ref 1, .dat (.int .i64) v20, .dat (.int .i64) v21, .gone, .gone, .gone, .gone, .gone, .gone, .gone, .gone, .gone, .gone, .gone, .gone, .gone, .gone, .gone, .gone, .gone, .gone, .gone, .gone], [.row 74 (.pair (.int .i64) (.pair .str (.int .i64))) r none, .row 9 .str v19 none]⟩
def QG.con : Con := { ps := [(.val, (.sl 74 (.pair (.int .i64) (.pair .str (.int .i64))))), (.val, (.int .i64))], rs := [(.own, (.sl 74 (.pair (.int .i64) (.pair .str (.int .i64))))), (.own, (.int .i64))], F := fun x => QG.f x.1 x.2 }
def QG.cs : List (FuncId × Con) := [(56, Qk.con), (86, Qag.con), (89, Qan.con), (108, Qp.con)]
def QG.E : Env := envOf tab QG.cs 0 false
def QG.keep (i : Nat) : List Nat := if i = 7 then [0, 1, 6, 19, 20, 21] else []
def QG.at7 (n : Nat) (x : YD × Int) : Code × (Ex → St → Option (YW)) := ctx QG.E QG.keep n [.snd, .snd, .snd, .snd, .fst, .snd, .blk] (Vg Tryz.f110) (kEnd QG.E Tryz.f110 QG.con x)
def QG.LN7 (n : Nat) (x : YD × Int) : Nat → St → Option (YW) := loopN (exec QG.E QG.keep n (Vj (QG.at7 n x).1)) (St.norm 0 (QG.keep 7)) (QG.at7 n x).2
set_option maxRecDepth 100000 in
theorem QG.lem7 (n : Nat) (x : YD × Int) : ∀ (k : Nat) (p : List YA) (q : Int) (v20 : Int) (v21 : Int) (r : List YA) (v19 : List ByteArray), QG.LN7 n x k (QG.st7 p q v20 v21 r v19) = QG.l7 n k p q v20 v21 r v19 := by
 intro k
 induction k with
 | zero => intro p q v20 v21 r v19; rfl
 | succ k ih =>
  intro p q v20 v21 r v19
  have h : QG.LN7 n x (k + 1) (QG.st7 p q v20 v21 r v19) = QG.g7 (fun p q v20 v21 r v19 => QG.LN7 n x k (QG.st7 p q v20 v21 r v19)) p q v20 v21 r v19 := by kernel_rfl
  rw [h]
  simp only [ih]
  rfl
set_option maxRecDepth 100000 in
theorem QG.body (n : Nat) (x : YD × Int) : bodyF QG.E QG.keep n Tryz.f110 QG.con x = QG.fn n x.1 x.2 := by
 have h : bodyF QG.E QG.keep n Tryz.f110 QG.con x = QG.top (fun p q v20 v21 r v19 => QG.LN7 n x n (QG.st7 p q v20 v21 r v19)) x.1 x.2 := by kernel_rfl
 rw [h]
 simp only [QG.lem7]
 rfl
set_option maxRecDepth 100000 in
theorem QG.good : Good Tryz.prog 110 QG.con :=
 Vf tabok (cs := QG.cs) ⟨Qk.good, Qag.good, Qan.good, Qp.good, trivial⟩ 0 false (fn := Tryz.f110) Tryz.func110 rfl (by decide) (by simp [QG.con]) QG.keep NN (fun _ => rfl) (fun x => QG.body NN x)
end
end Go.Ev.Tryz

namespace Go.Ev.Tryz
open Go.Proofs Go.Pl
set_option linter.unusedVariables false
noncomputable section
def Qbm.con : Con := { ps := [(.val, (.int .i64))], rs := [(.val, .bool)], F := fun x => Qbm.f x }
def Qbm.cs : List (FuncId × Con) := [(86, Qag.con)]
def Qbm.E : Env := envOf tab Qbm.cs 0 false
def Qbm.keep (i : Nat) : List Nat := []
set_option maxRecDepth 100000 in
theorem Qbm.body (n : Nat) (x : Int) : bodyF Qbm.E Qbm.keep n Tryz.f136 Qbm.con x = Qbm.fn n x := by
 have h : bodyF Qbm.E Qbm.keep n Tryz.f136 Qbm.con x = Qbm.top x := by kernel_rfl
 exact h
set_option maxRecDepth 100000 in
theorem Qbm.good : Good Tryz.prog 136 Qbm.con :=
 Vf tabok (cs := Qbm.cs) ⟨Qag.good, trivial⟩ 0 false (fn := Tryz.f136) Tryz.func136 rfl (by decide) (by simp [Qbm.con]) Qbm.keep NN (fun _ => rfl) (fun x => Qbm.body NN x)
end
end Go.Ev.Tryz

namespace Go.Ev.Tryz
open Go.Proofs Go.Pl
set_option linter.unusedVariables false
noncomputable section
def Qa0.con : Con := { ps := [(.val, (.int .i64)), (.val, (.int .i64))], rs := [(.val, (.int .i64))], F := fun x => Qa0.f x.1 x.2 }
def Qa0.cs : List (FuncId × Con) := []
def Qa0.E : Env := envOf tab Qa0.cs 0 false
def Qa0.keep (i : Nat) : List Nat := []
set_option maxRecDepth 100000 in
theorem Qa0.body (n : Nat) (x : Int × Int) : bodyF Qa0.E Qa0.keep n Tryz.f167 Qa0.con x = Qa0.fn n x.1 x.2 := by
 have h : bodyF Qa0.E Qa0.keep n Tryz.f167 Qa0.con x = Qa0.top x.1 x.2 := by kernel_rfl
 exact h
set_option maxRecDepth 100000 in
theorem Qa0.good : Good Tryz.prog 167 Qa0.con :=
 Vf tabok (cs := Qa0.cs) trivial 0 false (fn := Tryz.f167) Tryz.func167 rfl (by decide) (by simp [Qa0.con]) Qa0.keep NN (fun _ => rfl) (fun x => Qa0.body NN x)
end
end Go.Ev.Tryz

namespace Go.Ev.Tryz
open Go.Proofs Go.Pl
set_option linter.unusedVariables false
noncomputable section
def QaO.con : Con := { ps := [(.val, (.int .i64)), (.val, (.int .i64))], rs := [(.val, (.int .i64))], F := fun x => QaO.f x.1 x.2 }
def QaO.cs : List (FuncId × Con) := [(167, Qa0.con)]
def QaO.E : Env := envOf tab QaO.cs 0 false
def QaO.keep (i : Nat) : List Nat := []
set_option maxRecDepth 100000 in
theorem QaO.body (n : Nat) (x : Int × Int) : bodyF QaO.E QaO.keep n Tryz.f158 QaO.con x = QaO.fn n x.1 x.2 := by
 have h : bodyF QaO.E QaO.keep n Tryz.f158 QaO.con x = QaO.top x.1 x.2 := by kernel_rfl
 exact h
set_option maxRecDepth 100000 in
theorem QaO.good : Good Tryz.prog 158 QaO.con :=
 Vf tabok (cs := QaO.cs) ⟨Qa0.good, trivial⟩ 0 false (fn := Tryz.f158) Tryz.func158 rfl (by decide) (by simp [QaO.con]) QaO.keep NN (fun _ => rfl) (fun x => QaO.body NN x)
end
end Go.Ev.Tryz

namespace Go.Ev.Tryz
open Go.Proofs Go.Pl
set_option linter.unusedVariables false
noncomputable section
def Qak.st7 (up0 : Int) (q : Int) (r : Int) (p : Int) : St := ⟨[.dat (.int .i64) up0, .gone, .gone, .gone, .gone, .dat (.int .i64) q, .gone, .dat (.int .i64) r, .dat (.int .i64) p, .gone, .gone, .gone, .gone, .gone, .gone, .gone, .gone, .gone, .gone, .gone, .gone, .gone, .gone, .gone, .gone, .gone, .gone, .gone, .gone, .gone, .gone, .gone, .gone, .gone, .gone, .gone, .gone, .gone, .gone, .gone, .gone, .gone, .gone, .gone], []⟩
def Qak.con : Con := { ps := [(.val, (.int .i64))], rs := [(.val, (.int .i64)), (.val, (.int .i64))], F := fun x => Qak.f x }
def Qak.cs : List (FuncId × Con) := [(158, QaO.con)]
def Qak.E : Env := envOf tab Qak.cs 0 false
def Qak.keep (i : Nat) : List Nat := if i = 7 then [0, 5, 7, 8] else []
def Qak.at7 (n : Nat) (x : Int) : Code × (Ex → St → Option (YC)) := ctx Qak.E Qak.keep n [.snd, .snd, .snd, .snd, .snd, .fst, .blk] (Vg Tryz.f137) (kEnd Qak.E Tryz.f137 Qak.con x)
def Qak.LN7 (n : Nat) (x : Int) : Nat → St → Option (YC) := loopN (exec Qak.E Qak.keep n (Vj (Qak.at7 n x).1)) (St.norm 0 (Qak.keep 7)) (Qak.at7 n x).2
set_option maxRecDepth 100000 in
theorem Qak.lem7 (n : Nat) (x : Int) : ∀ (k : Nat) (up0 : Int) (q : Int) (r : Int) (p : Int), Qak.LN7 n x k (Qak.st7 up0 q r p) = Qak.l7 n k up0 q r p := by
 intro k
 induction k with
 | zero => intro up0 q r p; rfl
 | succ k ih =>
  intro up0 q r p
  have h : Qak.LN7 n x (k + 1) (Qak.st7 up0 q r p) = Qak.g7 (fun up0 q r p => Qak.LN7 n x k (Qak.st7 up0 q r p)) up0 q r p := by kernel_rfl
  rw [h]
  simp only [ih]
  rfl
set_option maxRecDepth 100000 in
theorem Qak.body (n : Nat) (x : Int) : bodyF Qak.E Qak.keep n Tryz.f137 Qak.con x = Qak.fn n x := by
 have h : bodyF Qak.E Qak.keep n Tryz.f137 Qak.con x = Qak.top (fun up0 q r p => Qak.LN7 n x n (Qak.st7 up0 q r p)) x := by kernel_rfl
 rw [h]
 simp only [Qak.lem7]
 rfl
set_option maxRecDepth 100000 in
theorem Qak.good : Good Tryz.prog 137 Qak.con :=
 Vf tabok (cs := Qak.cs) ⟨QaO.good, trivial⟩ 0 false (fn := Tryz.f137) Tryz.func137 rfl (by decide) (by simp [Qak.con]) Qak.keep NN (fun _ => rfl) (fun x => Qak.body NN x)
end
end Go.Ev.Tryz

namespace Go.Ev.Tryz
open Go.Proofs Go.Pl
set_option linter.unusedVariables false
noncomputable section
def Qba.con : Con := { ps := [(.val, (.int .i64))], rs := [(.val, (.int .i64)), (.val, (.int .i64)), (.val, (.int .i64))], F := fun x => Qba.f x }
def Qba.cs : List (FuncId × Con) := [(136, Qbm.con), (137, Qak.con)]
def Qba.E : Env := envOf tab Qba.cs 0 false
def Qba.keep (i : Nat) : List Nat := []
set_option maxRecDepth 100000 in
theorem Qba.body (n : Nat) (x : Int) : bodyF Qba.E Qba.keep n Tryz.f111 Qba.con x = Qba.fn n x := by
 have h : bodyF Qba.E Qba.keep n Tryz.f111 Qba.con x = Qba.top x := by kernel_rfl
 exact h
set_option maxRecDepth 100000 in
theorem Qba.good : Good Tryz.prog 111 Qba.con :=
 Vf tabok (cs := Qba.cs) ⟨Qbm.good, Qak.good, trivial⟩ 0 false (fn := Tryz.f111) Tryz.func111 rfl (by decide) (by simp [Qba.con]) Qba.keep NN (fun _ => rfl) (fun x => Qba.body NN x)
end
end Go.Ev.Tryz

namespace Go.Ev.Tryz
open Go.Proofs Go.Pl
set_option linter.unusedVariables false
noncomputable section
def QaN.con : Con := { ps := [(.val, (.int .i64))], rs := [(.val, .bool)], F := fun x => QaN.f x }
def QaN.cs : List (FuncId × Con) := [(86, Qag.con)]
def QaN.E : Env := envOf tab QaN.cs 0 false
def QaN.keep (i : Nat) : List Nat := []
set_option maxRecDepth 100000 in
theorem QaN.body (n : Nat) (x : Int) : bodyF QaN.E QaN.keep n Tryz.f138 QaN.con x = QaN.fn n x := by
 have h : bodyF QaN.E QaN.keep n Tryz.f138 QaN.con x = QaN.top x := by kernel_rfl
 exact h
set_option maxRecDepth 100000 in
theorem QaN.good : Good Tryz.prog 138 QaN.con :=
 Vf tabok (cs := QaN.cs) ⟨Qag.good, trivial⟩ 0 false (fn := Tryz.f138) Tryz.func138 rfl (by decide) (by simp [QaN.con]) QaN.keep NN (fun _ => rfl) (fun x => QaN.body NN x)
end
end Go.Ev.Tryz

namespace Go.Ev.Tryz
open Go.Proofs Go.Pl
set_option linter.unusedVariables false
noncomputable section
def QaM.con : Con := { ps := [(.val, (.int .i64))], rs := [(.val, .bool)], F := fun x => QaM.f x }
def QaM.cs : List (FuncId × Con) := [(86, Qag.con)]
def QaM.E : Env := envOf tab QaM.cs 0 false
def QaM.keep (i : Nat) : List Nat := []
set_option maxRecDepth 100000 in
theorem QaM.body (n : Nat) (x : Int) : bodyF QaM.E QaM.keep n Tryz.f139 QaM.con x = QaM.fn n x := by
 have h : bodyF QaM.E QaM.keep n Tryz.f139 QaM.con x = QaM.top x := by kernel_rfl
 exact h
set_option maxRecDepth 100000 in
theorem QaM.good : Good Tryz.prog 139 QaM.con :=
 Vf tabok (cs := QaM.cs) ⟨Qag.good, trivial⟩ 0 false (fn := Tryz.f139) Tryz.func139 rfl (by decide) (by simp [QaM.con]) QaM.keep NN (fun _ => rfl) (fun x => QaM.body NN x)
end
end Go.Ev.Tryz

namespace Go.Ev.Tryz
open Go.Proofs Go.Pl
set_option linter.unusedVariables false
noncomputable section
def Qy.st3 (p : Int) (r : Int) (q : Int) : St := ⟨[.gone, .gone, .gone, .gone, .gone, .dat (.int .i64) p, .dat (.int .i64) r, .dat (.int .i64) q, .gone, .gone, .gone, .gone, .gone, .gone, .gone, .gone, .gone, .gone, .gone, .gone, .gone, .gone, .gone, .gone, .gone, .gone, .gone, .gone, .gone, .gone, .gone, .gone, .gone, .gone], []⟩
def Qy.con : Con := { ps := [(.val, (.int .i64)), (.val, (.int .i64))], rs := [(.val, (.int .i64))], F := fun x => Qy.f x.1 x.2 }
def Qy.cs : List (FuncId × Con) := []
def Qy.E : Env := envOf tab Qy.cs 0 false
def Qy.keep (i : Nat) : List Nat := if i = 3 then [5, 6, 7] else []
def Qy.at3 (n : Nat) (x : Int × Int) : Code × (Ex → St → Option (Int)) := ctx Qy.E Qy.keep n [.snd, .snd, .snd, .fst, .blk] (Vg Tryz.f140) (kEnd Qy.E Tryz.f140 Qy.con x)
def Qy.LN3 (n : Nat) (x : Int × Int) : Nat → St → Option (Int) := loopN (exec Qy.E Qy.keep n (Vj (Qy.at3 n x).1)) (St.norm 0 (Qy.keep 3)) (Qy.at3 n x).2
set_option maxRecDepth 100000 in
theorem Qy.lem3 (n : Nat) (x : Int × Int) : ∀ (k : Nat) (p : Int) (r : Int) (q : Int), Qy.LN3 n x k (Qy.st3 p r q) = Qy.l3 n k p r q := by
 intro k
 induction k with
 | zero => intro p r q; rfl
 | succ k ih =>
  intro p r q
  have h : Qy.LN3 n x (k + 1) (Qy.st3 p r q) = Qy.g3 (fun p r q => Qy.LN3 n x k (Qy.st3 p r q)) p r q := by kernel_rfl
  rw [h]
  simp only [ih]
  rfl
set_option maxRecDepth 100000 in
theorem Qy.body (n : Nat) (x : Int × Int) : bodyF Qy.E Qy.keep n Tryz.f140 Qy.con x = Qy.fn n x.1 x.2 := by
 have h : bodyF Qy.E Qy.keep n Tryz.f140 Qy.con x = Qy.top (fun p r q => Qy.LN3 n x n (Qy.st3 p r q)) x.1 x.2 := by kernel_rfl
 rw [h]
 simp only [Qy.lem3]
 rfl
set_option maxRecDepth 100000 in
theorem Qy.good : Good Tryz.prog 140 Qy.con :=
 Vf tabok (cs := Qy.cs) trivial 0 false (fn := Tryz.f140) Tryz.func140 rfl (by decide) (by simp [Qy.con]) Qy.keep NN (fun _ => rfl) (fun x => Qy.body NN x)
end
end Go.Ev.Tryz

namespace Go.Ev.Tryz
open Go.Proofs Go.Pl
set_option linter.unusedVariables false
noncomputable section
def Qai.con : Con := { ps := [(.val, (.int .i64)), (.val, (.int .i64))], rs := [(.val, (.int .i64)), (.val, (.int .i64))], F := fun x => Qai.f x.1 x.2 }
def Qai.cs : List (FuncId × Con) := [(138, QaN.con), (139, QaM.con), (140, Qy.con)]
def Qai.E : Env := envOf tab Qai.cs 0 false
def Qai.keep (i : Nat) : List Nat := []
set_option maxRecDepth 100000 in
theorem Qai.body (n : Nat) (x : Int × Int) : bodyF Qai.E Qai.keep n Tryz.f112 Qai.con x = Qai.fn n x.1 x.2 := by
 have h : bodyF Qai.E Qai.keep n Tryz.f112 Qai.con x = Qai.top x.1 x.2 := by kernel_rfl
 exact h
set_option maxRecDepth 100000 in
theorem Qai.good : Good Tryz.prog 112 Qai.con :=
 Vf tabok (cs := Qai.cs) ⟨QaN.good, QaM.good, Qy.good, trivial⟩ 0 false (fn := Tryz.f112) Tryz.func112 rfl (by decide) (by simp [Qai.con]) Qai.keep NN (fun _ => rfl) (fun x => Qai.body NN x)
end
end Go.Ev.Tryz

namespace Go.Ev.Tryz
open Go.Proofs Go.Pl
set_option linter.unusedVariables false
noncomputable section
def Qab.st2 (p : Int) (q : ByteArray) : St := ⟨[.gone, .dat (.int .i64) p, .gone, .gone, .gone, .dat .str q, .gone, .gone, .gone, .gone, .gone, .gone, .gone, .gone, .gone], []⟩
def Qab.con : Con := { ps := [(.val, (.int .i64)), (.val, (.int .i64))], rs := [(.val, .str)], F := fun x => Qab.f x.1 x.2 }
def Qab.cs : List (FuncId × Con) := [(64, (Qg.con (fun a0 => Qg.f a0)))]
def Qab.E : Env := envOf tab Qab.cs 0 false
def Qab.keep (i : Nat) : List Nat := if i = 2 then [1, 5] else []
def Qab.at2 (n : Nat) (x : Int × Int) : Code × (Ex → St → Option (ByteArray)) := ctx Qab.E Qab.keep n [.snd, .snd, .fst, .blk] (Vg Tryz.f159) (kEnd Qab.E Tryz.f159 Qab.con x)
def Qab.LN2 (n : Nat) (x : Int × Int) : Nat → St → Option (ByteArray) := loopN (exec Qab.E Qab.keep n (Vj (Qab.at2 n x).1)) (St.norm 0 (Qab.keep 2)) (Qab.at2 n x).2
set_option maxRecDepth 100000 in
theorem Qab.lem2 (n : Nat) (x : Int × Int) : ∀ (k : Nat) (p : Int) (q : ByteArray), Qab.LN2 n x k (Qab.st2 p q) = Qab.l2 n k p q := by
 intro k
 induction k with
 | zero => intro p q; rfl
 | succ k ih =>
  intro p q
  have h : Qab.LN2 n x (k + 1) (Qab.st2 p q) = Qab.g2 (fun p q => Qab.LN2 n x k (Qab.st2 p q)) p q := by kernel_rfl
  rw [h]
  simp only [ih]
  rfl
set_option maxRecDepth 100000 in
theorem Qab.body (n : Nat) (x : Int × Int) : bodyF Qab.E Qab.keep n Tryz.f159 Qab.con x = Qab.fn n x.1 x.2 := by
 have h : bodyF Qab.E Qab.keep n Tryz.f159 Qab.con x = Qab.top (fun p q => Qab.LN2 n x n (Qab.st2 p q)) x.1 x.2 := by kernel_rfl
 rw [h]
 simp only [Qab.lem2]
 rfl
set_option maxRecDepth 100000 in
theorem Qab.good : Good Tryz.prog 159 Qab.con :=
 Vf tabok (cs := Qab.cs) ⟨Qg.good, trivial⟩ 0 false (fn := Tryz.f159) Tryz.func159 rfl (by decide) (by simp [Qab.con]) Qab.keep NN (fun _ => rfl) (fun x => Qab.body NN x)
end
end Go.Ev.Tryz

namespace Go.Ev.Tryz
open Go.Proofs Go.Pl
set_option linter.unusedVariables false
noncomputable section
def QaU.con : Con := { ps := [(.val, (.int .i64))], rs := [(.val, .str)], F := fun x => QaU.f x }
def QaU.cs : List (FuncId × Con) := [(64, (Qg.con (fun a0 => Qg.f a0))), (159, Qab.con)]
def QaU.E : Env := envOf tab QaU.cs 0 false
def QaU.keep (i : Nat) : List Nat := []
set_option maxRecDepth 100000 in
theorem QaU.body (n : Nat) (x : Int) : bodyF QaU.E QaU.keep n Tryz.f141 QaU.con x = QaU.fn n x := by
 have h : bodyF QaU.E QaU.keep n Tryz.f141 QaU.con x = QaU.top x := by kernel_rfl
 exact h
set_option maxRecDepth 100000 in
theorem QaU.good : Good Tryz.prog 141 QaU.con :=
 Vf tabok (cs := QaU.cs) ⟨Qg.good, Qab.good, trivial⟩ 0 false (fn := Tryz.f141) Tryz.func141 rfl (by decide) (by simp [QaU.con]) QaU.keep NN (fun _ => rfl) (fun x => QaU.body NN x)
end
end Go.Ev.Tryz

namespace Go.Ev.Tryz
open Go.Proofs Go.Pl
set_option linter.unusedVariables false
noncomputable section
def QaB.con : Con := { ps := [(.val, (.int .i64))], rs := [(.val, .str), (.val, (.int .i64))], F := fun x => QaB.f x }
def QaB.cs : List (FuncId × Con) := [(84, QaW.con), (141, QaU.con)]
def QaB.E : Env := envOf tab QaB.cs 0 false
def QaB.keep (i : Nat) : List Nat := []
set_option maxRecDepth 100000 in
theorem QaB.body (n : Nat) (x : Int) : bodyF QaB.E QaB.keep n Tryz.f113 QaB.con x = QaB.fn n x := by
 have h : bodyF QaB.E QaB.keep n Tryz.f113 QaB.con x = QaB.top x := by kernel_rfl
 exact h
set_option maxRecDepth 100000 in
theorem QaB.good : Good Tryz.prog 113 QaB.con :=
 Vf tabok (cs := QaB.cs) ⟨QaW.good, QaU.good, trivial⟩ 0 false (fn := Tryz.f113) Tryz.func113 rfl (by decide) (by simp [QaB.con]) QaB.keep NN (fun _ => rfl) (fun x => QaB.body NN x)
end
end Go.Ev.Tryz

namespace Go.Ev.Tryz
open Go.Proofs Go.Pl
set_option linter.unusedVariables false
noncomputable section
def Qe.st24 (q : List YA) (r : Int) (s : Int) (d2 : YD × YE × List YA) (c3 : ByteArray × List ByteArray × List Int) (p : List ByteArray) (w4 : List YA) (w5 : List YC) (w6 : List YA) : St := ⟨[.gone, .gone, .ptr 0 [], .ptr 1 [], .ptr 2 [], .gone, .gone, .gone, .gone, .gone, .gone, .gone, .gone, .gone, .gone, .gone, .ref 3, .gone, .gone, .gone, .gone, .gone, .gone, .gone, .gone, .gone, .gone, .gone, .gone, .gone, .gone, .gone, .gone, .gone, .gone, .gone, .gone, .gone, .gone, .gone, .gone, .gone, .gone, .gone, .gone, .gone, .gone, .gone, .gone, .gone, .gone, .gone, .gone, .gone, .gone, .gone, .gone, .gone, .gone, .gone, .gone, .gone, .gone, .gone, .gone, .gone, .gone, .gone, .gone, .gone, .gone, .gone, .gone, .gone, .gone, .gone, .gone, .gone, .gone, .gone, .gone, .gone, .gone, .gone, .gone, .gone, .gone, .gone, .gone, .gone, .gone, .gone, .gone, .gone, .gone, .gone, .gone, .gone, .gone, .gone, .gone, .gone, .gone, .gone, .gone, .gone, .gone, .gone, .gone, .gone, .gone, .gone, .gone, .gone, .gone, .gone, .gone, .gone, .gone, .gone, .gone, .gone, .gone, .gone, .gone, .gone, .gone, .gone, .gone, .gone, .dat (.sl 70 (.pair (.int .i64) (.pair .str (.int .i64)))) q, .dat (.int .i64) r, .dat (.int .i64) s, .gone, .gone, .gone, .gone, .gone, .gone, .gone, .gone, .gone, .gone, .gone, .gone, .gone, .gone, .gone, .gone, .gone, .gone, .gone, .gone, .gone, .gone, .gone, .gone, .gone, .gone, .gone, .gone, .gone, .gone, .gone, .gone, .gone, .gone, .gone, .gone, .gone, .gone, .gone, .gone, .gone, .gone, .gone, .gone, .gone, .gone, .gone, .gone, .gone, .gone, .gone, .gone, .gone, .gone, .gone, .gone, .gone, .gone, .gone, .gone, .gone, .gone, .gone, .gone, .gone, .gone, .gone, .gone, .gone, .gone, .gone, .gone, .gone, .gone, .gone, .gone, .gone, .gone, .gone, .gone, .gone, .gone, .gone, .gone, .gone, .gone, .gone, .gone, .gone, .gone, .gone, .gone, .gone, .gone, .gone, .gone, .gone, .gone, .gone, .gone, .gone, .gone, .gone, .gone, .gone, .gone, .gone, .gone, .gone, .gone, .gone, .gone, .gone, .gone, .gone, .gone, .gone, .gone, .gone, .gone, .gone, .gone, .gone, .gone, .gone, .gone, .gone, .gone, .gone, .gone, .gone, .gone, .gone, .gone, .gone, .gone, .gone, .gone, .gone, .gone, .gone, .gone, .gone, .gone, .gone, .gone, .gone, .gone, .gone, .gone, .gone, .gone, .gone, .gone, .gone, .gone, .gone, .gone, .gone], [.box 35 (.pair (.sl 70 (.pair (.int .i64) (.pair .str (.int .i64)))) (.pair (.sl 72 (.pair (.int .i64) (.int .i64))) (.sl 74 (.pair (.int .i64) (.pair .str (.int .i64)))))) (.dat (.pair (.sl 70 (.pair (.int .i64) (.pair .str (.int .i64)))) (.pair (.sl 72 (.pair (.int .i64) (.int .i64))) (.sl 74 (.pair (.int .i64) (.pair .str (.int .i64)))))) d2), .box 58 (.pair .str (.pair (.sl 9 .str) (.sl 2 (.int .i64)))) (.dat (.pair .str (.pair (.sl 9 .str) (.sl 2 (.int .i64)))) c3), .box 35 (.pair (.sl 70 (.pair (.int .i64) (.pair .str (.int .i64)))) (.pair (.sl 72 (.pair (.int .i64) (.int .i64))) (.sl 74 (.pair (.int .i64) (.pair .str (.int .i64)))))) (.pr (.ref 4) (.pr (.ref 5) (.ref 6))), .row 9 .str p none, .row 70 (.pair (.int .i64) (.pair .str (.int .i64))) w4 none, .row 72 (.pair (.int .i64) (.int .i64)) w5 none, .row 74 (.pair (.int .i64) (.pair .str (.int .i64))) w6 none]⟩
def Qe.tr0 (d0 : YD × YE × List YA) (c1 : ByteArray × List ByteArray × List Int) : Option YV :=
 (Qa.f d0.2.1 (c1.2.2.getD (0 : Int).toNat 0)).bind fun r6 =>
 agree (
  (QaJ.f r6.1).bind fun r7 =>
  some (d0, r7, r6.2)
 ) (
  agree (
   (QaJ.f r6.1).bind fun r7 =>
   some (d0, r7, r6.2)
  ) (
   (QaJ.f r6.1).bind fun r7 =>
   some (d0, r7, r6.2)
  )
 )
def Qe.tr1 (d0 : YD × YE × List YA) (c1 : ByteArray × List ByteArray × List Int) : Option YV :=
 agree (
  Qe.tr0 d0 c1
 ) (
  Qe.tr0 d0 c1
 )
def Qe.tr2 (d0 : YD × YE × List YA) (c1 : ByteArray × List ByteArray × List Int) : Option YV :=
 agree (
  Qe.tr1 d0 c1
 ) (
  Qe.tr0 d0 c1
 )
def Qe.tr3 (d0 : YD × YE × List YA) (c1 : ByteArray × List ByteArray × List Int) : Option YV :=
 if (0 : Int) ≤ 0 ∧ (0 : Int) < c1.2.2.length then
  Qe.tr0 d0 c1
 else
  none
def Qe.tr4 (d0 : YD × YE × List YA) (r15 : (Int × Int × Int)) (r16 : ByteArray) : Option YV :=
 (Qg.f r15.2.1).bind fun r17 =>
 if (r16 ++ (⟨#[32]⟩ : ByteArray)).size + r17.size ≤ 9223372036854775807 then
  some (d0, (r16 ++ (⟨#[32]⟩ : ByteArray)) ++ r17, r15.2.2)
 else
  none
def Qe.topraw (I24 : YAC) (d0 : YD × YE × List YA) (c1 : ByteArray × List ByteArray × List Int) : Option YV :=
 if (c1.1.toList == (⟨#[112, 101, 111, 112, 108, 101]⟩ : ByteArray).toList) = true then
  if (0 : Int) ≤ 0 ∧ (0 : Int) < c1.2.2.length then
   if (0 : Int) ≤ 0 ∧ (0 : Int) < c1.2.1.length then
    if (0 : Int) ≤ 1 ∧ (1 : Int) < c1.2.2.length then
     (Qap.f d0.1 (c1.2.2.getD (0 : Int).toNat 0, (c1.2.1.getD (0 : Int).toNat ByteArray.empty, c1.2.2.getD (1 : Int).toNat 0))).bind fun r1 =>
     some ((r1.1, d0.2), (⟨#[111, 107]⟩ : ByteArray), r1.2)
    else
     none
   else
    none
  else
   none
 else if (c1.1.toList == (⟨#[99, 108, 101, 97, 114]⟩ : ByteArray).toList) = true then
  if (0 : Int) ≤ 0 ∧ (0 : Int) < c1.2.1.length then
   if (0 : Int) ≤ 0 ∧ (0 : Int) < c1.2.2.length then
    (Qa2.f d0.1 (c1.2.1.getD (0 : Int).toNat ByteArray.empty) (c1.2.2.getD (0 : Int).toNat 0)).bind fun r2 =>
    if r2.1 = true then
     some (d0, (⟨#[121, 101, 115]⟩ : ByteArray), r2.2)
    else
     some (d0, (⟨#[110, 111]⟩ : ByteArray), r2.2)
   else
    none
  else
   none
 else if (c1.1.toList == (⟨#[115, 105, 103, 110, 97, 108]⟩ : ByteArray).toList) = true then
  if (0 : Int) ≤ 0 ∧ (0 : Int) < c1.2.1.length then
   (QaI.f).bind fun r3 =>
   (QD.f r3 (c1.2.1.getD (0 : Int).toNat ByteArray.empty)).bind fun r4 =>
   if (decide ((r4 : Int) < 0)) = true then
    some (d0, (⟨#[]⟩ : ByteArray), 6)
   else if (0 : Int) ≤ 0 ∧ (0 : Int) < c1.2.2.length then
    (Qj.f d0.2.1 (c1.2.2.getD (0 : Int).toNat 0, r4)).bind fun r5 =>
    some ((d0.1, (r5.1, d0.2.2)), (⟨#[111, 107]⟩ : ByteArray), r5.2)
   else
    none
  else
   none
 else if (c1.1.toList == (⟨#[115, 116, 97, 116, 101]⟩ : ByteArray).toList) = true then
  agree (
   agree (
    if (0 : Int) ≤ 0 ∧ (0 : Int) < c1.2.2.length then
     Qe.tr2 d0 c1
    else
     none
   ) (
    Qe.tr3 d0 c1
   )
  ) (
   agree (
    if (0 : Int) ≤ 0 ∧ (0 : Int) < c1.2.2.length then
     agree (
      Qe.tr2 d0 c1
     ) (
      agree (
       Qe.tr2 d0 c1
      ) (
       Qe.tr1 d0 c1
      )
     )
    else
     none
   ) (
    agree (
     Qe.tr3 d0 c1
    ) (
     if (0 : Int) ≤ 0 ∧ (0 : Int) < c1.2.2.length then
      Qe.tr1 d0 c1
     else
      none
    )
   )
  )
 else if (c1.1.toList == (⟨#[102, 105, 114, 101]⟩ : ByteArray).toList) = true then
  I24 d0.1 (d0.1.length : Int) 0 d0 c1 [] [] [] []
 else if (c1.1.toList == (⟨#[98, 111, 111, 107]⟩ : ByteArray).toList) = true then
  if (0 : Int) ≤ 0 ∧ (0 : Int) < c1.2.1.length then
   (QD.f ([(⟨#[105, 110]⟩ : ByteArray), (⟨#[102, 105, 114, 101, 100]⟩ : ByteArray), (⟨#[114, 101, 116, 117, 114, 110, 101, 100]⟩ : ByteArray), (⟨#[100, 101, 115, 116, 114, 111, 121, 101, 100]⟩ : ByteArray)]) (c1.2.1.getD (0 : Int).toNat ByteArray.empty)).bind fun r8 =>
   if (decide ((r8 : Int) < 0)) = true then
    some (d0, (⟨#[]⟩ : ByteArray), 6)
   else if (0 : Int) ≤ 1 ∧ (1 : Int) < c1.2.1.length then
    if (0 : Int) ≤ 0 ∧ (0 : Int) < c1.2.2.length then
     (Qaf.f d0.2.2 (r8, (c1.2.1.getD (1 : Int).toNat ByteArray.empty, c1.2.2.getD (0 : Int).toNat 0))).bind fun r9 =>
     some ((d0.1, (d0.2.1, r9.1)), (⟨#[111, 107]⟩ : ByteArray), r9.2)
    else
     none
   else
    none
  else
   none
 else if (c1.1.toList == (⟨#[108, 101, 102, 116]⟩ : ByteArray).toList) = true then
  if (0 : Int) ≤ 0 ∧ (0 : Int) < c1.2.1.length then
   (QaA.f d0.2.2 (c1.2.1.getD (0 : Int).toNat ByteArray.empty)).bind fun r10 =>
   agree (
    (Qg.f r10.1).bind fun r11 =>
    some (d0, r11, r10.2)
   ) (
    (Qg.f r10.1).bind fun r11 =>
    some (d0, r11, r10.2)
   )
  else
   none
 else if (c1.1.toList == (⟨#[111, 112, 101, 110]⟩ : ByteArray).toList) = true then
  (Qp.f d0.2.2).bind fun r12 =>
  if (((r12.length : Int) : Int) == 0) = true then
   some (d0, (⟨#[45]⟩ : ByteArray), 0)
  else
   (QZ.f r12 (⟨#[44]⟩ : ByteArray)).bind fun r13 =>
   some (d0, r13, 0)
 else if (c1.1.toList == (⟨#[115, 101, 116, 116, 108, 101]⟩ : ByteArray).toList) = true then
  if (0 : Int) ≤ 0 ∧ (0 : Int) < c1.2.2.length then
   (QG.f d0.2.2 (c1.2.2.getD (0 : Int).toNat 0)).bind fun r14 =>
   some ((d0.1, (d0.2.1, r14.1)), (⟨#[111, 107]⟩ : ByteArray), r14.2)
  else
   none
 else if (c1.1.toList == (⟨#[116, 111, 112]⟩ : ByteArray).toList) = true then
  if (0 : Int) ≤ 0 ∧ (0 : Int) < c1.2.2.length then
   (Qba.f (c1.2.2.getD (0 : Int).toNat 0)).bind fun r15 =>
   agree (
    (Qg.f r15.1).bind fun r16 =>
    if r16.size + (⟨#[32]⟩ : ByteArray).size ≤ 9223372036854775807 then
     Qe.tr4 d0 r15 r16
    else
     none
   ) (
    (Qg.f r15.1).bind fun r16 =>
    if r16.size + (⟨#[32]⟩ : ByteArray).size ≤ 9223372036854775807 then
     agree (
      Qe.tr4 d0 r15 r16
     ) (
      Qe.tr4 d0 r15 r16
     )
    else
     none
   )
  else
   none
 else if (c1.1.toList == (⟨#[110, 101, 101, 100]⟩ : ByteArray).toList) = true then
  if (0 : Int) ≤ 0 ∧ (0 : Int) < c1.2.2.length then
   if (0 : Int) ≤ 1 ∧ (1 : Int) < c1.2.2.length then
    (Qai.f (c1.2.2.getD (0 : Int).toNat 0) (c1.2.2.getD (1 : Int).toNat 0)).bind fun r18 =>
    agree (
     (Qg.f r18.1).bind fun r19 =>
     some (d0, r19, r18.2)
    ) (
     (Qg.f r18.1).bind fun r19 =>
     some (d0, r19, r18.2)
    )
   else
    none
  else
   none
 else if (0 : Int) ≤ 0 ∧ (0 : Int) < c1.2.2.length then
  (QaB.f (c1.2.2.getD (0 : Int).toNat 0)).bind fun r20 =>
  some (d0, r20.1, r20.2)
 else
  none
theorem Qe.topraw_eq (I24 : YAC) (d0 : YD × YE × List YA) (c1 : ByteArray × List ByteArray × List Int) : Qe.topraw I24 d0 c1 = Qe.top I24 d0 c1 := by
 unfold Qe.topraw Qe.top
 simp only [Vt, Qe.tr0, Qe.tr1, Qe.tr2, Qe.tr3, Qe.tr4]
def Qe.con : Con := { ps := [(.val, (.pair (.sl 70 (.pair (.int .i64) (.pair .str (.int .i64)))) (.pair (.sl 72 (.pair (.int .i64) (.int .i64))) (.sl 74 (.pair (.int .i64) (.pair .str (.int .i64))))))), (.val, (.pair .str (.pair (.sl 9 .str) (.sl 2 (.int .i64)))))], rs := [(.val, (.pair (.sl 70 (.pair (.int .i64) (.pair .str (.int .i64)))) (.pair (.sl 72 (.pair (.int .i64) (.int .i64))) (.sl 74 (.pair (.int .i64) (.pair .str (.int .i64))))))), (.val, .str), (.val, (.int .i64))], F := fun x => Qe.f x.1 x.2 }
def Qe.cs : List (FuncId × Con) := [(64, (Qg.con (fun a0 => Qg.f a0))), (97, Qap.con), (98, Qa2.con), (99, QD.con), (100, QaI.con), (101, Qj.con), (102, Qa.con), (103, QaJ.con), (104, Q6.con), (105, Qax.con), (106, Qaf.con), (107, QaA.con), (108, Qp.con), (109, QZ.con), (110, QG.con), (111, Qba.con), (112, Qai.con), (113, QaB.con)]
def Qe.E : Env := envOf tab Qe.cs 0 false
def Qe.keep (i : Nat) : List Nat := if i = 24 then [2, 3, 4, 16, 130, 131, 132] else []
def Qe.at24 (n : Nat) (x : YF × ByteArray × List ByteArray × List Int) : Code × (Ex → St → Option (YV)) := ctx Qe.E Qe.keep n [.snd, .fst, .snd, .blk, .snd, .no, .snd, .no, .snd, .no, .snd, .no, .snd, .yes, .snd, .fst, .snd, .blk] (Vg Tryz.f65) (kEnd Qe.E Tryz.f65 Qe.con x)
def Qe.LN24 (n : Nat) (x : YF × ByteArray × List ByteArray × List Int) : Nat → St → Option (YV) := loopN (exec Qe.E Qe.keep n (Vj (Qe.at24 n x).1)) (St.norm 0 (Qe.keep 24)) (Qe.at24 n x).2
set_option maxRecDepth 100000 in
theorem Qe.lem24 (n : Nat) (x : YF × ByteArray × List ByteArray × List Int) : ∀ (k : Nat) (q : List YA) (r : Int) (s : Int) (d2 : YD × YE × List YA) (c3 : ByteArray × List ByteArray × List Int) (p : List ByteArray) (w4 : List YA) (w5 : List YC) (w6 : List YA), Qe.LN24 n x k (Qe.st24 q r s d2 c3 p w4 w5 w6) = Qe.l24 n k q r s d2 c3 p w4 w5 w6 := by
 intro k
 induction k with
 | zero => intro q r s d2 c3 p w4 w5 w6; rfl
 | succ k ih =>
  intro q r s d2 c3 p w4 w5 w6
  have h : Qe.LN24 n x (k + 1) (Qe.st24 q r s d2 c3 p w4 w5 w6) = Qe.g24 (fun q r s d2 c3 p w4 w5 w6 => Qe.LN24 n x k (Qe.st24 q r s d2 c3 p w4 w5 w6)) q r s d2 c3 p w4 w5 w6 := by kernel_rfl
  rw [h]
  simp only [ih]
  rfl
set_option maxRecDepth 100000 in
theorem Qe.body (n : Nat) (x : YF × ByteArray × List ByteArray × List Int) : bodyF Qe.E Qe.keep n Tryz.f65 Qe.con x = Qe.fn n x.1 x.2 := by
 have h : bodyF Qe.E Qe.keep n Tryz.f65 Qe.con x = Qe.topraw (fun q r s d2 c3 p w4 w5 w6 => Qe.LN24 n x n (Qe.st24 q r s d2 c3 p w4 w5 w6)) x.1 x.2 := by kernel_rfl
 rw [Qe.topraw_eq] at h
 rw [h]
 simp only [Qe.lem24]
 rfl
set_option maxRecDepth 100000 in
theorem Qe.good : Good Tryz.prog 65 Qe.con :=
 Vf tabok (cs := Qe.cs) ⟨Qg.good, Qap.good, Qa2.good, QD.good, QaI.good, Qj.good, Qa.good, QaJ.good, Q6.good, Qax.good, Qaf.good, QaA.good, Qp.good, QZ.good, QG.good, Qba.good, Qai.good, QaB.good, trivial⟩ 0 false (fn := Tryz.f65) Tryz.func65 rfl (by decide) (by simp [Qe.con]) Qe.keep NN (fun _ => rfl) (fun x => Qe.body NN x)
end
end Go.Ev.Tryz

namespace Go.Ev.Tryz
open Go.Proofs Go.Pl
set_option linter.unusedVariables false
noncomputable section
def QS.st11 (v37 : List ByteArray) (v38 : Int) (v39 : Int) (p : List ByteArray) (d7 : YD × YE × List YA) (w3 : List YA) (w4 : List YC) (w5 : List YA) : St := ⟨[.gone, .gone, .gone, .ptr 0 [], .gone, .gone, .ref 1, .ptr 2 [], .gone, .gone, .gone, .gone, .gone, .gone, .gone, .gone, .gone, .gone, .gone, .gone, .gone, .gone, .gone, .gone, .gone, .gone, .gone, .gone, .gone, .gone, .gone, .gone, .gone, .gone, .gone, .gone, .gone, .dat (.sl 9 .str) v37, .dat (.int .i64) v38, .dat (.int .i64) v39, .gone, .gone, .gone, .gone, .gone, .gone, .gone, .gone, .gone, .gone, .gone, .gone, .gone, .gone, .gone, .gone, .gone, .gone, .gone, .gone, .gone, .gone, .gone, .gone, .gone, .gone, .gone, .gone, .gone, .gone, .gone, .gone, .gone, .gone, .gone, .gone, .gone, .gone], [.box 35 (.pair (.sl 70 (.pair (.int .i64) (.pair .str (.int .i64)))) (.pair (.sl 72 (.pair (.int .i64) (.int .i64))) (.sl 74 (.pair (.int .i64) (.pair .str (.int .i64)))))) (.pr (.ref 3) (.pr (.ref 4) (.ref 5))), .row 9 .str p none, .box 35 (.pair (.sl 70 (.pair (.int .i64) (.pair .str (.int .i64)))) (.pair (.sl 72 (.pair (.int .i64) (.int .i64))) (.sl 74 (.pair (.int .i64) (.pair .str (.int .i64)))))) (.dat (.pair (.sl 70 (.pair (.int .i64) (.pair .str (.int .i64)))) (.pair (.sl 72 (.pair (.int .i64) (.int .i64))) (.sl 74 (.pair (.int .i64) (.pair .str (.int .i64)))))) d7), .row 70 (.pair (.int .i64) (.pair .str (.int .i64))) w3 none, .row 72 (.pair (.int .i64) (.int .i64)) w4 none, .row 74 (.pair (.int .i64) (.pair .str (.int .i64))) w5 none]⟩
def QS.con : Con := { ps := [(.val, .str)], rs := [(.own, (.sl 9 .str)), (.val, (.pair (.sl 70 (.pair (.int .i64) (.pair .str (.int .i64)))) (.pair (.sl 72 (.pair (.int .i64) (.int .i64))) (.sl 74 (.pair (.int .i64) (.pair .str (.int .i64))))))), (.val, (.int .i64))], F := fun x => QS.f x }
def QS.cs : List (FuncId × Con) := [(40, QA.con), (63, Q0.con), (64, (Qg.con (fun a0 => Qg.f a0))), (65, Qe.con)]
def QS.E : Env := envOf tab QS.cs 0 false
def QS.keep (i : Nat) : List Nat := if i = 11 then [3, 6, 7, 37, 38, 39, 100037, 100007, 200007] else []
def QS.at11 (n : Nat) (x : ByteArray) : Code × (Ex → St → Option (YAJ)) := ctx QS.E QS.keep n [.snd, .snd, .snd, .snd, .snd, .snd, .snd, .fst, .snd, .blk] (Vg Tryz.f33) (kEnd QS.E Tryz.f33 QS.con x)
def QS.LN11 (n : Nat) (x : ByteArray) : Nat → St → Option (YAJ) := loopN (exec QS.E QS.keep n (Vj (QS.at11 n x).1)) (St.norm 0 (QS.keep 11)) (QS.at11 n x).2
set_option maxRecDepth 100000 in
theorem QS.lem11 (n : Nat) (x : ByteArray) : ∀ (k : Nat) (v37 : List ByteArray) (v38 : Int) (v39 : Int) (p : List ByteArray) (d7 : YD × YE × List YA) (w3 : List YA) (w4 : List YC) (w5 : List YA), QS.LN11 n x k (QS.st11 v37 v38 v39 p d7 w3 w4 w5) = QS.l11 n k v37 v38 v39 p d7 w3 w4 w5 := by
 intro k
 induction k with
 | zero => intro v37 v38 v39 p d7 w3 w4 w5; rfl
 | succ k ih =>
  intro v37 v38 v39 p d7 w3 w4 w5
  have h : QS.LN11 n x (k + 1) (QS.st11 v37 v38 v39 p d7 w3 w4 w5) = QS.g11 (fun v37 v38 v39 p d7 w3 w4 w5 => QS.LN11 n x k (QS.st11 v37 v38 v39 p d7 w3 w4 w5)) v37 v38 v39 p d7 w3 w4 w5 := by kernel_rfl
  rw [h]
  simp only [ih]
  rfl
set_option maxRecDepth 100000 in
theorem QS.body (n : Nat) (x : ByteArray) : bodyF QS.E QS.keep n Tryz.f33 QS.con x = QS.fn n x := by
 have h : bodyF QS.E QS.keep n Tryz.f33 QS.con x = QS.top (fun v37 v38 v39 p d7 w3 w4 w5 => QS.LN11 n x n (QS.st11 v37 v38 v39 p d7 w3 w4 w5)) x := by kernel_rfl
 rw [h]
 simp only [QS.lem11]
 rfl
set_option maxRecDepth 100000 in
theorem QS.good : Good Tryz.prog 33 QS.con :=
 Vf tabok (cs := QS.cs) ⟨QA.good, Q0.good, Qg.good, Qe.good, trivial⟩ 0 false (fn := Tryz.f33) Tryz.func33 rfl (by decide) (by simp [QS.con]) QS.keep NN (fun _ => rfl) (fun x => QS.body NN x)
end
end Go.Ev.Tryz

namespace Go.Ev.Tryz
open Go.Proofs Go.Pl
set_option linter.unusedVariables false
noncomputable section
def QaK.con : Con := { ps := [(.val, .str)], rs := [(.val, (.pair (.sl 70 (.pair (.int .i64) (.pair .str (.int .i64)))) (.pair (.sl 72 (.pair (.int .i64) (.int .i64))) (.sl 74 (.pair (.int .i64) (.pair .str (.int .i64))))))), (.val, (.int .i64))], F := fun x => QaK.f x }
def QaK.cs : List (FuncId × Con) := [(33, QS.con)]
def QaK.E : Env := envOf tab QaK.cs 0 false
def QaK.keep (i : Nat) : List Nat := []
set_option maxRecDepth 100000 in
theorem QaK.body (n : Nat) (x : ByteArray) : bodyF QaK.E QaK.keep n Tryz.f19 QaK.con x = QaK.fn n x := by
 have h : bodyF QaK.E QaK.keep n Tryz.f19 QaK.con x = QaK.top x := by kernel_rfl
 exact h
set_option maxRecDepth 100000 in
theorem QaK.good : Good Tryz.prog 19 QaK.con :=
 Vf tabok (cs := QaK.cs) ⟨QS.good, trivial⟩ 0 false (fn := Tryz.f19) Tryz.func19 rfl (by decide) (by simp [QaK.con]) QaK.keep NN (fun _ => rfl) (fun x => QaK.body NN x)
end
end Go.Ev.Tryz

namespace Go.Ev.Tryz
open Go.Proofs Go.Pl
set_option linter.unusedVariables false
noncomputable section
def Qd.con : Con := { ps := [(.bx 86, (.pair (.sl 5 (.int .u8)) (.pair (.int .i64) (.int .i64)))), (.val, (.int .i64))], rs := [(.val, (.int .i64))], F := fun x => Qd.f x.1 x.2 }
def Qd.cs : List (FuncId × Con) := []
def Qd.E : Env := envOf tab Qd.cs 1 false
def Qd.keep (i : Nat) : List Nat := []
set_option maxRecDepth 100000 in
theorem Qd.body (n : Nat) (x : YI × Int) : bodyF Qd.E Qd.keep n Tryz.f38 Qd.con x = Qd.fn n x.1 x.2 := by
 have h : bodyF Qd.E Qd.keep n Tryz.f38 Qd.con x = Qd.top x.1 x.2 := by kernel_rfl
 exact h
set_option maxRecDepth 100000 in
theorem Qd.good : Good Tryz.prog 38 Qd.con :=
 Vf tabok (cs := Qd.cs) trivial 1 false (fn := Tryz.f38) Tryz.func38 rfl (by decide) (by simp [Qd.con]) Qd.keep NN (fun _ => rfl) (fun x => Qd.body NN x)
end
end Go.Ev.Tryz

namespace Go.Ev.Tryz
open Go.Proofs Go.Pl
set_option linter.unusedVariables false
noncomputable section
def QaH.con : Con := { ps := [(.bx 86, (.pair (.sl 5 (.int .u8)) (.pair (.int .i64) (.int .i64))))], rs := [(.val, .str)], F := fun x => QaH.f x }
def QaH.cs : List (FuncId × Con) := [(38, Qd.con)]
def QaH.E : Env := envOf tab QaH.cs 1 false
def QaH.keep (i : Nat) : List Nat := []
set_option maxRecDepth 100000 in
theorem QaH.body (n : Nat) (x : List Int × Int × Int) : bodyF QaH.E QaH.keep n Tryz.f66 QaH.con x = QaH.fn n x := by
 have h : bodyF QaH.E QaH.keep n Tryz.f66 QaH.con x = QaH.top x := by kernel_rfl
 exact h
set_option maxRecDepth 100000 in
theorem QaH.good : Good Tryz.prog 66 QaH.con :=
 Vf tabok (cs := QaH.cs) ⟨Qd.good, trivial⟩ 1 false (fn := Tryz.f66) Tryz.func66 rfl (by decide) (by simp [QaH.con]) QaH.keep NN (fun _ => rfl) (fun x => QaH.body NN x)
end
end Go.Ev.Tryz

namespace Go.Ev.Tryz
open Go.Proofs Go.Pl
set_option linter.unusedVariables false
noncomputable section
def QaQ.con : Con := { ps := [], rs := [(.own, (.sl 9 .str))], F := fun x => QaQ.f  }
def QaQ.cs : List (FuncId × Con) := []
def QaQ.E : Env := envOf tab QaQ.cs 0 false
def QaQ.keep (i : Nat) : List Nat := []
set_option maxRecDepth 100000 in
theorem QaQ.body (n : Nat) (x : Unit) : bodyF QaQ.E QaQ.keep n Tryz.f67 QaQ.con x = QaQ.fn n  := by
 have h : bodyF QaQ.E QaQ.keep n Tryz.f67 QaQ.con x = QaQ.top  := by kernel_rfl
 exact h
set_option maxRecDepth 100000 in
theorem QaQ.good : Good Tryz.prog 67 QaQ.con :=
 Vf tabok (cs := QaQ.cs) trivial 0 false (fn := Tryz.f67) Tryz.func67 rfl (by decide) (by simp [QaQ.con]) QaQ.keep NN (fun _ => rfl) (fun x => QaQ.body NN x)
end
end Go.Ev.Tryz

namespace Go.Ev.Tryz
open Go.Proofs Go.Pl
set_option linter.unusedVariables false
noncomputable section
def QaL.con : Con := { ps := [(.val, (.int .i64))], rs := [(.val, .str)], F := fun x => QaL.f x }
def QaL.cs : List (FuncId × Con) := [(68, (Qf.con (fun a0 => Qf.f a0)))]
def QaL.E : Env := envOf tab QaL.cs 0 false
def QaL.keep (i : Nat) : List Nat := []
set_option maxRecDepth 100000 in
theorem QaL.body (n : Nat) (x : Int) : bodyF QaL.E QaL.keep n Tryz.f69 QaL.con x = QaL.fn n x := by
 have h : bodyF QaL.E QaL.keep n Tryz.f69 QaL.con x = QaL.top x := by kernel_rfl
 exact h
set_option maxRecDepth 100000 in
theorem QaL.good : Good Tryz.prog 69 QaL.con :=
 Vf tabok (cs := QaL.cs) ⟨Qf.good, trivial⟩ 0 false (fn := Tryz.f69) Tryz.func69 rfl (by decide) (by simp [QaL.con]) QaL.keep NN (fun _ => rfl) (fun x => QaL.body NN x)
end
end Go.Ev.Tryz

namespace Go.Ev.Tryz
open Go.Proofs Go.Pl
set_option linter.unusedVariables false
noncomputable section
def Qae.con : Con := { ps := [(.bx 86, (.pair (.sl 5 (.int .u8)) (.pair (.int .i64) (.int .i64)))), (.val, (.sl 2 (.int .i64)))], rs := [(.val, (.int .i64))], F := fun x => Qae.f x.1 x.2 }
def Qae.cs : List (FuncId × Con) := [(38, Qd.con)]
def Qae.E : Env := envOf tab Qae.cs 1 false
def Qae.keep (i : Nat) : List Nat := []
set_option maxRecDepth 100000 in
theorem Qae.body (n : Nat) (x : YI × List Int) : bodyF Qae.E Qae.keep n Tryz.f70 Qae.con x = Qae.fn n x.1 x.2 := by
 have h : bodyF Qae.E Qae.keep n Tryz.f70 Qae.con x = Qae.top x.1 x.2 := by kernel_rfl
 exact h
set_option maxRecDepth 100000 in
theorem Qae.good : Good Tryz.prog 70 Qae.con :=
 Vf tabok (cs := Qae.cs) ⟨Qd.good, trivial⟩ 1 false (fn := Tryz.f70) Tryz.func70 rfl (by decide) (by simp [Qae.con]) Qae.keep NN (fun _ => rfl) (fun x => Qae.body NN x)
end
end Go.Ev.Tryz

namespace Go.Ev.Tryz
open Go.Proofs Go.Pl
set_option linter.unusedVariables false
noncomputable section
def Qc.st1000016 (p : ByteArray) (q : ByteArray) (v18 : Int) (v58 : Bool) (s0 : List Int × Int × Int) : St := ⟨[.ptr 0 [], .gone, .gone, .gone, .dat .str p, .dat .str q, .gone, .gone, .gone, .gone, .gone, .gone, .gone, .gone, .gone, .gone, .gone, .gone, .dat (.int .i64) v18, .gone, .gone, .gone, .gone, .gone, .gone, .gone, .gone, .gone, .gone, .gone, .gone, .gone, .gone, .gone, .gone, .gone, .gone, .gone, .gone, .gone, .gone, .gone, .gone, .gone, .gone, .gone, .gone, .gone, .gone, .gone, .gone, .gone, .gone, .gone, .gone, .gone, .gone, .gone, .dat .bool v58, .gone, .gone, .gone, .gone, .gone, .gone, .gone, .gone, .gone, .gone, .gone, .gone, .gone, .gone, .gone, .gone, .gone, .gone, .gone, .gone, .gone, .gone, .gone, .gone, .gone, .gone, .gone, .gone, .gone, .gone, .gone, .gone, .gone, .gone, .gone, .gone, .gone, .gone, .gone, .gone, .gone, .gone, .gone, .gone, .gone, .gone, .gone, .gone, .gone, .gone, .gone, .gone, .gone, .gone, .gone, .gone, .gone, .gone, .gone, .gone, .gone, .gone, .gone, .gone, .gone, .gone, .gone, .gone, .gone, .gone, .gone, .gone, .gone, .gone, .gone, .gone, .gone, .gone, .gone, .gone, .gone, .gone, .gone, .gone, .gone, .gone], [.box 86 (.pair (.sl 5 (.int .u8)) (.pair (.int .i64) (.int .i64))) (.dat (.pair (.sl 5 (.int .u8)) (.pair (.int .i64) (.int .i64))) s0)]⟩
def Qc.tr0 (r17 : YJ) (r18 : YR) (r19 : YR) : Option YG :=
 (Qf.f (IntKind.i64.wrap (3 + r19.1))).bind fun r20 =>
 if (((⟨#[115, 105, 103, 110, 97, 108, 32]⟩ : ByteArray) ++ (r17.getD (r18.1 : Int).toNat ByteArray.empty)) ++ (⟨#[32]⟩ : ByteArray)).size + r20.size ≤ 9223372036854775807 then
  some ((((⟨#[115, 105, 103, 110, 97, 108, 32]⟩ : ByteArray) ++ (r17.getD (r18.1 : Int).toNat ByteArray.empty)) ++ (⟨#[32]⟩ : ByteArray)) ++ r20, r19.2)
 else
  none
def Qc.tr1 (s0 : List Int × Int × Int) : Option YG :=
 (QaP.f).bind fun r17 =>
 (Qae.f s0 ([2, 2, 4, 5, 6, 7, 7])).bind fun r18 =>
 if (0 : Int) ≤ r18.1 ∧ (r18.1 : Int) < r17.length then
  agree (
   if (⟨#[115, 105, 103, 110, 97, 108, 32]⟩ : ByteArray).size + (r17.getD (r18.1 : Int).toNat ByteArray.empty).size ≤ 9223372036854775807 then
    if ((⟨#[115, 105, 103, 110, 97, 108, 32]⟩ : ByteArray) ++ (r17.getD (r18.1 : Int).toNat ByteArray.empty)).size + (⟨#[32]⟩ : ByteArray).size ≤ 9223372036854775807 then
     (Qd.f r18.2 9).bind fun r19 =>
     Qc.tr0 r17 r18 r19
    else
     none
   else
    none
  ) (
   (Qd.f r18.2 9).bind fun r19 =>
   if (⟨#[115, 105, 103, 110, 97, 108, 32]⟩ : ByteArray).size + (r17.getD (r18.1 : Int).toNat ByteArray.empty).size ≤ 9223372036854775807 then
    if ((⟨#[115, 105, 103, 110, 97, 108, 32]⟩ : ByteArray) ++ (r17.getD (r18.1 : Int).toNat ByteArray.empty)).size + (⟨#[32]⟩ : ByteArray).size ≤ 9223372036854775807 then
     Qc.tr0 r17 r18 r19
    else
     none
   else
    none
  )
 else
  none
def Qc.tr2 (r21 : YR) (r22 : YR) (r23 : ByteArray) : Option YG :=
 if (([(⟨#[115, 116, 97, 116, 101, 32]⟩ : ByteArray), (⟨#[102, 105, 114, 101, 32]⟩ : ByteArray)]).getD (r21.1 : Int).toNat ByteArray.empty).size + r23.size ≤ 9223372036854775807 then
  some ((([(⟨#[115, 116, 97, 116, 101, 32]⟩ : ByteArray), (⟨#[102, 105, 114, 101, 32]⟩ : ByteArray)]).getD (r21.1 : Int).toNat ByteArray.empty) ++ r23, r22.2)
 else
  none
def Qc.tr3 (r21 : YR) (r22 : YR) : Option YG :=
 (Qf.f r22.1).bind fun r23 =>
 Qc.tr2 r21 r22 r23
def Qc.tr4 (r21 : YR) : Option YG :=
 (Qd.f r21.2 12).bind fun r22 =>
 Qc.tr3 r21 r22
def Qc.tr5 (r21 : YR) : Option YG :=
 if (0 : Int) ≤ r21.1 ∧ (r21.1 : Int) < ([(⟨#[115, 116, 97, 116, 101, 32]⟩ : ByteArray), (⟨#[102, 105, 114, 101, 32]⟩ : ByteArray)]).length then
  agree (
   Qc.tr4 r21
  ) (
   Qc.tr4 r21
  )
 else
  none
def Qc.tr6 (r33 : YR) (r34 : YR) (r35 : ByteArray) : Option YG :=
 if (([(⟨#[116, 111, 112, 32]⟩ : ByteArray), (⟨#[116, 105, 109, 101, 32]⟩ : ByteArray)]).getD (r33.1 : Int).toNat ByteArray.empty).size + r35.size ≤ 9223372036854775807 then
  some ((([(⟨#[116, 111, 112, 32]⟩ : ByteArray), (⟨#[116, 105, 109, 101, 32]⟩ : ByteArray)]).getD (r33.1 : Int).toNat ByteArray.empty) ++ r35, r34.2)
 else
  none
def Qc.tr7 (r33 : YR) (r34 : YR) : Option YG :=
 (Qf.f r34.1).bind fun r35 =>
 Qc.tr6 r33 r34 r35
def Qc.tr8 (r33 : YR) : Option YG :=
 (Qd.f r33.2 90000).bind fun r34 =>
 Qc.tr7 r33 r34
def Qc.tr9 (r33 : YR) : Option YG :=
 if (0 : Int) ≤ r33.1 ∧ (r33.1 : Int) < ([(⟨#[116, 111, 112, 32]⟩ : ByteArray), (⟨#[116, 105, 109, 101, 32]⟩ : ByteArray)]).length then
  agree (
   Qc.tr8 r33
  ) (
   Qc.tr8 r33
  )
 else
  none
def Qc.g1000016raw (L1000016 : YAM) (p : ByteArray) (q : ByteArray) (v18 : Int) (v58 : Bool) (s0 : List Int × Int × Int) : Option YG :=
 if v58 = true then
  agree (
   Qc.tr1 s0
  ) (
   Qc.tr1 s0
  )
 else if ((v18 : Int) == 7) = true then
  agree (
   (Qd.f s0 2).bind fun r21 =>
   Qc.tr5 r21
  ) (
   (Qd.f s0 2).bind fun r21 =>
   agree (
    Qc.tr5 r21
   ) (
    (Qd.f r21.2 12).bind fun r22 =>
    agree (
     if (0 : Int) ≤ r21.1 ∧ (r21.1 : Int) < ([(⟨#[115, 116, 97, 116, 101, 32]⟩ : ByteArray), (⟨#[102, 105, 114, 101, 32]⟩ : ByteArray)]).length then
      Qc.tr3 r21 r22
     else
      none
    ) (
     (Qf.f r22.1).bind fun r23 =>
     if (0 : Int) ≤ r21.1 ∧ (r21.1 : Int) < ([(⟨#[115, 116, 97, 116, 101, 32]⟩ : ByteArray), (⟨#[102, 105, 114, 101, 32]⟩ : ByteArray)]).length then
      Qc.tr2 r21 r22 r23
     else
      none
    )
   )
  )
 else if ((v18 : Int) == 8) = true then
  (Qd.f s0 1200).bind fun r24 =>
  (Qf.f r24.1).bind fun r25 =>
  if (⟨#[102, 105, 114, 101, 32]⟩ : ByteArray).size + r25.size ≤ 9223372036854775807 then
   some ((⟨#[102, 105, 114, 101, 32]⟩ : ByteArray) ++ r25, r24.2)
  else
   none
 else if ((v18 : Int) == 9) = true then
  if (⟨#[98, 111, 111, 107, 32, 105, 110, 32]⟩ : ByteArray).size + p.size ≤ 9223372036854775807 then
   if ((⟨#[98, 111, 111, 107, 32, 105, 110, 32]⟩ : ByteArray) ++ p).size + (⟨#[32]⟩ : ByteArray).size ≤ 9223372036854775807 then
    if (((⟨#[98, 111, 111, 107, 32, 105, 110, 32]⟩ : ByteArray) ++ p) ++ (⟨#[32]⟩ : ByteArray)).size + q.size ≤ 9223372036854775807 then
     some ((((⟨#[98, 111, 111, 107, 32, 105, 110, 32]⟩ : ByteArray) ++ p) ++ (⟨#[32]⟩ : ByteArray)) ++ q, s0)
    else
     none
   else
    none
  else
   none
 else if ((v18 : Int) == 10) = true then
  (Qd.f s0 3).bind fun r26 =>
  if (0 : Int) ≤ r26.1 ∧ (r26.1 : Int) < ([(⟨#[102, 105, 114, 101, 100]⟩ : ByteArray), (⟨#[114, 101, 116, 117, 114, 110, 101, 100]⟩ : ByteArray), (⟨#[100, 101, 115, 116, 114, 111, 121, 101, 100]⟩ : ByteArray)]).length then
   if (⟨#[98, 111, 111, 107, 32]⟩ : ByteArray).size + (([(⟨#[102, 105, 114, 101, 100]⟩ : ByteArray), (⟨#[114, 101, 116, 117, 114, 110, 101, 100]⟩ : ByteArray), (⟨#[100, 101, 115, 116, 114, 111, 121, 101, 100]⟩ : ByteArray)]).getD (r26.1 : Int).toNat ByteArray.empty).size ≤ 9223372036854775807 then
    if ((⟨#[98, 111, 111, 107, 32]⟩ : ByteArray) ++ (([(⟨#[102, 105, 114, 101, 100]⟩ : ByteArray), (⟨#[114, 101, 116, 117, 114, 110, 101, 100]⟩ : ByteArray), (⟨#[100, 101, 115, 116, 114, 111, 121, 101, 100]⟩ : ByteArray)]).getD (r26.1 : Int).toNat ByteArray.empty)).size + (⟨#[32]⟩ : ByteArray).size ≤ 9223372036854775807 then
     if (((⟨#[98, 111, 111, 107, 32]⟩ : ByteArray) ++ (([(⟨#[102, 105, 114, 101, 100]⟩ : ByteArray), (⟨#[114, 101, 116, 117, 114, 110, 101, 100]⟩ : ByteArray), (⟨#[100, 101, 115, 116, 114, 111, 121, 101, 100]⟩ : ByteArray)]).getD (r26.1 : Int).toNat ByteArray.empty)) ++ (⟨#[32]⟩ : ByteArray)).size + p.size ≤ 9223372036854775807 then
      if ((((⟨#[98, 111, 111, 107, 32]⟩ : ByteArray) ++ (([(⟨#[102, 105, 114, 101, 100]⟩ : ByteArray), (⟨#[114, 101, 116, 117, 114, 110, 101, 100]⟩ : ByteArray), (⟨#[100, 101, 115, 116, 114, 111, 121, 101, 100]⟩ : ByteArray)]).getD (r26.1 : Int).toNat ByteArray.empty)) ++ (⟨#[32]⟩ : ByteArray)) ++ p).size + (⟨#[32]⟩ : ByteArray).size ≤ 9223372036854775807 then
       if (((((⟨#[98, 111, 111, 107, 32]⟩ : ByteArray) ++ (([(⟨#[102, 105, 114, 101, 100]⟩ : ByteArray), (⟨#[114, 101, 116, 117, 114, 110, 101, 100]⟩ : ByteArray), (⟨#[100, 101, 115, 116, 114, 111, 121, 101, 100]⟩ : ByteArray)]).getD (r26.1 : Int).toNat ByteArray.empty)) ++ (⟨#[32]⟩ : ByteArray)) ++ p) ++ (⟨#[32]⟩ : ByteArray)).size + q.size ≤ 9223372036854775807 then
        some ((((((⟨#[98, 111, 111, 107, 32]⟩ : ByteArray) ++ (([(⟨#[102, 105, 114, 101, 100]⟩ : ByteArray), (⟨#[114, 101, 116, 117, 114, 110, 101, 100]⟩ : ByteArray), (⟨#[100, 101, 115, 116, 114, 111, 121, 101, 100]⟩ : ByteArray)]).getD (r26.1 : Int).toNat ByteArray.empty)) ++ (⟨#[32]⟩ : ByteArray)) ++ p) ++ (⟨#[32]⟩ : ByteArray)) ++ q, r26.2)
       else
        none
      else
       none
     else
      none
    else
     none
   else
    none
  else
   none
 else if ((v18 : Int) == 11) = true then
  if (⟨#[108, 101, 102, 116, 32]⟩ : ByteArray).size + p.size ≤ 9223372036854775807 then
   (Qd.f s0 2).bind fun r27 =>
   if (0 : Int) ≤ r27.1 ∧ (r27.1 : Int) < ([(⟨#[108, 101, 102, 116, 32]⟩ : ByteArray) ++ p, (⟨#[111, 112, 101, 110]⟩ : ByteArray)]).length then
    some (([(⟨#[108, 101, 102, 116, 32]⟩ : ByteArray) ++ p, (⟨#[111, 112, 101, 110]⟩ : ByteArray)]).getD (r27.1 : Int).toNat ByteArray.empty, r27.2)
   else
    none
  else
   none
 else if ((v18 : Int) == 12) = true then
  (Qd.f s0 4).bind fun r28 =>
  (Qf.f r28.1).bind fun r29 =>
  if (⟨#[115, 101, 116, 116, 108, 101, 32]⟩ : ByteArray).size + r29.size ≤ 9223372036854775807 then
   (Qd.f r28.2 5000).bind fun r30 =>
   (Qf.f r30.1).bind fun r31 =>
   if (⟨#[110, 101, 101, 100, 32, 49, 50, 32]⟩ : ByteArray).size + r31.size ≤ 9223372036854775807 then
    (Qd.f r30.2 2).bind fun r32 =>
    if (0 : Int) ≤ r32.1 ∧ (r32.1 : Int) < ([(⟨#[115, 101, 116, 116, 108, 101, 32]⟩ : ByteArray) ++ r29, (⟨#[110, 101, 101, 100, 32, 49, 50, 32]⟩ : ByteArray) ++ r31]).length then
     some (([(⟨#[115, 101, 116, 116, 108, 101, 32]⟩ : ByteArray) ++ r29, (⟨#[110, 101, 101, 100, 32, 49, 50, 32]⟩ : ByteArray) ++ r31]).getD (r32.1 : Int).toNat ByteArray.empty, r32.2)
    else
     none
   else
    none
  else
   none
 else
  agree (
   (Qd.f s0 2).bind fun r33 =>
   Qc.tr9 r33
  ) (
   (Qd.f s0 2).bind fun r33 =>
   agree (
    Qc.tr9 r33
   ) (
    (Qd.f r33.2 90000).bind fun r34 =>
    agree (
     if (0 : Int) ≤ r33.1 ∧ (r33.1 : Int) < ([(⟨#[116, 111, 112, 32]⟩ : ByteArray), (⟨#[116, 105, 109, 101, 32]⟩ : ByteArray)]).length then
      Qc.tr7 r33 r34
     else
      none
    ) (
     (Qf.f r34.1).bind fun r35 =>
     if (0 : Int) ≤ r33.1 ∧ (r33.1 : Int) < ([(⟨#[116, 111, 112, 32]⟩ : ByteArray), (⟨#[116, 105, 109, 101, 32]⟩ : ByteArray)]).length then
      Qc.tr6 r33 r34 r35
     else
      none
    )
   )
  )
theorem Qc.g1000016raw_eq (L1000016 : YAM) (p : ByteArray) (q : ByteArray) (v18 : Int) (v58 : Bool) (s0 : List Int × Int × Int) : Qc.g1000016raw L1000016 p q v18 v58 s0 = Qc.g1000016 L1000016 p q v18 v58 s0 := by
 unfold Qc.g1000016raw Qc.g1000016
 simp only [Vt, Qc.tr0, Qc.tr1, Qc.tr2, Qc.tr3, Qc.tr4, Qc.tr5, Qc.tr6, Qc.tr7, Qc.tr8, Qc.tr9]
def Qc.st1000007 (r : ByteArray) (p : ByteArray) (q : ByteArray) (v18 : Int) (v19 : Bool) (s0 : List Int × Int × Int) : St := ⟨[.ptr 0 [], .gone, .gone, .dat .str r, .dat .str p, .dat .str q, .gone, .gone, .gone, .gone, .gone, .gone, .gone, .gone, .gone, .gone, .gone, .gone, .dat (.int .i64) v18, .dat .bool v19, .gone, .gone, .gone, .gone, .gone, .gone, .gone, .gone, .gone, .gone, .gone, .gone, .gone, .gone, .gone, .gone, .gone, .gone, .gone, .gone, .gone, .gone, .gone, .gone, .gone, .gone, .gone, .gone, .gone, .gone, .gone, .gone, .gone, .gone, .gone, .gone, .gone, .gone, .gone, .gone, .gone, .gone, .gone, .gone, .gone, .gone, .gone, .gone, .gone, .gone, .gone, .gone, .gone, .gone, .gone, .gone, .gone, .gone, .gone, .gone, .gone, .gone, .gone, .gone, .gone, .gone, .gone, .gone, .gone, .gone, .gone, .gone, .gone, .gone, .gone, .gone, .gone, .gone, .gone, .gone, .gone, .gone, .gone, .gone, .gone, .gone, .gone, .gone, .gone, .gone, .gone, .gone, .gone, .gone, .gone, .gone, .gone, .gone, .gone, .gone, .gone, .gone, .gone, .gone, .gone, .gone, .gone, .gone, .gone, .gone, .gone, .gone, .gone, .gone, .gone, .gone, .gone, .gone, .gone, .gone, .gone, .gone, .gone, .gone, .gone], [.box 86 (.pair (.sl 5 (.int .u8)) (.pair (.int .i64) (.int .i64))) (.dat (.pair (.sl 5 (.int .u8)) (.pair (.int .i64) (.int .i64))) s0)]⟩
def Qc.con : Con := { ps := [(.bx 86, (.pair (.sl 5 (.int .u8)) (.pair (.int .i64) (.int .i64))))], rs := [(.val, .str)], F := fun x => Qc.f x }
def Qc.cs : List (FuncId × Con) := [(38, Qd.con), (66, QaH.con), (67, QaQ.con), (68, (Qf.con (fun a0 => Qf.f a0))), (69, QaL.con), (70, Qae.con), (71, QaP.con)]
def Qc.E : Env := envOf tab Qc.cs 1 false
def Qc.keep (i : Nat) : List Nat := if i = 1000016 then [0, 4, 5, 18, 58] else if i = 1000007 then [0, 3, 4, 5, 18, 19] else []
def Qc.at1000016 (n : Nat) (x : List Int × Int × Int) : Code × (Ex → St → Option (YG)) := ctx Qc.E Qc.keep n [.snd, .snd, .snd, .snd, .fst, .snd, .blk, .snd, .no, .snd, .no, .snd, .no, .snd, .no, .snd] (Vg Tryz.f37) (kEnd Qc.E Tryz.f37 Qc.con x)
def Qc.LN1000016 (n : Nat) (x : List Int × Int × Int) : Nat → St → Option (YG) := cutN (exec Qc.E Qc.keep n (Qc.at1000016 n x).1 (Qc.at1000016 n x).2)
def Qc.at1000007 (n : Nat) (x : List Int × Int × Int) : Code × (Ex → St → Option (YG)) := ctx Qc.E Qc.keep n [.snd, .snd, .snd, .snd, .fst, .snd, .blk, .snd] (Vg Tryz.f37) (kEnd Qc.E Tryz.f37 Qc.con x)
def Qc.LN1000007 (n : Nat) (x : List Int × Int × Int) : Nat → St → Option (YG) := cutN (exec Qc.E Qc.keep n (Qc.at1000007 n x).1 (Qc.at1000007 n x).2)
set_option maxRecDepth 100000 in
theorem Qc.lem1000016 (n : Nat) (x : List Int × Int × Int) : ∀ (k : Nat) (p : ByteArray) (q : ByteArray) (v18 : Int) (v58 : Bool) (s0 : List Int × Int × Int), Qc.LN1000016 n x k (Qc.st1000016 p q v18 v58 s0) = Qc.l1000016 n k p q v18 v58 s0 := by
 intro k
 induction k with
 | zero => intro p q v18 v58 s0; rfl
 | succ k ih =>
  intro p q v18 v58 s0
  have h : Qc.LN1000016 n x (k + 1) (Qc.st1000016 p q v18 v58 s0) = Qc.g1000016raw (fun p q v18 v58 s0 => Qc.LN1000016 n x k (Qc.st1000016 p q v18 v58 s0)) p q v18 v58 s0 := by kernel_rfl
  rw [Qc.g1000016raw_eq] at h
  rw [h]
  simp only [ih]
  rfl
set_option maxRecDepth 100000 in
theorem Qc.lem1000007 (n : Nat) (x : List Int × Int × Int) : ∀ (k : Nat) (r : ByteArray) (p : ByteArray) (q : ByteArray) (v18 : Int) (v19 : Bool) (s0 : List Int × Int × Int), Qc.LN1000007 n x k (Qc.st1000007 r p q v18 v19 s0) = Qc.l1000007 n k r p q v18 v19 s0 := by
 intro k
 induction k with
 | zero => intro r p q v18 v19 s0; rfl
 | succ k ih =>
  intro r p q v18 v19 s0
  have h : Qc.LN1000007 n x (k + 1) (Qc.st1000007 r p q v18 v19 s0) = Qc.g1000007 (fun p q v18 v58 s0 => Qc.LN1000016 n x n (Qc.st1000016 p q v18 v58 s0)) (fun r p q v18 v19 s0 => Qc.LN1000007 n x k (Qc.st1000007 r p q v18 v19 s0)) r p q v18 v19 s0 := by kernel_rfl
  rw [h]
  simp only [ih, Qc.lem1000016]
  rfl
set_option maxRecDepth 100000 in
theorem Qc.body (n : Nat) (x : List Int × Int × Int) : bodyF Qc.E Qc.keep n Tryz.f37 Qc.con x = Qc.fn n x := by
 have h : bodyF Qc.E Qc.keep n Tryz.f37 Qc.con x = Qc.top (fun r p q v18 v19 s0 => Qc.LN1000007 n x n (Qc.st1000007 r p q v18 v19 s0)) x := by kernel_rfl
 rw [h]
 simp only [Qc.lem1000007]
 rfl
set_option maxRecDepth 100000 in
theorem Qc.good : Good Tryz.prog 37 Qc.con :=
 Vf tabok (cs := Qc.cs) ⟨Qd.good, QaH.good, QaQ.good, Qf.good, QaL.good, Qae.good, QaP.good, trivial⟩ 1 false (fn := Tryz.f37) Tryz.func37 rfl (by decide) (by simp [Qc.con]) Qc.keep NN (fun _ => rfl) (fun x => Qc.body NN x)
end
end Go.Ev.Tryz

namespace Go.Ev.Tryz
open Go.Proofs Go.Pl
set_option linter.unusedVariables false
noncomputable section
def Qao.tr0 (t1 : ByteArray) (r1 : YR) (r2 : YR) : Option YG :=
 (Qd.f r2.2 8).bind fun r3 =>
 if (0 : Int) ≤ r3.1 ∧ (r3.1 : Int) < ([(⟨#[48]⟩ : ByteArray), (⟨#[35]⟩ : ByteArray), (⟨#[46]⟩ : ByteArray), (⟨#[47]⟩ : ByteArray), (⟨#[32]⟩ : ByteArray), (⟨#[97]⟩ : ByteArray), (⟨#[45]⟩ : ByteArray), (⟨#[10]⟩ : ByteArray)]).length then
  if (t1.extract 0 (r1.1 : Int).toNat).size + (([(⟨#[48]⟩ : ByteArray), (⟨#[35]⟩ : ByteArray), (⟨#[46]⟩ : ByteArray), (⟨#[47]⟩ : ByteArray), (⟨#[32]⟩ : ByteArray), (⟨#[97]⟩ : ByteArray), (⟨#[45]⟩ : ByteArray), (⟨#[10]⟩ : ByteArray)]).getD (r3.1 : Int).toNat ByteArray.empty).size ≤ 9223372036854775807 then
   if ((t1.extract 0 (r1.1 : Int).toNat) ++ (([(⟨#[48]⟩ : ByteArray), (⟨#[35]⟩ : ByteArray), (⟨#[46]⟩ : ByteArray), (⟨#[47]⟩ : ByteArray), (⟨#[32]⟩ : ByteArray), (⟨#[97]⟩ : ByteArray), (⟨#[45]⟩ : ByteArray), (⟨#[10]⟩ : ByteArray)]).getD (r3.1 : Int).toNat ByteArray.empty)).size + (t1.extract (r1.1 : Int).toNat t1.size).size ≤ 9223372036854775807 then
    some (((t1.extract 0 (r1.1 : Int).toNat) ++ (([(⟨#[48]⟩ : ByteArray), (⟨#[35]⟩ : ByteArray), (⟨#[46]⟩ : ByteArray), (⟨#[47]⟩ : ByteArray), (⟨#[32]⟩ : ByteArray), (⟨#[97]⟩ : ByteArray), (⟨#[45]⟩ : ByteArray), (⟨#[10]⟩ : ByteArray)]).getD (r3.1 : Int).toNat ByteArray.empty)) ++ (t1.extract (r1.1 : Int).toNat t1.size), r3.2)
   else
    none
  else
   none
 else
  none
def Qao.topraw (s0 : List Int × Int × Int) (t1 : ByteArray) : Option YG :=
 (Qd.f s0 (IntKind.i64.wrap ((t1.size : Int) + 1))).bind fun r1 =>
 (Qd.f r1.2 8).bind fun r2 =>
 if ((r2.1 : Int) == 0) = true then
  if (0 : Int) ≤ r1.1 ∧ (r1.1 : Int) ≤ t1.size then
   some (t1.extract 0 (r1.1 : Int).toNat, r2.2)
  else
   none
 else if ((r2.1 : Int) == 1) = true then
  if (0 : Int) ≤ r1.1 ∧ (r1.1 : Int) ≤ t1.size then
   if (0 : Int) ≤ r1.1 ∧ (r1.1 : Int) ≤ t1.size then
    agree (
     Qao.tr0 t1 r1 r2
    ) (
     Qao.tr0 t1 r1 r2
    )
   else
    none
  else
   none
 else if ((r2.1 : Int) == 2) = true then
  if (decide ((r1.1 : Int) < (t1.size : Int))) = true then
   if (0 : Int) ≤ r1.1 ∧ (r1.1 : Int) ≤ t1.size then
    if (0 : Int) ≤ (IntKind.i64.wrap (r1.1 + 1)) ∧ ((IntKind.i64.wrap (r1.1 + 1)) : Int) ≤ t1.size then
     if (t1.extract 0 (r1.1 : Int).toNat).size + (t1.extract ((IntKind.i64.wrap (r1.1 + 1)) : Int).toNat t1.size).size ≤ 9223372036854775807 then
      some ((t1.extract 0 (r1.1 : Int).toNat) ++ (t1.extract ((IntKind.i64.wrap (r1.1 + 1)) : Int).toNat t1.size), r2.2)
     else
      none
    else
     none
   else
    none
  else
   some (t1, r2.2)
 else
  some (t1, r2.2)
theorem Qao.topraw_eq (s0 : List Int × Int × Int) (t1 : ByteArray) : Qao.topraw s0 t1 = Qao.top s0 t1 := by
 unfold Qao.topraw Qao.top
 simp only [Vt, Qao.tr0]
def Qao.con : Con := { ps := [(.bx 86, (.pair (.sl 5 (.int .u8)) (.pair (.int .i64) (.int .i64)))), (.val, .str)], rs := [(.val, .str)], F := fun x => Qao.f x.1 x.2 }
def Qao.cs : List (FuncId × Con) := [(38, Qd.con)]
def Qao.E : Env := envOf tab Qao.cs 1 false
def Qao.keep (i : Nat) : List Nat := []
set_option maxRecDepth 100000 in
theorem Qao.body (n : Nat) (x : YI × ByteArray) : bodyF Qao.E Qao.keep n Tryz.f39 Qao.con x = Qao.fn n x.1 x.2 := by
 have h : bodyF Qao.E Qao.keep n Tryz.f39 Qao.con x = Qao.topraw x.1 x.2 := by kernel_rfl
 rw [Qao.topraw_eq] at h
 exact h
set_option maxRecDepth 100000 in
theorem Qao.good : Good Tryz.prog 39 Qao.con :=
 Vf tabok (cs := Qao.cs) ⟨Qd.good, trivial⟩ 1 false (fn := Tryz.f39) Tryz.func39 rfl (by decide) (by simp [Qao.con]) Qao.keep NN (fun _ => rfl) (fun x => Qao.body NN x)
end
end Go.Ev.Tryz

namespace Go.Ev.Tryz
open Go.Proofs Go.Pl
set_option linter.unusedVariables false
noncomputable section
def Qn.st12 (t3 : ByteArray) (k6 : Int) (w0 : List Int × Int × Int) : St := ⟨[.gone, .gone, .gone, .dat .str t3, .gone, .gone, .dat (.int .i64) k6, .gone, .gone, .gone, .gone, .gone, .gone, .gone, .gone, .gone, .gone, .gone, .gone, .gone, .gone, .gone, .gone, .gone, .gone, .gone, .gone, .gone, .gone, .gone, .gone, .gone, .gone, .gone, .gone, .gone, .gone, .gone, .gone, .gone], [.box 86 (.pair (.sl 5 (.int .u8)) (.pair (.int .i64) (.int .i64))) (.dat (.pair (.sl 5 (.int .u8)) (.pair (.int .i64) (.int .i64))) w0)]⟩
def Qn.st3 (t3 : ByteArray) (n4 : Int) (s0 : List Int × Int × Int) : St := ⟨[.ptr 0 [], .gone, .gone, .dat .str t3, .dat (.int .i64) n4, .gone, .gone, .gone, .gone, .gone, .gone, .gone, .gone, .gone, .gone, .gone, .gone, .gone, .gone, .gone, .gone, .gone, .gone, .gone, .gone, .gone, .gone, .gone, .gone, .gone, .gone, .gone, .gone, .gone, .gone, .gone, .gone, .gone, .gone, .gone], [.box 86 (.pair (.sl 5 (.int .u8)) (.pair (.int .i64) (.int .i64))) (.dat (.pair (.sl 5 (.int .u8)) (.pair (.int .i64) (.int .i64))) s0)]⟩
def Qn.con : Con := { ps := [(.bx 86, (.pair (.sl 5 (.int .u8)) (.pair (.int .i64) (.int .i64))))], rs := [(.val, .str)], F := fun x => Qn.f x }
def Qn.cs : List (FuncId × Con) := [(37, Qc.con), (38, Qd.con), (39, Qao.con)]
def Qn.E : Env := envOf tab Qn.cs 1 false
def Qn.keep (i : Nat) : List Nat := if i = 12 then [3, 6] else if i = 3 then [0, 3, 4] else []
def Qn.at12 (n : Nat) (x : List Int × Int × Int) : Code × (Ex → St → Option (YG)) := ctx Qn.E Qn.keep n [.snd, .snd, .snd, .fst, .snd, .blk, .snd, .yes, .snd, .blk] (Vg Tryz.f35) (kEnd Qn.E Tryz.f35 Qn.con x)
def Qn.LN12 (n : Nat) (x : List Int × Int × Int) : Nat → St → Option (YG) := loopN (exec Qn.E Qn.keep n (Vj (Qn.at12 n x).1)) (St.norm 1 (Qn.keep 12)) (Qn.at12 n x).2
def Qn.at3 (n : Nat) (x : List Int × Int × Int) : Code × (Ex → St → Option (YG)) := ctx Qn.E Qn.keep n [.snd, .snd, .fst, .snd, .blk] (Vg Tryz.f35) (kEnd Qn.E Tryz.f35 Qn.con x)
def Qn.LN3 (n : Nat) (x : List Int × Int × Int) : Nat → St → Option (YG) := loopN (exec Qn.E Qn.keep n (Vj (Qn.at3 n x).1)) (St.norm 1 (Qn.keep 3)) (Qn.at3 n x).2
set_option maxRecDepth 100000 in
theorem Qn.lem12 (n : Nat) (x : List Int × Int × Int) : ∀ (k : Nat) (t3 : ByteArray) (k6 : Int) (w0 : List Int × Int × Int), Qn.LN12 n x k (Qn.st12 t3 k6 w0) = Qn.l12 n k t3 k6 w0 := by
 intro k
 induction k with
 | zero => intro t3 k6 w0; rfl
 | succ k ih =>
  intro t3 k6 w0
  have h : Qn.LN12 n x (k + 1) (Qn.st12 t3 k6 w0) = Qn.g12 (fun t3 k6 w0 => Qn.LN12 n x k (Qn.st12 t3 k6 w0)) t3 k6 w0 := by kernel_rfl
  rw [h]
  simp only [ih]
  rfl
set_option maxRecDepth 100000 in
theorem Qn.lem3 (n : Nat) (x : List Int × Int × Int) : ∀ (k : Nat) (t3 : ByteArray) (n4 : Int) (s0 : List Int × Int × Int), Qn.LN3 n x k (Qn.st3 t3 n4 s0) = Qn.l3 n k t3 n4 s0 := by
 intro k
 induction k with
 | zero => intro t3 n4 s0; rfl
 | succ k ih =>
  intro t3 n4 s0
  have h : Qn.LN3 n x (k + 1) (Qn.st3 t3 n4 s0) = Qn.g3 (fun t3 k6 w0 => Qn.LN12 n x n (Qn.st12 t3 k6 w0)) (fun t3 n4 s0 => Qn.LN3 n x k (Qn.st3 t3 n4 s0)) t3 n4 s0 := by kernel_rfl
  rw [h]
  simp only [ih, Qn.lem12]
  rfl
set_option maxRecDepth 100000 in
theorem Qn.body (n : Nat) (x : List Int × Int × Int) : bodyF Qn.E Qn.keep n Tryz.f35 Qn.con x = Qn.fn n x := by
 have h : bodyF Qn.E Qn.keep n Tryz.f35 Qn.con x = Qn.top (fun t3 n4 s0 => Qn.LN3 n x n (Qn.st3 t3 n4 s0)) x := by kernel_rfl
 rw [h]
 simp only [Qn.lem3]
 rfl
set_option maxRecDepth 100000 in
theorem Qn.good : Good Tryz.prog 35 Qn.con :=
 Vf tabok (cs := Qn.cs) ⟨Qc.good, Qd.good, Qao.good, trivial⟩ 1 false (fn := Tryz.f35) Tryz.func35 rfl (by decide) (by simp [Qn.con]) Qn.keep NN (fun _ => rfl) (fun x => Qn.body NN x)
end
end Go.Ev.Tryz

namespace Go.Ev.Tryz
open Go.Proofs Go.Pl
set_option linter.unusedVariables false
noncomputable section
def QW.st3 (p : List Int) (i4 : Int) (s3a : List Int) (q : Int) (r : Int) : St := ⟨[.dat (.sl 5 (.int .u8)) p, .gone, .gone, .ptr 0 [], .dat (.int .i64) i4, .gone, .gone, .gone, .gone, .gone, .gone, .gone, .gone, .gone, .gone, .gone, .gone, .gone, .gone, .gone, .gone, .gone, .gone, .gone, .gone, .gone, .gone, .gone, .gone, .gone, .gone, .gone, .gone, .gone], [.box 86 (.pair (.sl 5 (.int .u8)) (.pair (.int .i64) (.int .i64))) (.pr (.dat (.sl 5 (.int .u8)) s3a) (.pr (.dat (.int .i64) q) (.dat (.int .i64) r)))]⟩
def QW.con : Con := { ps := [(.val, (.sl 5 (.int .u8)))], rs := [(.bx 86, (.pair (.sl 5 (.int .u8)) (.pair (.int .i64) (.int .i64))))], F := fun x => QW.f x }
def QW.cs : List (FuncId × Con) := []
def QW.E : Env := envOf tab QW.cs 0 false
def QW.keep (i : Nat) : List Nat := if i = 3 then [0, 3, 4] else []
def QW.at3 (n : Nat) (x : List Int) : Code × (Ex → St → Option (YI)) := ctx QW.E QW.keep n [.snd, .snd, .fst, .snd, .blk] (Vg Tryz.f36) (kEnd QW.E Tryz.f36 QW.con x)
def QW.LN3 (n : Nat) (x : List Int) : Nat → St → Option (YI) := loopN (exec QW.E QW.keep n (Vj (QW.at3 n x).1)) (St.norm 0 (QW.keep 3)) (QW.at3 n x).2
set_option maxRecDepth 100000 in
theorem QW.lem3 (n : Nat) (x : List Int) : ∀ (k : Nat) (p : List Int) (i4 : Int) (s3a : List Int) (q : Int) (r : Int), QW.LN3 n x k (QW.st3 p i4 s3a q r) = QW.l3 n k p i4 s3a q r := by
 intro k
 induction k with
 | zero => intro p i4 s3a q r; rfl
 | succ k ih =>
  intro p i4 s3a q r
  have h : QW.LN3 n x (k + 1) (QW.st3 p i4 s3a q r) = QW.g3 (fun p i4 s3a q r => QW.LN3 n x k (QW.st3 p i4 s3a q r)) p i4 s3a q r := by kernel_rfl
  rw [h]
  simp only [ih]
  rfl
set_option maxRecDepth 100000 in
theorem QW.body (n : Nat) (x : List Int) : bodyF QW.E QW.keep n Tryz.f36 QW.con x = QW.fn n x := by
 have h : bodyF QW.E QW.keep n Tryz.f36 QW.con x = QW.top (fun p i4 s3a q r => QW.LN3 n x n (QW.st3 p i4 s3a q r)) x := by kernel_rfl
 rw [h]
 simp only [QW.lem3]
 rfl
set_option maxRecDepth 100000 in
theorem QW.good : Good Tryz.prog 36 QW.con :=
 Vf tabok (cs := QW.cs) trivial 0 false (fn := Tryz.f36) Tryz.func36 rfl (by decide) (by simp [QW.con]) QW.keep NN (fun _ => rfl) (fun x => QW.body NN x)
end
end Go.Ev.Tryz

namespace Go.Ev.Tryz
open Go.Proofs Go.Pl
set_option linter.unusedVariables false
noncomputable section
def Qat.con : Con := { ps := [(.val, (.sl 5 (.int .u8)))], rs := [(.val, .str)], F := fun x => Qat.f x }
def Qat.cs : List (FuncId × Con) := [(35, Qn.con), (36, QW.con)]
def Qat.E : Env := envOf tab Qat.cs 0 false
def Qat.keep (i : Nat) : List Nat := []
set_option maxRecDepth 100000 in
theorem Qat.body (n : Nat) (x : List Int) : bodyF Qat.E Qat.keep n Tryz.f23 Qat.con x = Qat.fn n x := by
 have h : bodyF Qat.E Qat.keep n Tryz.f23 Qat.con x = Qat.top x := by kernel_rfl
 exact h
set_option maxRecDepth 100000 in
theorem Qat.good : Good Tryz.prog 23 Qat.con :=
 Vf tabok (cs := Qat.cs) ⟨Qn.good, QW.good, trivial⟩ 0 false (fn := Tryz.f23) Tryz.func23 rfl (by decide) (by simp [Qat.con]) Qat.keep NN (fun _ => rfl) (fun x => Qat.body NN x)
end
end Go.Ev.Tryz

namespace Go.Ev.Tryz
open Go.Proofs Go.Pl
set_option linter.unusedVariables false
noncomputable section
def Q2.st4 (t4 : Int) (n5 : Int) (s0 : List Int × Int × Int) (p : List YA) : St := ⟨[.ptr 0 [], .gone, .gone, .ref 1, .dat (.int .i64) t4, .dat (.int .i64) n5, .gone, .gone, .gone, .gone, .gone, .gone, .gone, .gone, .gone, .gone, .gone, .gone, .gone, .gone, .gone, .gone, .gone, .gone, .gone, .gone, .gone, .gone, .gone, .gone, .gone, .gone, .gone, .gone, .gone, .gone, .gone, .gone, .gone, .gone, .gone, .gone, .gone, .gone, .gone, .gone, .gone, .gone, .gone, .gone, .gone, .gone, .gone, .gone, .gone, .gone, .gone, .gone, .gone, .gone, .gone, .gone, .gone, .gone, .gone], [.box 86 (.pair (.sl 5 (.int .u8)) (.pair (.int .i64) (.int .i64))) (.dat (.pair (.sl 5 (.int .u8)) (.pair (.int .i64) (.int .i64))) s0), .row 70 (.pair (.int .i64) (.pair .str (.int .i64))) p none]⟩
def Q2.con : Con := { ps := [(.bx 86, (.pair (.sl 5 (.int .u8)) (.pair (.int .i64) (.int .i64))))], rs := [(.own, (.sl 70 (.pair (.int .i64) (.pair .str (.int .i64)))))], F := fun x => Q2.f x }
def Q2.cs : List (FuncId × Con) := [(38, Qd.con), (66, QaH.con), (70, Qae.con), (93, QB.con), (114, Qal.con)]
def Q2.E : Env := envOf tab Q2.cs 1 false
def Q2.keep (i : Nat) : List Nat := if i = 4 then [0, 3, 4, 5] else []
def Q2.at4 (n : Nat) (x : List Int × Int × Int) : Code × (Ex → St → Option (YH)) := ctx Q2.E Q2.keep n [.snd, .snd, .snd, .fst, .snd, .blk] (Vg Tryz.f80) (kEnd Q2.E Tryz.f80 Q2.con x)
def Q2.LN4 (n : Nat) (x : List Int × Int × Int) : Nat → St → Option (YH) := loopN (exec Q2.E Q2.keep n (Vj (Q2.at4 n x).1)) (St.norm 1 (Q2.keep 4)) (Q2.at4 n x).2
set_option maxRecDepth 100000 in
theorem Q2.lem4 (n : Nat) (x : List Int × Int × Int) : ∀ (k : Nat) (t4 : Int) (n5 : Int) (s0 : List Int × Int × Int) (p : List YA), Q2.LN4 n x k (Q2.st4 t4 n5 s0 p) = Q2.l4 n k t4 n5 s0 p := by
 intro k
 induction k with
 | zero => intro t4 n5 s0 p; rfl
 | succ k ih =>
  intro t4 n5 s0 p
  have h : Q2.LN4 n x (k + 1) (Q2.st4 t4 n5 s0 p) = Q2.g4 (fun t4 n5 s0 p => Q2.LN4 n x k (Q2.st4 t4 n5 s0 p)) t4 n5 s0 p := by kernel_rfl
  rw [h]
  simp only [ih]
  rfl
set_option maxRecDepth 100000 in
theorem Q2.body (n : Nat) (x : List Int × Int × Int) : bodyF Q2.E Q2.keep n Tryz.f80 Q2.con x = Q2.fn n x := by
 have h : bodyF Q2.E Q2.keep n Tryz.f80 Q2.con x = Q2.top (fun t4 n5 s0 p => Q2.LN4 n x n (Q2.st4 t4 n5 s0 p)) x := by kernel_rfl
 rw [h]
 simp only [Q2.lem4]
 rfl
set_option maxRecDepth 100000 in
theorem Q2.good : Good Tryz.prog 80 Q2.con :=
 Vf tabok (cs := Q2.cs) ⟨Qd.good, QaH.good, Qae.good, QB.good, Qal.good, trivial⟩ 1 false (fn := Tryz.f80) Tryz.func80 rfl (by decide) (by simp [Q2.con]) Q2.keep NN (fun _ => rfl) (fun x => Q2.body NN x)
end
end Go.Ev.Tryz

namespace Go.Ev.Tryz
open Go.Proofs Go.Pl
set_option linter.unusedVariables false
noncomputable section
def Q8.st6 (s0 : List Int × Int × Int) (p : List YA) : St := ⟨[.ptr 0 [], .gone, .gone, .ref 1, .gone, .gone, .gone, .gone, .gone, .gone, .gone, .gone, .gone, .gone, .gone, .gone, .gone, .gone, .gone, .gone, .gone, .gone, .gone, .gone, .gone, .gone, .gone, .gone, .gone, .gone, .gone, .gone, .gone, .gone, .gone], [.box 86 (.pair (.sl 5 (.int .u8)) (.pair (.int .i64) (.int .i64))) (.dat (.pair (.sl 5 (.int .u8)) (.pair (.int .i64) (.int .i64))) s0), .row 70 (.pair (.int .i64) (.pair .str (.int .i64))) p none]⟩
def Q8.con : Con := { ps := [(.bx 86, (.pair (.sl 5 (.int .u8)) (.pair (.int .i64) (.int .i64))))], rs := [(.own, (.sl 70 (.pair (.int .i64) (.pair .str (.int .i64)))))], F := fun x => Q8.f x }
def Q8.cs : List (FuncId × Con) := [(38, Qd.con), (66, QaH.con), (70, Qae.con), (80, Q2.con)]
def Q8.E : Env := envOf tab Q8.cs 1 false
def Q8.keep (i : Nat) : List Nat := if i = 6 then [0, 3] else []
def Q8.at6 (n : Nat) (x : List Int × Int × Int) : Code × (Ex → St → Option (YH)) := ctx Q8.E Q8.keep n [.snd, .snd, .fst, .snd, .blk, .snd, .no, .snd, .yes, .blk] (Vg Tryz.f51) (kEnd Q8.E Tryz.f51 Q8.con x)
def Q8.LN6 (n : Nat) (x : List Int × Int × Int) : Nat → St → Option (YH) := loopN (exec Q8.E Q8.keep n (Vj (Q8.at6 n x).1)) (St.norm 1 (Q8.keep 6)) (Q8.at6 n x).2
set_option maxRecDepth 100000 in
theorem Q8.lem6 (n : Nat) (x : List Int × Int × Int) : ∀ (k : Nat) (s0 : List Int × Int × Int) (p : List YA), Q8.LN6 n x k (Q8.st6 s0 p) = Q8.l6 n k s0 p := by
 intro k
 induction k with
 | zero => intro s0 p; rfl
 | succ k ih =>
  intro s0 p
  have h : Q8.LN6 n x (k + 1) (Q8.st6 s0 p) = Q8.g6 (fun s0 p => Q8.LN6 n x k (Q8.st6 s0 p)) s0 p := by kernel_rfl
  rw [h]
  simp only [ih]
  rfl
set_option maxRecDepth 100000 in
theorem Q8.body (n : Nat) (x : List Int × Int × Int) : bodyF Q8.E Q8.keep n Tryz.f51 Q8.con x = Q8.fn n x := by
 have h : bodyF Q8.E Q8.keep n Tryz.f51 Q8.con x = Q8.top (fun s0 p => Q8.LN6 n x n (Q8.st6 s0 p)) x := by kernel_rfl
 rw [h]
 simp only [Q8.lem6]
 rfl
set_option maxRecDepth 100000 in
theorem Q8.good : Good Tryz.prog 51 Q8.con :=
 Vf tabok (cs := Q8.cs) ⟨Qd.good, QaH.good, Qae.good, Q2.good, trivial⟩ 1 false (fn := Tryz.f51) Tryz.func51 rfl (by decide) (by simp [Q8.con]) Q8.keep NN (fun _ => rfl) (fun x => Q8.body NN x)
end
end Go.Ev.Tryz

namespace Go.Ev.Tryz
open Go.Proofs Go.Pl
set_option linter.unusedVariables false
noncomputable section
def Q9.st7 (p : Int) (n5 : Int) (s0 : List Int × Int × Int) (q : List YC) : St := ⟨[.ptr 0 [], .gone, .gone, .ref 1, .dat (.int .i64) p, .dat (.int .i64) n5, .gone, .gone, .gone, .gone, .gone, .gone, .gone, .gone, .gone, .gone, .gone, .gone, .gone, .gone, .gone, .gone, .gone, .gone, .gone, .gone, .gone, .gone, .gone, .gone, .gone, .gone, .gone, .gone, .gone, .gone, .gone, .gone, .gone, .gone, .gone, .gone, .gone, .gone], [.box 86 (.pair (.sl 5 (.int .u8)) (.pair (.int .i64) (.int .i64))) (.dat (.pair (.sl 5 (.int .u8)) (.pair (.int .i64) (.int .i64))) s0), .row 72 (.pair (.int .i64) (.int .i64)) q none]⟩
def Q9.con : Con := { ps := [(.bx 86, (.pair (.sl 5 (.int .u8)) (.pair (.int .i64) (.int .i64))))], rs := [(.own, (.sl 72 (.pair (.int .i64) (.int .i64))))], F := fun x => Q9.f x }
def Q9.cs : List (FuncId × Con) := [(38, Qd.con), (70, Qae.con)]
def Q9.E : Env := envOf tab Q9.cs 1 false
def Q9.keep (i : Nat) : List Nat := if i = 7 then [0, 3, 4, 5] else []
def Q9.at7 (n : Nat) (x : List Int × Int × Int) : Code × (Ex → St → Option (YT)) := ctx Q9.E Q9.keep n [.snd, .snd, .snd, .snd, .fst, .snd, .blk] (Vg Tryz.f81) (kEnd Q9.E Tryz.f81 Q9.con x)
def Q9.LN7 (n : Nat) (x : List Int × Int × Int) : Nat → St → Option (YT) := loopN (exec Q9.E Q9.keep n (Vj (Q9.at7 n x).1)) (St.norm 1 (Q9.keep 7)) (Q9.at7 n x).2
set_option maxRecDepth 100000 in
theorem Q9.lem7 (n : Nat) (x : List Int × Int × Int) : ∀ (k : Nat) (p : Int) (n5 : Int) (s0 : List Int × Int × Int) (q : List YC), Q9.LN7 n x k (Q9.st7 p n5 s0 q) = Q9.l7 n k p n5 s0 q := by
 intro k
 induction k with
 | zero => intro p n5 s0 q; rfl
 | succ k ih =>
  intro p n5 s0 q
  have h : Q9.LN7 n x (k + 1) (Q9.st7 p n5 s0 q) = Q9.g7 (fun p n5 s0 q => Q9.LN7 n x k (Q9.st7 p n5 s0 q)) p n5 s0 q := by kernel_rfl
  rw [h]
  simp only [ih]
  rfl
set_option maxRecDepth 100000 in
theorem Q9.body (n : Nat) (x : List Int × Int × Int) : bodyF Q9.E Q9.keep n Tryz.f81 Q9.con x = Q9.fn n x := by
 have h : bodyF Q9.E Q9.keep n Tryz.f81 Q9.con x = Q9.top (fun p n5 s0 q => Q9.LN7 n x n (Q9.st7 p n5 s0 q)) x := by kernel_rfl
 rw [h]
 simp only [Q9.lem7]
 rfl
set_option maxRecDepth 100000 in
theorem Q9.good : Good Tryz.prog 81 Q9.con :=
 Vf tabok (cs := Q9.cs) ⟨Qd.good, Qae.good, trivial⟩ 1 false (fn := Tryz.f81) Tryz.func81 rfl (by decide) (by simp [Q9.con]) Q9.keep NN (fun _ => rfl) (fun x => Q9.body NN x)
end
end Go.Ev.Tryz

namespace Go.Ev.Tryz
open Go.Proofs Go.Pl
set_option linter.unusedVariables false
noncomputable section
def Qaa.st8 (s0 : List Int × Int × Int) (p : List YC) : St := ⟨[.ptr 0 [], .gone, .gone, .ref 1, .gone, .gone, .gone, .gone, .gone, .gone, .gone, .gone, .gone, .gone, .gone, .gone, .gone, .gone, .gone, .gone, .gone, .gone, .gone, .gone, .gone, .gone, .gone, .gone, .gone, .gone, .gone, .gone, .gone, .gone, .gone, .gone, .gone, .gone, .gone], [.box 86 (.pair (.sl 5 (.int .u8)) (.pair (.int .i64) (.int .i64))) (.dat (.pair (.sl 5 (.int .u8)) (.pair (.int .i64) (.int .i64))) s0), .row 72 (.pair (.int .i64) (.int .i64)) p none]⟩
def Qaa.con : Con := { ps := [(.bx 86, (.pair (.sl 5 (.int .u8)) (.pair (.int .i64) (.int .i64))))], rs := [(.own, (.sl 72 (.pair (.int .i64) (.int .i64))))], F := fun x => Qaa.f x }
def Qaa.cs : List (FuncId × Con) := [(38, Qd.con), (70, Qae.con), (81, Q9.con)]
def Qaa.E : Env := envOf tab Qaa.cs 1 false
def Qaa.keep (i : Nat) : List Nat := if i = 8 then [0, 3] else []
def Qaa.at8 (n : Nat) (x : List Int × Int × Int) : Code × (Ex → St → Option (YT)) := ctx Qaa.E Qaa.keep n [.snd, .snd, .fst, .snd, .blk, .snd, .no, .snd, .no, .snd, .yes, .blk] (Vg Tryz.f52) (kEnd Qaa.E Tryz.f52 Qaa.con x)
def Qaa.LN8 (n : Nat) (x : List Int × Int × Int) : Nat → St → Option (YT) := loopN (exec Qaa.E Qaa.keep n (Vj (Qaa.at8 n x).1)) (St.norm 1 (Qaa.keep 8)) (Qaa.at8 n x).2
set_option maxRecDepth 100000 in
theorem Qaa.lem8 (n : Nat) (x : List Int × Int × Int) : ∀ (k : Nat) (s0 : List Int × Int × Int) (p : List YC), Qaa.LN8 n x k (Qaa.st8 s0 p) = Qaa.l8 n k s0 p := by
 intro k
 induction k with
 | zero => intro s0 p; rfl
 | succ k ih =>
  intro s0 p
  have h : Qaa.LN8 n x (k + 1) (Qaa.st8 s0 p) = Qaa.g8 (fun s0 p => Qaa.LN8 n x k (Qaa.st8 s0 p)) s0 p := by kernel_rfl
  rw [h]
  simp only [ih]
  rfl
set_option maxRecDepth 100000 in
theorem Qaa.body (n : Nat) (x : List Int × Int × Int) : bodyF Qaa.E Qaa.keep n Tryz.f52 Qaa.con x = Qaa.fn n x := by
 have h : bodyF Qaa.E Qaa.keep n Tryz.f52 Qaa.con x = Qaa.top (fun s0 p => Qaa.LN8 n x n (Qaa.st8 s0 p)) x := by kernel_rfl
 rw [h]
 simp only [Qaa.lem8]
 rfl
set_option maxRecDepth 100000 in
theorem Qaa.good : Good Tryz.prog 52 Qaa.con :=
 Vf tabok (cs := Qaa.cs) ⟨Qd.good, Qae.good, Q9.good, trivial⟩ 1 false (fn := Tryz.f52) Tryz.func52 rfl (by decide) (by simp [Qaa.con]) Qaa.keep NN (fun _ => rfl) (fun x => Qaa.body NN x)
end
end Go.Ev.Tryz

namespace Go.Ev.Tryz
open Go.Proofs Go.Pl
set_option linter.unusedVariables false
noncomputable section
def Qu.st4 (n5 : Int) (s0 : List Int × Int × Int) (q : List YA) (p : List ByteArray) : St := ⟨[.ptr 0 [], .gone, .gone, .ref 1, .ref 2, .dat (.int .i64) n5, .gone, .gone, .gone, .gone, .gone, .gone, .gone, .gone, .gone, .gone, .gone, .gone, .gone, .gone, .gone, .gone, .gone, .gone, .gone, .gone, .gone, .gone, .gone, .gone, .gone, .gone, .gone, .gone, .gone, .gone, .gone, .gone, .gone, .gone, .gone, .gone, .gone, .gone, .gone, .gone, .gone, .gone, .gone, .gone, .gone, .gone, .gone, .gone, .gone, .gone, .gone, .gone, .gone, .gone, .gone, .gone, .gone], [.box 86 (.pair (.sl 5 (.int .u8)) (.pair (.int .i64) (.int .i64))) (.dat (.pair (.sl 5 (.int .u8)) (.pair (.int .i64) (.int .i64))) s0), .row 74 (.pair (.int .i64) (.pair .str (.int .i64))) q none, .row 9 .str p none]⟩
def Qu.tr0 (L4 : YAA) (n5 : Int) (q : List YA) (p : List ByteArray) (r3 : YR) (r4 : YR) : Option YH :=
 (Qd.f r4.2 12).bind fun r5 =>
 (QJ.f q (p.getD (r4.1 : Int).toNat ByteArray.empty) (q.length : Int)).bind fun r6 =>
 if (decide ((0 : Int) < r3.1)) = true then
  if (decide ((0 : Int) < r6)) = true then
   (Qd.f r5.2 2).bind fun r7 =>
   if ((r7.1 : Int) == 0) = true then
    if ((r6 : Int) == 0) = true then
     (Qz.f q (0, (p.getD (r4.1 : Int).toNat ByteArray.empty, (if r6 < 1000 then r6 else 1000)))).bind fun r8 =>
     if ((r8.2 : Int) == 0) = true then
      L4 (IntKind.i64.wrap (n5 - 1)) r7.2 r8.1 p
     else
      L4 (IntKind.i64.wrap (n5 - 1)) r7.2 q p
    else
     (Qz.f q (r3.1, (p.getD (r4.1 : Int).toNat ByteArray.empty, (if r6 < 1000 then r6 else 1000)))).bind fun r9 =>
     if ((r9.2 : Int) == 0) = true then
      L4 (IntKind.i64.wrap (n5 - 1)) r7.2 r9.1 p
     else
      L4 (IntKind.i64.wrap (n5 - 1)) r7.2 q p
   else if ((r6 : Int) == 0) = true then
    (Qz.f q (0, (p.getD (r4.1 : Int).toNat ByteArray.empty, IntKind.i64.wrap (1 + r5.1)))).bind fun r10 =>
    if ((r10.2 : Int) == 0) = true then
     L4 (IntKind.i64.wrap (n5 - 1)) r7.2 r10.1 p
    else
     L4 (IntKind.i64.wrap (n5 - 1)) r7.2 q p
   else
    (Qz.f q (r3.1, (p.getD (r4.1 : Int).toNat ByteArray.empty, IntKind.i64.wrap (1 + r5.1)))).bind fun r11 =>
    if ((r11.2 : Int) == 0) = true then
     L4 (IntKind.i64.wrap (n5 - 1)) r7.2 r11.1 p
    else
     L4 (IntKind.i64.wrap (n5 - 1)) r7.2 q p
  else if ((r6 : Int) == 0) = true then
   (Qz.f q (0, (p.getD (r4.1 : Int).toNat ByteArray.empty, IntKind.i64.wrap (1 + r5.1)))).bind fun r12 =>
   if ((r12.2 : Int) == 0) = true then
    L4 (IntKind.i64.wrap (n5 - 1)) r5.2 r12.1 p
   else
    L4 (IntKind.i64.wrap (n5 - 1)) r5.2 q p
  else
   (Qz.f q (r3.1, (p.getD (r4.1 : Int).toNat ByteArray.empty, IntKind.i64.wrap (1 + r5.1)))).bind fun r13 =>
   if ((r13.2 : Int) == 0) = true then
    L4 (IntKind.i64.wrap (n5 - 1)) r5.2 r13.1 p
   else
    L4 (IntKind.i64.wrap (n5 - 1)) r5.2 q p
 else if ((r6 : Int) == 0) = true then
  (Qz.f q (0, (p.getD (r4.1 : Int).toNat ByteArray.empty, IntKind.i64.wrap (1 + r5.1)))).bind fun r14 =>
  if ((r14.2 : Int) == 0) = true then
   L4 (IntKind.i64.wrap (n5 - 1)) r5.2 r14.1 p
  else
   L4 (IntKind.i64.wrap (n5 - 1)) r5.2 q p
 else
  (Qz.f q (r3.1, (p.getD (r4.1 : Int).toNat ByteArray.empty, IntKind.i64.wrap (1 + r5.1)))).bind fun r15 =>
  if ((r15.2 : Int) == 0) = true then
   L4 (IntKind.i64.wrap (n5 - 1)) r5.2 r15.1 p
  else
   L4 (IntKind.i64.wrap (n5 - 1)) r5.2 q p
def Qu.tr1 (L4 : YAA) (n5 : Int) (q : List YA) (p : List ByteArray) (r3 : YR) (r4 : YR) : Option YH :=
 agree (
  Qu.tr0 L4 n5 q p r3 r4
 ) (
  Qu.tr0 L4 n5 q p r3 r4
 )
def Qu.tr2 (L4 : YAA) (n5 : Int) (q : List YA) (p : List ByteArray) (r3 : YR) : Option YH :=
 (Qd.f r3.2 4).bind fun r4 =>
 if (0 : Int) ≤ r4.1 ∧ (r4.1 : Int) < p.length then
  Qu.tr1 L4 n5 q p r3 r4
 else
  none
def Qu.g4raw (L4 : YAA) (n5 : Int) (s0 : List Int × Int × Int) (q : List YA) (p : List ByteArray) : Option YH :=
 if (decide ((0 : Int) < n5)) = true then
  agree (
   (Qd.f s0 4).bind fun r3 =>
   agree (
    (Qd.f r3.2 4).bind fun r4 =>
    if (0 : Int) ≤ r4.1 ∧ (r4.1 : Int) < p.length then
     agree (
      Qu.tr1 L4 n5 q p r3 r4
     ) (
      agree (
       Qu.tr0 L4 n5 q p r3 r4
      ) (
       Qu.tr1 L4 n5 q p r3 r4
      )
     )
    else
     none
   ) (
    Qu.tr2 L4 n5 q p r3
   )
  ) (
   (Qd.f s0 4).bind fun r3 =>
   Qu.tr2 L4 n5 q p r3
  )
 else
  some (q, s0)
theorem Qu.g4raw_eq (L4 : YAA) (n5 : Int) (s0 : List Int × Int × Int) (q : List YA) (p : List ByteArray) : Qu.g4raw L4 n5 s0 q p = Qu.g4 L4 n5 s0 q p := by
 unfold Qu.g4raw Qu.g4
 simp only [Vt, Qu.tr0, Qu.tr1, Qu.tr2]
def Qu.con : Con := { ps := [(.bx 86, (.pair (.sl 5 (.int .u8)) (.pair (.int .i64) (.int .i64))))], rs := [(.own, (.sl 74 (.pair (.int .i64) (.pair .str (.int .i64)))))], F := fun x => Qu.f x }
def Qu.cs : List (FuncId × Con) := [(38, Qd.con), (67, QaQ.con), (94, QJ.con), (115, Qz.con)]
def Qu.E : Env := envOf tab Qu.cs 1 false
def Qu.keep (i : Nat) : List Nat := if i = 4 then [0, 3, 4, 5] else []
def Qu.at4 (n : Nat) (x : List Int × Int × Int) : Code × (Ex → St → Option (YH)) := ctx Qu.E Qu.keep n [.snd, .snd, .snd, .fst, .snd, .blk] (Vg Tryz.f82) (kEnd Qu.E Tryz.f82 Qu.con x)
def Qu.LN4 (n : Nat) (x : List Int × Int × Int) : Nat → St → Option (YH) := loopN (exec Qu.E Qu.keep n (Vj (Qu.at4 n x).1)) (St.norm 1 (Qu.keep 4)) (Qu.at4 n x).2
set_option maxRecDepth 100000 in
theorem Qu.lem4 (n : Nat) (x : List Int × Int × Int) : ∀ (k : Nat) (n5 : Int) (s0 : List Int × Int × Int) (q : List YA) (p : List ByteArray), Qu.LN4 n x k (Qu.st4 n5 s0 q p) = Qu.l4 n k n5 s0 q p := by
 intro k
 induction k with
 | zero => intro n5 s0 q p; rfl
 | succ k ih =>
  intro n5 s0 q p
  have h : Qu.LN4 n x (k + 1) (Qu.st4 n5 s0 q p) = Qu.g4raw (fun n5 s0 q p => Qu.LN4 n x k (Qu.st4 n5 s0 q p)) n5 s0 q p := by kernel_rfl
  rw [Qu.g4raw_eq] at h
  rw [h]
  simp only [ih]
  rfl
set_option maxRecDepth 100000 in
theorem Qu.body (n : Nat) (x : List Int × Int × Int) : bodyF Qu.E Qu.keep n Tryz.f82 Qu.con x = Qu.fn n x := by
 have h : bodyF Qu.E Qu.keep n Tryz.f82 Qu.con x = Qu.top (fun n5 s0 q p => Qu.LN4 n x n (Qu.st4 n5 s0 q p)) x := by kernel_rfl
 rw [h]
 simp only [Qu.lem4]
 rfl
set_option maxRecDepth 100000 in
theorem Qu.good : Good Tryz.prog 82 Qu.con :=
 Vf tabok (cs := Qu.cs) ⟨Qd.good, QaQ.good, QJ.good, Qz.good, trivial⟩ 1 false (fn := Tryz.f82) Tryz.func82 rfl (by decide) (by simp [Qu.con]) Qu.keep NN (fun _ => rfl) (fun x => Qu.body NN x)
end
end Go.Ev.Tryz

namespace Go.Ev.Tryz
open Go.Proofs Go.Pl
set_option linter.unusedVariables false
noncomputable section
def Qa9.con : Con := { ps := [(.bx 86, (.pair (.sl 5 (.int .u8)) (.pair (.int .i64) (.int .i64))))], rs := [(.val, .str)], F := fun x => Qa9.f x }
def Qa9.cs : List (FuncId × Con) := [(38, Qd.con)]
def Qa9.E : Env := envOf tab Qa9.cs 1 false
def Qa9.keep (i : Nat) : List Nat := []
set_option maxRecDepth 100000 in
theorem Qa9.body (n : Nat) (x : List Int × Int × Int) : bodyF Qa9.E Qa9.keep n Tryz.f116 Qa9.con x = Qa9.fn n x := by
 have h : bodyF Qa9.E Qa9.keep n Tryz.f116 Qa9.con x = Qa9.top x := by kernel_rfl
 exact h
set_option maxRecDepth 100000 in
theorem Qa9.good : Good Tryz.prog 116 Qa9.con :=
 Vf tabok (cs := Qa9.cs) ⟨Qd.good, trivial⟩ 1 false (fn := Tryz.f116) Tryz.func116 rfl (by decide) (by simp [Qa9.con]) Qa9.keep NN (fun _ => rfl) (fun x => Qa9.body NN x)
end
end Go.Ev.Tryz

namespace Go.Ev.Tryz
open Go.Proofs Go.Pl
set_option linter.unusedVariables false
noncomputable section
def Qaw.con : Con := { ps := [(.bx 86, (.pair (.sl 5 (.int .u8)) (.pair (.int .i64) (.int .i64))))], rs := [(.val, .str)], F := fun x => Qaw.f x }
def Qaw.cs : List (FuncId × Con) := [(38, Qd.con), (116, Qa9.con)]
def Qaw.E : Env := envOf tab Qaw.cs 1 false
def Qaw.keep (i : Nat) : List Nat := []
set_option maxRecDepth 100000 in
theorem Qaw.body (n : Nat) (x : List Int × Int × Int) : bodyF Qaw.E Qaw.keep n Tryz.f83 Qaw.con x = Qaw.fn n x := by
 have h : bodyF Qaw.E Qaw.keep n Tryz.f83 Qaw.con x = Qaw.top x := by kernel_rfl
 exact h
set_option maxRecDepth 100000 in
theorem Qaw.good : Good Tryz.prog 83 Qaw.con :=
 Vf tabok (cs := Qaw.cs) ⟨Qd.good, Qa9.good, trivial⟩ 1 false (fn := Tryz.f83) Tryz.func83 rfl (by decide) (by simp [Qaw.con]) Qaw.keep NN (fun _ => rfl) (fun x => Qaw.body NN x)
end
end Go.Ev.Tryz

namespace Go.Ev.Tryz
open Go.Proofs Go.Pl
set_option linter.unusedVariables false
noncomputable section
def QY.st6 (s0 : List Int × Int × Int) (p : List YA) : St := ⟨[.ptr 0 [], .gone, .gone, .ref 1, .gone, .gone, .gone, .gone, .gone, .gone, .gone, .gone, .gone, .gone, .gone, .gone, .gone, .gone, .gone, .gone, .gone, .gone, .gone, .gone, .gone, .gone, .gone, .gone, .gone, .gone, .gone, .gone, .gone, .gone, .gone, .gone, .gone, .gone, .gone, .gone, .gone, .gone], [.box 86 (.pair (.sl 5 (.int .u8)) (.pair (.int .i64) (.int .i64))) (.dat (.pair (.sl 5 (.int .u8)) (.pair (.int .i64) (.int .i64))) s0), .row 74 (.pair (.int .i64) (.pair .str (.int .i64))) p none]⟩
def QY.con : Con := { ps := [(.bx 86, (.pair (.sl 5 (.int .u8)) (.pair (.int .i64) (.int .i64))))], rs := [(.own, (.sl 74 (.pair (.int .i64) (.pair .str (.int .i64)))))], F := fun x => QY.f x }
def QY.cs : List (FuncId × Con) := [(38, Qd.con), (70, Qae.con), (82, Qu.con), (83, Qaw.con)]
def QY.E : Env := envOf tab QY.cs 1 false
def QY.keep (i : Nat) : List Nat := if i = 6 then [0, 3] else []
def QY.at6 (n : Nat) (x : List Int × Int × Int) : Code × (Ex → St → Option (YH)) := ctx QY.E QY.keep n [.snd, .snd, .fst, .snd, .blk, .snd, .no, .snd, .yes, .blk] (Vg Tryz.f53) (kEnd QY.E Tryz.f53 QY.con x)
def QY.LN6 (n : Nat) (x : List Int × Int × Int) : Nat → St → Option (YH) := loopN (exec QY.E QY.keep n (Vj (QY.at6 n x).1)) (St.norm 1 (QY.keep 6)) (QY.at6 n x).2
set_option maxRecDepth 100000 in
theorem QY.lem6 (n : Nat) (x : List Int × Int × Int) : ∀ (k : Nat) (s0 : List Int × Int × Int) (p : List YA), QY.LN6 n x k (QY.st6 s0 p) = QY.l6 n k s0 p := by
 intro k
 induction k with
 | zero => intro s0 p; rfl
 | succ k ih =>
  intro s0 p
  have h : QY.LN6 n x (k + 1) (QY.st6 s0 p) = QY.g6 (fun s0 p => QY.LN6 n x k (QY.st6 s0 p)) s0 p := by kernel_rfl
  rw [h]
  simp only [ih]
  rfl
set_option maxRecDepth 100000 in
theorem QY.body (n : Nat) (x : List Int × Int × Int) : bodyF QY.E QY.keep n Tryz.f53 QY.con x = QY.fn n x := by
 have h : bodyF QY.E QY.keep n Tryz.f53 QY.con x = QY.top (fun s0 p => QY.LN6 n x n (QY.st6 s0 p)) x := by kernel_rfl
 rw [h]
 simp only [QY.lem6]
 rfl
set_option maxRecDepth 100000 in
theorem QY.good : Good Tryz.prog 53 QY.con :=
 Vf tabok (cs := QY.cs) ⟨Qd.good, Qae.good, Qu.good, Qaw.good, trivial⟩ 1 false (fn := Tryz.f53) Tryz.func53 rfl (by decide) (by simp [QY.con]) QY.keep NN (fun _ => rfl) (fun x => QY.body NN x)
end
end Go.Ev.Tryz

namespace Go.Ev.Tryz
open Go.Proofs Go.Pl
set_option linter.unusedVariables false
noncomputable section
def QaE.con : Con := { ps := [(.val, (.sl 5 (.int .u8)))], rs := [(.val, (.pair (.sl 70 (.pair (.int .i64) (.pair .str (.int .i64)))) (.pair (.sl 72 (.pair (.int .i64) (.int .i64))) (.sl 74 (.pair (.int .i64) (.pair .str (.int .i64)))))))], F := fun x => QaE.f x }
def QaE.cs : List (FuncId × Con) := [(18, QaC.con), (35, Qn.con), (36, QW.con), (38, Qd.con), (51, Q8.con), (52, Qaa.con), (53, QY.con)]
def QaE.E : Env := envOf tab QaE.cs 0 false
def QaE.keep (i : Nat) : List Nat := []
set_option maxRecDepth 100000 in
theorem QaE.body (n : Nat) (x : List Int) : bodyF QaE.E QaE.keep n Tryz.f24 QaE.con x = QaE.fn n x := by
 have h : bodyF QaE.E QaE.keep n Tryz.f24 QaE.con x = QaE.top x := by kernel_rfl
 exact h
set_option maxRecDepth 100000 in
theorem QaE.good : Good Tryz.prog 24 QaE.con :=
 Vf tabok (cs := QaE.cs) ⟨QaC.good, Qn.good, QW.good, Qd.good, Q8.good, Qaa.good, QY.good, trivial⟩ 0 false (fn := Tryz.f24) Tryz.func24 rfl (by decide) (by simp [QaE.con]) QaE.keep NN (fun _ => rfl) (fun x => QaE.body NN x)
end
end Go.Ev.Tryz

namespace Go.Ev.Tryz
open Go.Proofs Go.Pl
set_option linter.unusedVariables false
noncomputable section
def QK.st4 (a0 : List YA) (b1 : List YA) (i5 : Int) : St := ⟨[.dat (.sl 70 (.pair (.int .i64) (.pair .str (.int .i64)))) a0, .dat (.sl 70 (.pair (.int .i64) (.pair .str (.int .i64)))) b1, .gone, .gone, .gone, .dat (.int .i64) i5, .gone, .gone, .gone, .gone, .gone, .gone, .gone, .gone, .gone, .gone, .gone, .gone, .gone, .gone, .gone, .gone, .gone, .gone, .gone, .gone], []⟩
def QK.con : Con := { ps := [(.val, (.sl 70 (.pair (.int .i64) (.pair .str (.int .i64))))), (.val, (.sl 70 (.pair (.int .i64) (.pair .str (.int .i64)))))], rs := [(.val, .bool)], F := fun x => QK.f x.1 x.2 }
def QK.cs : List (FuncId × Con) := []
def QK.E : Env := envOf tab QK.cs 0 false
def QK.keep (i : Nat) : List Nat := if i = 4 then [0, 1, 5] else []
def QK.at4 (n : Nat) (x : YD × List YA) : Code × (Ex → St → Option (Bool)) := ctx QK.E QK.keep n [.snd, .snd, .fst, .snd, .blk] (Vg Tryz.f25) (kEnd QK.E Tryz.f25 QK.con x)
def QK.LN4 (n : Nat) (x : YD × List YA) : Nat → St → Option (Bool) := loopN (exec QK.E QK.keep n (Vj (QK.at4 n x).1)) (St.norm 0 (QK.keep 4)) (QK.at4 n x).2
set_option maxRecDepth 100000 in
theorem QK.lem4 (n : Nat) (x : YD × List YA) : ∀ (k : Nat) (a0 : List YA) (b1 : List YA) (i5 : Int), QK.LN4 n x k (QK.st4 a0 b1 i5) = QK.l4 n k a0 b1 i5 := by
 intro k
 induction k with
 | zero => intro a0 b1 i5; rfl
 | succ k ih =>
  intro a0 b1 i5
  have h : QK.LN4 n x (k + 1) (QK.st4 a0 b1 i5) = QK.g4 (fun a0 b1 i5 => QK.LN4 n x k (QK.st4 a0 b1 i5)) a0 b1 i5 := by kernel_rfl
  rw [h]
  simp only [ih]
  rfl
set_option maxRecDepth 100000 in
theorem QK.body (n : Nat) (x : YD × List YA) : bodyF QK.E QK.keep n Tryz.f25 QK.con x = QK.fn n x.1 x.2 := by
 have h : bodyF QK.E QK.keep n Tryz.f25 QK.con x = QK.top (fun a0 b1 i5 => QK.LN4 n x n (QK.st4 a0 b1 i5)) x.1 x.2 := by kernel_rfl
 rw [h]
 simp only [QK.lem4]
 rfl
set_option maxRecDepth 100000 in
theorem QK.good : Good Tryz.prog 25 QK.con :=
 Vf tabok (cs := QK.cs) trivial 0 false (fn := Tryz.f25) Tryz.func25 rfl (by decide) (by simp [QK.con]) QK.keep NN (fun _ => rfl) (fun x => QK.body NN x)
end
end Go.Ev.Tryz

namespace Go.Ev.Tryz
open Go.Proofs Go.Pl
set_option linter.unusedVariables false
noncomputable section
def Qw.st4 (a0 : List YC) (b1 : List YC) (i5 : Int) : St := ⟨[.dat (.sl 72 (.pair (.int .i64) (.int .i64))) a0, .dat (.sl 72 (.pair (.int .i64) (.int .i64))) b1, .gone, .gone, .gone, .dat (.int .i64) i5, .gone, .gone, .gone, .gone, .gone, .gone, .gone, .gone, .gone, .gone, .gone, .gone, .gone, .gone, .gone, .gone, .gone, .gone, .gone, .gone], []⟩
def Qw.con : Con := { ps := [(.val, (.sl 72 (.pair (.int .i64) (.int .i64)))), (.val, (.sl 72 (.pair (.int .i64) (.int .i64))))], rs := [(.val, .bool)], F := fun x => Qw.f x.1 x.2 }
def Qw.cs : List (FuncId × Con) := []
def Qw.E : Env := envOf tab Qw.cs 0 false
def Qw.keep (i : Nat) : List Nat := if i = 4 then [0, 1, 5] else []
def Qw.at4 (n : Nat) (x : YE × List YC) : Code × (Ex → St → Option (Bool)) := ctx Qw.E Qw.keep n [.snd, .snd, .fst, .snd, .blk] (Vg Tryz.f26) (kEnd Qw.E Tryz.f26 Qw.con x)
def Qw.LN4 (n : Nat) (x : YE × List YC) : Nat → St → Option (Bool) := loopN (exec Qw.E Qw.keep n (Vj (Qw.at4 n x).1)) (St.norm 0 (Qw.keep 4)) (Qw.at4 n x).2
set_option maxRecDepth 100000 in
theorem Qw.lem4 (n : Nat) (x : YE × List YC) : ∀ (k : Nat) (a0 : List YC) (b1 : List YC) (i5 : Int), Qw.LN4 n x k (Qw.st4 a0 b1 i5) = Qw.l4 n k a0 b1 i5 := by
 intro k
 induction k with
 | zero => intro a0 b1 i5; rfl
 | succ k ih =>
  intro a0 b1 i5
  have h : Qw.LN4 n x (k + 1) (Qw.st4 a0 b1 i5) = Qw.g4 (fun a0 b1 i5 => Qw.LN4 n x k (Qw.st4 a0 b1 i5)) a0 b1 i5 := by kernel_rfl
  rw [h]
  simp only [ih]
  rfl
set_option maxRecDepth 100000 in
theorem Qw.body (n : Nat) (x : YE × List YC) : bodyF Qw.E Qw.keep n Tryz.f26 Qw.con x = Qw.fn n x.1 x.2 := by
 have h : bodyF Qw.E Qw.keep n Tryz.f26 Qw.con x = Qw.top (fun a0 b1 i5 => Qw.LN4 n x n (Qw.st4 a0 b1 i5)) x.1 x.2 := by kernel_rfl
 rw [h]
 simp only [Qw.lem4]
 rfl
set_option maxRecDepth 100000 in
theorem Qw.good : Good Tryz.prog 26 Qw.con :=
 Vf tabok (cs := Qw.cs) trivial 0 false (fn := Tryz.f26) Tryz.func26 rfl (by decide) (by simp [Qw.con]) Qw.keep NN (fun _ => rfl) (fun x => Qw.body NN x)
end
end Go.Ev.Tryz

namespace Go.Ev.Tryz
open Go.Proofs Go.Pl
set_option linter.unusedVariables false
noncomputable section
def Qr.st4 (a0 : List YA) (b1 : List YA) (i5 : Int) : St := ⟨[.dat (.sl 74 (.pair (.int .i64) (.pair .str (.int .i64)))) a0, .dat (.sl 74 (.pair (.int .i64) (.pair .str (.int .i64)))) b1, .gone, .gone, .gone, .dat (.int .i64) i5, .gone, .gone, .gone, .gone, .gone, .gone, .gone, .gone, .gone, .gone, .gone, .gone, .gone, .gone, .gone, .gone, .gone, .gone, .gone, .gone], []⟩
def Qr.con : Con := { ps := [(.val, (.sl 74 (.pair (.int .i64) (.pair .str (.int .i64))))), (.val, (.sl 74 (.pair (.int .i64) (.pair .str (.int .i64)))))], rs := [(.val, .bool)], F := fun x => Qr.f x.1 x.2 }
def Qr.cs : List (FuncId × Con) := []
def Qr.E : Env := envOf tab Qr.cs 0 false
def Qr.keep (i : Nat) : List Nat := if i = 4 then [0, 1, 5] else []
def Qr.at4 (n : Nat) (x : YD × List YA) : Code × (Ex → St → Option (Bool)) := ctx Qr.E Qr.keep n [.snd, .snd, .fst, .snd, .blk] (Vg Tryz.f27) (kEnd Qr.E Tryz.f27 Qr.con x)
def Qr.LN4 (n : Nat) (x : YD × List YA) : Nat → St → Option (Bool) := loopN (exec Qr.E Qr.keep n (Vj (Qr.at4 n x).1)) (St.norm 0 (Qr.keep 4)) (Qr.at4 n x).2
set_option maxRecDepth 100000 in
theorem Qr.lem4 (n : Nat) (x : YD × List YA) : ∀ (k : Nat) (a0 : List YA) (b1 : List YA) (i5 : Int), Qr.LN4 n x k (Qr.st4 a0 b1 i5) = Qr.l4 n k a0 b1 i5 := by
 intro k
 induction k with
 | zero => intro a0 b1 i5; rfl
 | succ k ih =>
  intro a0 b1 i5
  have h : Qr.LN4 n x (k + 1) (Qr.st4 a0 b1 i5) = Qr.g4 (fun a0 b1 i5 => Qr.LN4 n x k (Qr.st4 a0 b1 i5)) a0 b1 i5 := by kernel_rfl
  rw [h]
  simp only [ih]
  rfl
set_option maxRecDepth 100000 in
theorem Qr.body (n : Nat) (x : YD × List YA) : bodyF Qr.E Qr.keep n Tryz.f27 Qr.con x = Qr.fn n x.1 x.2 := by
 have h : bodyF Qr.E Qr.keep n Tryz.f27 Qr.con x = Qr.top (fun a0 b1 i5 => Qr.LN4 n x n (Qr.st4 a0 b1 i5)) x.1 x.2 := by kernel_rfl
 rw [h]
 simp only [Qr.lem4]
 rfl
set_option maxRecDepth 100000 in
theorem Qr.good : Good Tryz.prog 27 Qr.con :=
 Vf tabok (cs := Qr.cs) trivial 0 false (fn := Tryz.f27) Tryz.func27 rfl (by decide) (by simp [Qr.con]) Qr.keep NN (fun _ => rfl) (fun x => Qr.body NN x)
end
end Go.Ev.Tryz

namespace Go.Ev.Tryz
open Go.Proofs Go.Pl
set_option linter.unusedVariables false
noncomputable section
def Qbg.con : Con := { ps := [(.val, (.pair (.sl 70 (.pair (.int .i64) (.pair .str (.int .i64)))) (.pair (.sl 72 (.pair (.int .i64) (.int .i64))) (.sl 74 (.pair (.int .i64) (.pair .str (.int .i64)))))))], rs := [(.val, .bool)], F := fun x => Qbg.f x }
def Qbg.cs : List (FuncId × Con) := [(54, Qx.con), (55, Qo.con), (56, Qk.con)]
def Qbg.E : Env := envOf tab Qbg.cs 0 false
def Qbg.keep (i : Nat) : List Nat := []
set_option maxRecDepth 100000 in
theorem Qbg.body (n : Nat) (x : YD × YE × List YA) : bodyF Qbg.E Qbg.keep n Tryz.f28 Qbg.con x = Qbg.fn n x := by
 have h : bodyF Qbg.E Qbg.keep n Tryz.f28 Qbg.con x = Qbg.top x := by kernel_rfl
 exact h
set_option maxRecDepth 100000 in
theorem Qbg.good : Good Tryz.prog 28 Qbg.con :=
 Vf tabok (cs := Qbg.cs) ⟨Qx.good, Qo.good, Qk.good, trivial⟩ 0 false (fn := Tryz.f28) Tryz.func28 rfl (by decide) (by simp [Qbg.con]) Qbg.keep NN (fun _ => rfl) (fun x => Qbg.body NN x)
end
end Go.Ev.Tryz

namespace Go.Ev.Tryz
open Go.Proofs Go.Pl
set_option linter.unusedVariables false
noncomputable section
def Qbi.con : Con := { ps := [(.val, (.pair (.sl 70 (.pair (.int .i64) (.pair .str (.int .i64)))) (.pair (.sl 72 (.pair (.int .i64) (.int .i64))) (.sl 74 (.pair (.int .i64) (.pair .str (.int .i64)))))))], rs := [(.val, .bool)], F := fun x => Qbi.f x }
def Qbi.cs : List (FuncId × Con) := [(57, QC.con), (58, Qq.con), (59, Qi.con)]
def Qbi.E : Env := envOf tab Qbi.cs 0 false
def Qbi.keep (i : Nat) : List Nat := []
set_option maxRecDepth 100000 in
theorem Qbi.body (n : Nat) (x : YD × YE × List YA) : bodyF Qbi.E Qbi.keep n Tryz.f29 Qbi.con x = Qbi.fn n x := by
 have h : bodyF Qbi.E Qbi.keep n Tryz.f29 Qbi.con x = Qbi.top x := by kernel_rfl
 exact h
set_option maxRecDepth 100000 in
theorem Qbi.good : Good Tryz.prog 29 Qbi.con :=
 Vf tabok (cs := Qbi.cs) ⟨QC.good, Qq.good, Qi.good, trivial⟩ 0 false (fn := Tryz.f29) Tryz.func29 rfl (by decide) (by simp [Qbi.con]) Qbi.keep NN (fun _ => rfl) (fun x => Qbi.body NN x)
end
end Go.Ev.Tryz
