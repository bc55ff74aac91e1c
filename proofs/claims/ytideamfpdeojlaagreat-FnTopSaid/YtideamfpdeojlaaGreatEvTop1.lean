/- Part 1 of what the law FnTop stands on: an evaluator of the model's code, proved sound; the functions as plain texts; their contracts. -/
import Derived.Test.YtideamfpdeojlaaGreatEvTop0
namespace Go.Ev
set_option linter.unusedVariables false
set_option linter.unusedSimpArgs false
open Go.RowKit
variable {ρ : Type} {P : Program}
section
variable {E : Env} {base : Nat} {W0 : World} {IO Old : Nat → Prop} {φ0 : Nat → Value × Kd} {s : St} {a : Act} {w w' : World} {o : Oper} {r : ρ} {k : St → Option ρ} {next : Act → World → Prop} {Q : Exit → Act → World → Prop} {φ : Nat → Value} {ow ow2 : Nat → Option Nat} {S F : Nat → Prop}
theorem Vgy {S S' : Nat → Prop} : ∀ (t : Ty) (x : t.I) (cs : List Value) (g : List Nat),t.flat2 = true → OwnV w S t x cs g → OwnV w S' t x cs g := by
 intro t
 induction t with
 | pair a b iha ihb =>
  rintro x cs g hf ⟨c0,c1,g0,g1,rfl,rfl,h0,h1⟩
  simp only [Ty.flat2,Bool.and_eq_true] at hf
  exact ⟨c0,c1,g0,g1,rfl,rfl,iha _ _ _ hf.1 h0,ihb _ _ _ hf.2 h1⟩
 | sl e t _ => rintro x cs g hf ⟨v,rfl,h⟩; exact ⟨v,rfl,Vdu (fun x c hx => V3 _ _ _ hf hx) h⟩
 | slb e t _ => rintro x cs g hf ⟨v,rfl,h⟩; exact ⟨v,rfl,Vdu (fun x c hx => V3 _ _ _ hf hx) h⟩
 | _ => rintro x cs g hf ⟨rfl,h⟩; exact ⟨rfl,V3 _ _ _ hf h⟩
theorem Vhm {S S' : Nat → Prop} {k : Kn} {t : Ty} {x : t.I} {v : Value} {g : List Nat} (hf : flatK (k,t) = true) (h : KOk w S k t x v g) : KOk w S' k t x v g := by
 cases k with
 | val => obtain ⟨rfl,cs,h1,h2⟩ := h; exact ⟨rfl,cs,V3 _ _ _ hf h1,h2⟩
 | own => obtain ⟨cs,h1,h2⟩ := h; exact ⟨cs,Vgy _ _ _ _ hf h1,h2⟩
 | bx e => obtain ⟨g,cells,h1,h2,h3,h4⟩ := h; exact ⟨g,cells,h1,h2,h3,V3 _ _ _ hf h4⟩
theorem ViR {S S' : Nat → Prop} (hS : ∀ b,S b → S' b) : ∀ (t : Ty) (x : t.I) (cs : List Value) (g : List Nat),OwnV w S t x cs g → OwnV w S' t x cs g := by
 intro t
 induction t with
 | pair a b iha ihb =>
  rintro x cs g ⟨c0,c1,g0,g1,rfl,rfl,h0,h1⟩
  exact ⟨c0,c1,g0,g1,rfl,rfl,iha _ _ _ h0,ihb _ _ _ h1⟩
 | sl e t _ => rintro x cs g ⟨v,rfl,h⟩; exact ⟨v,rfl,Vdu (fun x c hx => VL hS hx) h⟩
 | slb e t _ => rintro x cs g ⟨v,rfl,h⟩; exact ⟨v,rfl,Vdu (fun x c hx => VL hS hx) h⟩
 | _ => rintro x cs g ⟨rfl,h⟩; exact ⟨rfl,VL hS h⟩
theorem KOk_S {S S' : Nat → Prop} (hS : ∀ b,S b → S' b) {k : Kn} {t : Ty} {x : t.I} {v : Value} {g : List Nat} (h : KOk w S k t x v g) : KOk w S' k t x v g := by
 cases k with
 | val => obtain ⟨rfl,cs,h1,h2⟩ := h; exact ⟨rfl,cs,VL hS h1,h2⟩
 | own => obtain ⟨cs,h1,h2⟩ := h; exact ⟨cs,ViR hS _ _ _ _ h1,h2⟩
 | bx e => obtain ⟨g,cells,h1,h2,h3,h4⟩ := h; exact ⟨g,cells,h1,h2,h3,VL hS h4⟩
theorem VeN {S S' : Nat → Prop} : ∀ (ks : List (Kn × Dat)) (vs : List Value) (gs : List (List Nat)),(∀ k d v g,(k,d) ∈ ks → KOk w S k d.t d.x v g → KOk w S' k d.t d.x v g) → KsOk w S ks vs gs → KsOk w S' ks vs gs := by
 intro ks
 induction ks with
 | nil => intro vs gs _ h; exact h
 | cons kd ks ih =>
  obtain ⟨k,d⟩ := kd
  rintro vs gs hh ⟨v,l,g0,g1,rfl,rfl,h0,h1⟩
  exact ⟨v,l,g0,g1,rfl,rfl,hh k d v g0 List.mem_cons_self h0,ih _ _ (fun k d v g hm => hh k d v g (List.mem_cons_of_mem _ hm)) h1⟩
def UpdOk (φ : Nat → Value) (ow2 : Nat → Option Nat) (w' : World) (S : Nat → Prop) (hp hp' : List Blk) (ids : List Nat) : Prop :=
 kds hp' = kds hp ∧ hp'.length = hp.length ∧ ∀ (i : Nat) (b : Blk),hp'[i]? = some b → (i ∈ ids → ∀ (φ2 : Nat → Value) (hk2 : Nat → Option Kd),φ2 i = φ i → BR φ2 hk2 ow2 w' S i b) ∧ (i ∉ ids → hp[i]? = some b)
theorem UpdOk.refl (hp : List Blk) : UpdOk φ ow2 w' S hp hp [] := ⟨rfl,rfl,fun i b hb => ⟨fun h => by simp at h,fun _ => hb⟩⟩
theorem UpdOk.trans {h1 h2 h3 : List Blk} {i1 i2 : List Nat} (a1 : UpdOk φ ow2 w' S h1 h2 i1) (a2 : UpdOk φ ow2 w' S h2 h3 i2) : UpdOk φ ow2 w' S h1 h3 (i1 ++ i2) := by
 refine ⟨a2.1.trans a1.1,a2.2.1.trans a1.2.1,fun i b hb => ⟨fun h => ?_,fun h => ?_⟩⟩
 ·by_cases h2 : i ∈ i2
  ·exact (a2.2.2 i b hb).1 h2
  ·have h1 : i ∈ i1 := (List.mem_append.1 h).resolve_right h2
   exact (a1.2.2 i b ((a2.2.2 i b hb).2 h2)).1 h1
 ·rw [List.mem_append,not_or] at h
  exact (a1.2.2 i b ((a2.2.2 i b hb).2 h.2)).2 h.1
theorem UpdOk.set {hp : List Blk} {id : Nat} {b b' : Blk} (hb : hp[id]? = some b) (hk : b'.kd = b.kd) (hB : ∀ (φ2 : Nat → Value) (hk2 : Nat → Option Kd),φ2 id = φ id → BR φ2 hk2 ow2 w' S id b') : UpdOk φ ow2 w' S hp (hp.set id b') [id] := by
 refine ⟨VdK hb hk,List.length_set ..,fun i c hc => ?_⟩
 rw [List.getElem?_set] at hc
 by_cases hi : id = i
 ·subst hi
  rw [if_pos rfl,if_pos (List.getElem?_eq_some_iff.1 hb).1] at hc
  cases hc
  exact ⟨fun _ => hB,fun h => absurd (List.mem_singleton.2 rfl) h⟩
 ·rw [if_neg hi] at hc
  exact ⟨fun h => absurd (List.mem_singleton.1 h).symm hi,fun _ => hc⟩
theorem VfH {hk : Nat → Option Kd} : ∀ (v : V) (t tt : Ty) (cs : List Value),ownS v t = true → VC φ hk w F tt v cs → t.sz = tt.sz := by
 intro v
 induction v with
 | dat u y =>
  intro t tt cs h k
  simp only [ownS,Bool.and_eq_true,decide_eq_true_eq] at h
  rw [← h.1]
  exact Ty.le_sz _ _ (VC_dat.1 k).1
 | ref id =>
  intro t tt cs h k
  cases tt with
  | sl e2 t2 => cases t <;> simp [ownS] at h <;> rfl
  | _ => exact k.elim
 | pr b c ihb ihc =>
  intro t tt cs h k
  cases t with
  | pair t1 t2 =>
   simp only [ownS,Bool.and_eq_true] at h
   cases tt with
   | pair u1 u2 =>
    obtain ⟨c0,c1,rfl,k0,k1⟩ := k
    simp only [Ty.sz,ihb _ _ _ h.1 k0,ihc _ _ _ h.2 k1]
   | _ => exact k.elim
  | _ => simp [ownS] at h
 | _ => intro t tt cs h; cases t <;> simp [ownS] at h
theorem VeO : ∀ (t : Ty) (x : t.I) (cs : List Value) (g : List Nat),OwnV w' S t x cs g → cs.length = t.sz := by
 intro t
 induction t with
 | pair a b iha ihb => rintro x cs g ⟨c0,c1,g0,g1,rfl,rfl,h0,h1⟩; rw [List.length_append,iha _ _ _ h0,ihb _ _ _ h1]; rfl
 | sl e t _ => rintro x cs g ⟨v,rfl,h⟩; rfl
 | slb e t _ => rintro x cs g ⟨v,rfl,h⟩; rfl
 | _ => rintro x cs g ⟨rfl,h⟩; exact VA _ _ _ h
theorem Vf3 : ∀ (t : Ty) (x : t.I) (cs : List Value) (g : List Nat),OwnV w' S t x cs g → ∀ u ∈ cs,plain u = true := by
 have row : ∀ {e : TypeId} {t : Ty} {xs ys : List t.I} {v : Value} {g : List Nat},RowV w' S e t xs ys v g → plain v = true := by
  rintro e t xs ys v g (⟨rfl,_⟩ | ⟨g,cap,cells,rfl,_⟩) <;> rfl
 intro t
 induction t with
 | pair a b iha ihb =>
  rintro x cs g ⟨c0,c1,g0,g1,rfl,rfl,h0,h1⟩ u hu
  rcases List.mem_append.1 hu with hu | hu
  ·exact iha _ _ _ h0 u hu
  ·exact ihb _ _ _ h1 u hu
 | sl e t _ => rintro x cs g ⟨v,rfl,h⟩ u hu; rw [List.mem_singleton.1 hu]; exact row h
 | slb e t _ => rintro x cs g ⟨v,rfl,h⟩ u hu; rw [List.mem_singleton.1 hu]; exact row h
 | _ => rintro x cs g ⟨rfl,h⟩; exact VS _ _ _ h
theorem VeP : ∀ (v : V) (t tt : Ty) (x : t.I) (hp hp' : List Blk) (cs : List Value) (g : List Nat),ownS v t = true → Vav v t x hp = some hp' → VC φ (kds hp) w F tt v cs → OwnV w' S t x cs g →
  (∀ id ∈ v.refs,∀ b,blkOf (φ id) = some b → ow2 b = some id) → UpdOk φ ow2 w' S hp hp' v.refs := by
 intro v
 induction v with
 | dat u y =>
  intro t tt x hp hp' cs g _ h _ _ _
  simp only [Vav] at h
  split at h
  ·cases h; exact UpdOk.refl _
  ·cases h
 | ref id =>
  intro t tt x hp hp' cs g hs h hv hO ho
  cases t with
  | sl e t =>
   simp only [Vav] at h
   split at h
   ·rename_i e' u xs ys hr
    split at h
    ·rename_i hu; subst hu
     split at h
     ·rename_i he; subst he
      cases h
      have hk : kds hp id = some (.row e' u) := kds_some.2 ⟨_,hr,rfl⟩
      have hcs : cs = [φ id] := by
       cases tt with
       | sl e2 t2 =>
        rcases hv with ⟨h1,_⟩ | ⟨h1,h2,_⟩
        ·rw [hk] at h1; cases h1
        ·exact h2
       | _ => exact hv.elim
      obtain ⟨v,h1,h2⟩ := hO
      rw [hcs] at h1
      simp only [List.cons.injEq,and_true] at h1
      subst h1
      refine UpdOk.set (b' := .row e' u x none) hr rfl (fun φ2 hk2 h3 => ?_)
      rcases h2 with ⟨h4,h5,h6,h7⟩ | ⟨g,cap,cells,h4,h5,h6,h7,h8,h9,h10⟩
      ·exact .inl ⟨h3.trans h4,h5,rfl⟩
      ·exact .inr ⟨g,cap,cells,h3.trans h4,ho id (by simp [V.refs]) g (by rw [h4]; rfl),h6,h7,h8,h9,h10⟩
     ·cases h
    ·cases h
   ·cases h
  | _ => simp [Vav] at h
 | pr b c ihb ihc =>
  intro t tt x hp hp' cs g hs h hv hO ho
  cases t with
  | pair t1 t2 =>
   simp only [Vav,Option.bind_eq_some_iff] at h
   obtain ⟨h1,e1,e2⟩ := h
   obtain ⟨c0,c1,g0,g1,rfl,rfl,k0,k1⟩ := hO
   cases tt with
   | pair u1 u2 =>
    obtain ⟨d0,d1,hd,v0,v1⟩ := hv
    simp only [ownS,Bool.and_eq_true] at hs
    have hl0 : c0.length = d0.length := by rw [VeO _ _ _ _ k0,V9 _ _ _ v0,VfH _ _ _ _ hs.1 v0]
    obtain ⟨rfl,rfl⟩ := List.append_inj hd hl0
    have a1 := ihb t1 u1 _ _ _ _ _ hs.1 e1 v0 k0 (fun id hid => ho id (by simp [V.refs,hid]))
    have a2 := ihc t2 u2 _ _ _ _ _ hs.2 e2 (by rw [a1.1]; exact v1) k1 (fun id hid => ho id (by simp [V.refs,hid]))
    exact a1.trans a2
   | _ => exact hv.elim
  | _ => simp [Vav] at h
 | _ => intro t tt x hp hp' cs g _ h; cases t <;> simp [Vav] at h
theorem Vce {k : Kn} {v : V} {d : Dat} {hp hp' hp0 : List Blk} (hkd : kds hp = kds hp0) {u : Value} {g : List Nat} {t : Ty} {y : t.I} (h : Vbi k v d hp = some hp') (hv : VR φ (kds hp) w F v u) (ha : finK hp0 k t v = some y) (ht : t = d.t) (hO : KOk w' S k d.t d.x u g)
  (ho : ∀ id ∈ idsK k v,∀ b,blkOf (φ id) = some b → ow2 b = some id) : UpdOk φ ow2 w' S hp hp' (idsK k v) := by
 subst ht
 cases k with
 | val => simp [Vbi] at h
 | own =>
  simp only [Vbi] at h
  simp only [finK] at ha
  split at ha
  ·rename_i hs
   obtain ⟨cs,h1,h2⟩ := hO
   have : ∃ tt cs',VC φ (kds hp) w F tt v cs' ∧ Val tt u cs' := by
    cases v with
    | dat t' y => obtain ⟨cs,h1,h2⟩ := hv; exact ⟨t',cs,VC_dat.2 ⟨Ty.le_refl _,h1⟩,h2⟩
    | ref id =>
     rcases hv with hd | ⟨⟨e,t',hk⟩,rfl⟩
     ·exfalso
      rw [hkd] at hd
      obtain ⟨b,hb1,hb2⟩ := kds_some.1 hd
      cases b <;> simp [Blk.kd] at hb2
      cases hdt : d.t <;> (rw [hdt] at hs; simp [ownS] at hs) <;> (generalize d.x = dx at *; cases d; simp only at hdt; subst hdt; simp [V.as,hb1] at ha)
     ·refine ⟨.sl e t',[φ id],.inr ⟨hk,rfl,?_⟩,by simp [Val,isAgg]⟩
      obtain ⟨v',h3,h4⟩ : ∃ v',cs = [v'] ∧ ∃ A n c,v' = .slice A n c := by
       cases d with
       | mk dt dx =>
        cases dt with
        | sl e2 t2 => obtain ⟨v',h3,h4⟩ := h1; refine ⟨v',h3,?_⟩; rcases h4 with ⟨rfl,_⟩ | ⟨g,cap,cells,rfl,_⟩ <;> exact ⟨_,_,_,rfl⟩
        | slb e2 t2 => obtain ⟨v',h3,h4⟩ := h1; refine ⟨v',h3,?_⟩; rcases h4 with ⟨rfl,_⟩ | ⟨g,cap,cells,rfl,_⟩ <;> exact ⟨_,_,_,rfl⟩
        | _ => simp [ownS] at hs
      have h5 : v' = φ id := by
       have : isAgg d.t = false := by cases d with | mk dt dx => cases dt <;> simp [ownS] at hs <;> rfl
       unfold Val at h2
       rw [this] at h2
       rw [h3] at h2
       simpa using h2
      rw [← h5]; exact h4
    | pr b c => obtain ⟨tt,cs,h1,h2⟩ := hv; cases tt with
     | pair t1 t2 => exact ⟨_,cs,h1,by simpa [Val,isAgg] using h2⟩
     | _ => exact h1.elim
    | _ => cases hdt : d.t <;> rw [hdt] at hs <;> simp [ownS] at hs
   obtain ⟨tt,cs',h3,h4⟩ := this
   have hcs : cs = cs' := by
    have e1 := VeO _ _ _ _ h1
    have e2 := V9 _ _ _ h3
    have e3 := VfH _ _ _ _ hs h3
    unfold Val at h2 h4
    split at h2 <;> split at h4
    ·rw [h2] at h4; simpa using h4
    ·exfalso
     subst h4
     have := Vbj _ _ _ h3 _ List.mem_cons_self
     rw [h2] at this; simp [plain] at this
    ·exfalso
     subst h2
     have := Vf3 _ _ _ _ h1 u List.mem_cons_self
     rw [h4] at this; simp [plain] at this
    ·rw [h2,h4]
   subst hcs
   exact VeP v d.t tt d.x hp hp' cs g hs h h3 h1 ho
  ·cases ha
 | bx e =>
  cases v with
  | ptr id p =>
   cases p with
   | cons _ _ => simp [Vbi] at h
   | nil =>
    simp only [Vbi] at h
    split at h
    ·rename_i e' u' c hr
     split at h
     ·rename_i he; subst he
      split at h
      ·rename_i hu; subst hu
       cases h
       have hk : kds hp id = some (.box e' d.t) := kds_some.2 ⟨_,hr,rfl⟩
       obtain ⟨g0,cells,h1,h2,h3,h4⟩ := hO
       refine UpdOk.set (b' := .box e' d.t (.dat d.t d.x)) hr rfl (fun φ2 hk2 h5 => ?_)
       rcases hv with k | ⟨e2,t',g',n',cc,i,q,k,_⟩ | ⟨e2,t',g',k,h10,h11,h12⟩
       ·rw [hk] at k; cases k
       ·rw [hk] at k; cases k
       ·rw [h12] at h1
        simp [Ty.off] at h1
        subst h1
        exact ⟨g',cells,h5.trans h10,ho id (by simp [idsK]) g' (by rw [h10]; rfl),h3,VC_dat.2 ⟨Ty.le_refl _,h4⟩⟩
      ·cases h
     ·cases h
    ·cases h
  | _ => simp [Vbi] at h
theorem Vf4 : ∀ (ps : List (Kn × Ty)) (vs : List V) (ds : List Dat) (us : List Value) (gs : List (List Nat)) (hp hp' : List Blk) (hp0 : List Blk) (x : Tup (ps.map (·.2))),upds ps vs ds hp = some hp' → kds hp = kds hp0 →
  All2 (VR φ (kds hp0) w F) vs us → argT hp0 ps vs = some x → (∀ d ∈ (kds' (ios ps) ds).zip (ios ps),d.1.2.t = d.2.2) → KsOk w' S (kds' (ios ps) ds) (ioVs ps us) (ioGs ps gs) → gs.length = vs.length →
  (∀ id ∈ (idsL ps vs).flatten,∀ b,blkOf (φ id) = some b → ow2 b = some id) → UpdOk φ ow2 w' S hp hp' (idsL ps vs).flatten := by
 have argHead : ∀ {hp0 : List Blk} {k : Kn} {t : Ty} {r : List (Kn × Ty)} {v : V} {vs : List V} {x : Tup (((k,t) :: r).map (·.2))},argT hp0 ((k,t) :: r) (v :: vs) = some x → (∃ y,argOf hp0 k t v = some y) ∧ ∃ z,argT hp0 r vs = some z := by
  intro hp0 k t r v vs x h
  cases r with
  | nil =>
   cases vs with
   | nil => simp only [argT] at h; exact ⟨⟨_,h⟩,(),rfl⟩
   | cons _ _ => simp [argT] at h
  | cons q r =>
   simp only [argT] at h
   split at h
   ·rename_i y z h1 h2; exact ⟨⟨_,h1⟩,_,h2⟩
   ·cases h
 intro ps
 induction ps with
 | nil =>
  intro vs ds us gs hp hp' hp0 x h _ hv _ _ _ _ _
  cases hv with
  | nil =>
   cases ds with
   | nil => simp only [upds,Option.some.injEq] at h; subst h; exact UpdOk.refl _
   | cons _ _ => simp [upds] at h
  | cons _ _ => simp [upds] at h
 | cons p ps ih =>
  obtain ⟨k,t⟩ := p
  intro vs ds us gs hp hp' hp0 x h hkd hv ha ht hO hl ho
  cases hv with
  | nil => cases k <;> simp [upds] at h
  | cons h1 h2 =>
   rename_i v u vs us
   cases gs with
   | nil => simp at hl
   | cons g gs =>
   obtain ⟨⟨y,hy⟩,z,hz⟩ := argHead ha
   have hl' : gs.length = vs.length := by simpa using hl
   have ho2 : ∀ id ∈ (idsL ps vs).flatten,∀ b,blkOf (φ id) = some b → ow2 b = some id := fun id hid => ho id (by simp only [idsL,List.flatten_cons,List.mem_append]; exact .inr hid)
   cases k with
   | val =>
    have := ih vs ds us gs hp hp' hp0 z h hkd h2 hz ht hO hl' ho2
    simpa [idsL,idsK] using this
   | own =>
    cases ds with
    | nil => simp [upds] at h
    | cons d ds =>
     simp only [upds,Option.bind_eq_some_iff] at h
     obtain ⟨h3,e1,e2⟩ := h
     obtain ⟨u',l,g0,g1,eu,eg,hO1,hO2⟩ := hO
     simp only [ioVs,List.cons.injEq] at eu
     simp only [ioGs,List.cons.injEq] at eg
     obtain ⟨rfl,rfl⟩ := eu
     obtain ⟨rfl,rfl⟩ := eg
     have htd : t = d.t := (ht ((.own,d),(.own,t)) (by simp [ios,kds'])).symm
     have a1 := Vce (hp := hp) hkd e1 (by rw [hkd]; exact h1) hy htd hO1 (fun id hid => ho id (by simp only [idsL,List.flatten_cons,List.mem_append]; exact .inl hid))
     have a2 := ih vs ds us gs h3 hp' hp0 z e2 (a1.1.trans hkd) h2 hz (fun q hq => ht q (by simp only [ios,kds',List.zip_cons_cons,List.mem_cons]; exact .inr hq)) hO2 hl' ho2
     simpa [idsL] using a1.trans a2
   | bx e =>
    cases ds with
    | nil => simp [upds] at h
    | cons d ds =>
     simp only [upds,Option.bind_eq_some_iff] at h
     obtain ⟨h3,e1,e2⟩ := h
     obtain ⟨u',l,g0,g1,eu,eg,hO1,hO2⟩ := hO
     simp only [ioVs,List.cons.injEq] at eu
     simp only [ioGs,List.cons.injEq] at eg
     obtain ⟨rfl,rfl⟩ := eu
     obtain ⟨rfl,rfl⟩ := eg
     have htd : t = d.t := (ht ((.bx e,d),(.bx e,t)) (by simp [ios,kds'])).symm
     have a1 := Vce (hp := hp) hkd e1 (by rw [hkd]; exact h1) hy htd hO1 (fun id hid => ho id (by simp only [idsL,List.flatten_cons,List.mem_append]; exact .inl hid))
     have a2 := ih vs ds us gs h3 hp' hp0 z e2 (a1.1.trans hkd) h2 hz (fun q hq => ht q (by simp only [ios,kds',List.zip_cons_cons,List.mem_cons]; exact .inr hq)) hO2 hl' ho2
     simpa [idsL] using a1.trans a2
end
end Go.Ev

namespace Go.Ev
set_option linter.unusedVariables false
set_option linter.unusedSimpArgs false
open Go.RowKit
variable {ρ : Type} {P : Program}
theorem Var : ∀ (ts : List Ty) (x : Tup ts),(dats ts x).map (·.t) = ts := by
 intro ts
 induction ts with
 | nil => intro x; rfl
 | cons t ts ih =>
  intro x
  cases ts with
  | nil => rfl
  | cons u ts => simp only [dats,List.map_cons]; rw [ih]
theorem Vif : ∀ (ps : List (Kn × Ty)) (ds : List Dat),ds.map (·.t) = ps.map (·.2) → ∀ q ∈ (kds' ps ds).zip ps,q.1.2.t = q.2.2 := by
 intro ps
 induction ps with
 | nil => intro ds _ q hq; simp [kds'] at hq
 | cons p ps ih =>
  obtain ⟨k,t⟩ := p
  intro ds h q hq
  cases ds with
  | nil => simp at h
  | cons d ds =>
   simp only [List.map_cons,List.cons.injEq] at h
   simp only [kds',List.zip_cons_cons,List.mem_cons] at hq
   rcases hq with rfl | hq
   ·exact h.1
   ·exact ih ds h.2 q hq
theorem Vig : ∀ (ps : List (Kn × Ty)) (ds : List Dat),ds.map (·.t) = ps.map (·.2) → ∀ k d,(k,d) ∈ kds' ps ds → (k,d.t) ∈ ps := by
 intro ps
 induction ps with
 | nil => intro ds _ k d hq; simp [kds'] at hq
 | cons p ps ih =>
  obtain ⟨k,t⟩ := p
  intro ds h k' d hq
  cases ds with
  | nil => simp at h
  | cons d0 ds =>
   simp only [List.map_cons,List.cons.injEq] at h
   simp only [kds',List.mem_cons] at hq
   rcases hq with hq | hq
   ·cases hq; rw [h.1]; exact List.mem_cons_self
   ·exact List.mem_cons_of_mem _ (ih ds h.2 k' d hq)
theorem Vih : ∀ (ps : List (Kn × Ty)) (p : Kn × Ty),p ∈ ios ps → p ∈ ps ∧ ∀ t,p ≠ (.val,t) := by
 intro ps
 induction ps with
 | nil => intro p h; simp [ios] at h
 | cons q ps ih =>
  obtain ⟨k,t⟩ := q
  intro p h
  cases k with
  | val => simp only [ios] at h; exact ⟨List.mem_cons_of_mem _ (ih p h).1,(ih p h).2⟩
  | own => simp only [ios,List.mem_cons] at h; rcases h with rfl | h; exact ⟨List.mem_cons_self,fun t h => by cases h⟩; exact ⟨List.mem_cons_of_mem _ (ih p h).1,(ih p h).2⟩
  | bx e => simp only [ios,List.mem_cons] at h; rcases h with rfl | h; exact ⟨List.mem_cons_self,fun t h => by cases h⟩; exact ⟨List.mem_cons_of_mem _ (ih p h).1,(ih p h).2⟩
theorem Vhn {φ : Nat → Value} {hk : Nat → Option Kd} {w : World} {S : Nat → Prop} {vs : List V} {us : List Value} (h : All2 (VR φ hk w S) vs us) (hne : us ≠ []) : VR φ hk w S (resOf vs) (retOf us) := by
 have tl : ∀ (vs : List V) (us : List Value),All2 (VR φ hk w S) vs us → VRt φ hk w S (tpOf vs) us := by
  intro vs us h
  induction h with
  | nil => rfl
  | cons h _ ih => exact ⟨_,_,rfl,h,ih⟩
 cases h with
 | nil => exact absurd rfl hne
 | cons h1 h2 =>
  cases h2 with
  | nil => exact h1
  | cons h3 h4 => exact ⟨_,_,rfl,h1,tl _ _ (.cons h3 h4)⟩
theorem VcX {w : World} {S : Nat → Prop} : ∀ (ks : List (Kn × Dat)) (vs : List Value) (gs : List (List Nat)),KsOk w S ks vs gs → vs.length = ks.length ∧ gs.length = ks.length := by
 intro ks
 induction ks with
 | nil => rintro vs gs ⟨rfl,rfl⟩; exact ⟨rfl,rfl⟩
 | cons k ks ih =>
  obtain ⟨k,d⟩ := k
  rintro vs gs ⟨v,l,g0,g1,rfl,rfl,_,h⟩
  simp [ih _ _ h]
section
variable {E : Env} {base : Nat} {W0 : World} {IO Old : Nat → Prop} {φ0 : Nat → Value × Kd} {s : St} {a : Act} {w w' : World} {o : Oper} {r : ρ} {k : St → Option ρ} {next : Act → World → Prop} {Q : Exit → Act → World → Prop} {φ : Nat → Value} {ow ow2 : Nat → Option Nat} {S F : Nat → Prop}
theorem All2.length {α β : Type} {R : α → β → Prop} {l : List α} {m : List β} (h : All2 R l m) : l.length = m.length := h.get.1
theorem VcY : ∀ (ps : List (Kn × Ty)) (vs : List V),ps.length = vs.length → (idsL ps vs).length = vs.length := by
 intro ps
 induction ps with
 | nil => intro vs h; cases vs <;> simp_all [idsL]
 | cons p ps ih =>
  obtain ⟨k,t⟩ := p
  intro vs h
  cases vs with
  | nil => simp at h
  | cons v vs => simp only [idsL,List.length_cons]; rw [ih vs (by simpa using h)]
theorem VaQ : ∀ (ps : List (Kn × Ty)) (ds : List Dat),ps.length ≤ ds.length → (kds' ps ds).length = ps.length := by
 intro ps
 induction ps with
 | nil => intro ds _; rfl
 | cons p ps ih =>
  obtain ⟨k,t⟩ := p
  intro ds h
  cases ds with
  | nil => simp at h
  | cons d ds => simp only [kds',List.length_cons]; rw [ih ds (by simpa using h)]
theorem Vgz : ∀ (ps : List (Kn × Ty)) (us : List V),ps.any Vb8 = false → (idsL ps us).flatten = [] := by
 intro ps
 induction ps with
 | nil => intro us _; rfl
 | cons p ps ih =>
  obtain ⟨k,t⟩ := p
  intro us h
  cases us with
  | nil => rfl
  | cons u us =>
   simp only [List.any_cons,Bool.or_eq_false_iff] at h
   simp only [idsL,List.flatten_cons,ih us h.2,List.append_nil]
   cases k with
   | val => rfl
   | own => simp [Vb8] at h
   | bx e => simp [Vb8] at h
theorem Vf5 : ∀ (l : List Nat) (hp : List Blk),(Vbc l hp).length = hp.length ∧ Kds (kds hp) (kds (Vbc l hp)) ∧ ∀ i b,(Vbc l hp)[i]? = some b → (i ∈ l → b = .dead) ∧ (i ∉ l → hp[i]? = some b) := by
 intro l
 induction l with
 | nil => intro hp; exact ⟨rfl,Kds.refl _,fun i b hb => ⟨fun h => (List.not_mem_nil h).elim,fun _ => hb⟩⟩
 | cons j l ih =>
  intro hp
  obtain ⟨h1,h2,h3⟩ := ih (hp.set j .dead)
  refine ⟨by simp only [Vbc,h1,List.length_set],fun i k hk => ?_,fun i b hb => ?_⟩
  ·rcases Vbk hp j i k hk with h4 | h4
   ·exact h2 i k h4
   ·exact .inr ((h2 i _ h4).elim (fun h => h) (fun h => h))
  ·obtain ⟨h4,h5⟩ := h3 i b hb
   by_cases hm : i ∈ l
   ·exact ⟨fun _ => h4 hm,fun h => absurd (List.mem_cons_of_mem _ hm) h⟩
   ·have h6 := h5 hm
    rw [List.getElem?_set] at h6
    split at h6
    ·rename_i e
     subst e
     split at h6
     ·cases h6; exact ⟨fun _ => rfl,fun h => absurd List.mem_cons_self h⟩
     ·cases h6
    ·rename_i e
     exact ⟨fun h => (List.mem_cons.1 h).elim (fun h => absurd h.symm e) (fun h => absurd h hm),fun _ => h6⟩
theorem Vfn (hE : EnvOk P E IO Old) {cl : Call} {f : FuncId} {c : Con} (ho : o.op = .call cl) (hc : cl.callee = .value (.func f)) (hC : E.C f = some c) (hr : RelE base W0 IO Old E.io φ0 s a w) (hn : Nxt E base W0 IO Old φ0 k r next)
  (h : callK E.io c cl.args.toList s (fun v s => k (s.put o.dst v)) = some r) : OpR P E o a w next Q := by
 obtain ⟨ow0,φ,hr⟩ := hr
 unfold callK at h
 split at h
 ·cases h
 rename_i vs hvs
 dsimp only at h
 split at h
 rotate_left
 ·cases h
 rename_i us hus
 split at h
 rotate_left
 ·cases h
 rename_i hcond
 simp only [Bool.and_eq_true,Bool.or_eq_true,List.all_eq_true,decide_eq_true_eq,Bool.not_eq_true',List.contains_eq_mem,decide_eq_false_iff_not] at hcond
 obtain ⟨⟨⟨⟨hc1,hc2⟩,hc3⟩,hc4⟩,hc5⟩ := hcond
 split at h
 rotate_left
 ·cases h
 rename_i x hx
 -- the state before the call
 obtain ⟨ow,hr⟩ : ∃ ow,Rel base W0 IO Old E.io φ0 (if c.pure = true then s else s.freezes (VV c.ps vs)) a w ow φ := by
  by_cases hp : c.pure = true
  ·rw [if_pos hp]; exact ⟨ow0,hr⟩
  ·rw [if_neg hp]; exact VY _ _ _ _ (hc1.resolve_left hp) hr
 generalize hs1 : (if c.pure = true then s else s.freezes (VV c.ps vs)) = s1 at *
 rw [Option.bind_eq_some_iff] at h
 obtain ⟨r',hF,h⟩ := h
 split at h
 rotate_left
 ·cases h
 rename_i h2 hupd
 have hvr := Vgw hr _ _ hus
 -- where the arguments' data lie
 let OldC : Nat → Prop := fun b => Fz ow w Old base b ∨ ∃ id,id ∈ VV c.ps us ∧ ow b = some id
 obtain ⟨hks,hown⟩ := Vf2 (S' := OldC) hr.hp (fun b hb => .inl hb) c.ps us _ x (fun g id h1 h2 => .inr ⟨id,h1,h2⟩) hvr hx
 have hgs : ((idsL c.ps us).map (Vo φ)).flatten = Vo φ (idsL c.ps us).flatten := Vaw _
 have hnd : (Vo φ (idsL c.ps us).flatten).Nodup := Vbo _ (VaJ _ hc3) hown
 have hlt : ∀ g ∈ Vo φ (idsL c.ps us).flatten,g < w.heap.size ∧ ∃ id ∈ (idsL c.ps us).flatten,ow g = some id := fun g hg => by
  obtain ⟨id,i1,i2⟩ := Vaq hg
  have := hown id i1 g i2
  exact ⟨(hr.own g id this).1,id,i1,this⟩
 have hOld : ∀ b,OldC b → b < w.heap.size ∧ b ∉ ((idsL c.ps us).map (Vo φ)).flatten := by
  intro b hb
  rw [hgs]
  rcases hb with hb | ⟨id,h3,h4⟩
  ·refine ⟨hb.2.1,fun hm => ?_⟩
   obtain ⟨_,id,_,h5⟩ := hlt b hm
   rw [hb.1] at h5; cases h5
  ·refine ⟨(hr.own b id h4).1,fun hm => ?_⟩
   obtain ⟨_,id',h6,h5⟩ := hlt b hm
   rw [h4] at h5; cases h5
   exact hc4 id h3 h6
 obtain ⟨hsound,fn,hfn,hbody,hname,hne⟩ := hE.con f c hC
 have hcall := hsound x r' hF w _ _ OldC hOld (hgs ▸ hnd) (fun g hg => (hlt g (hgs ▸ hg)).1) hks
 have hrun : (execOp a.eval o).run P w = .ok (.enter f (cl.args.toList.map a.eval).toArray) w := by
  have hbn : fn.body.isNone = false := by cases hb : fn.body <;> simp_all
  have e1 : (cl.args.toList.map a.eval).toArray = cl.args.map a.eval := by rw [← Array.toList_map]
  rw [e1]
  simp [execOp,ho,resolve,hc,Act.eval,Deferred.ofValue,invoke,callFunc,hfn,hname,hbn]
  intro hb
  rw [hb] at hbody
  simp at hbody
 refine .inr ⟨by simp [quiet,ho,hc],?_⟩
 unfold Oper.wp
 rw [hrun,Oper.upon_enter]
 refine hcall.mono fun e w' hpost => ?_
 obtain ⟨rvs,hss,rfl,hrl,hnd2,hhs,hres,hio,hfr,hsz,hmt⟩ := hpost
 rw [hgs] at hfr
 -- what is given away
 generalize hGm : gvG c.gv ((idsL c.ps us).map (Vo φ)) = Gm at hhs hres hio
 generalize hKp : kpG c.gv ((idsL c.ps us).map (Vo φ)) = Kp at hnd2 hres hio
 have hGmG : ∀ b ∈ Gm,b ∈ Vo φ (idsL c.ps us).flatten := fun b hb => by
  rw [← hGm] at hb
  cases hg : c.gv
  ·rw [hg] at hb; simp [gvG] at hb
  ·rw [hg] at hb; rw [← hgs]; exact hb
 have hGmO : ∀ b ∈ Gm,base ≤ b ∨ (IO b ∧ Old b) := fun b hb => by
  have hg : c.gv = true := by
   cases hg : c.gv
   ·rw [← hGm,hg] at hb; simp [gvG] at hb
   ·rfl
  obtain ⟨_,id,i1,i2⟩ := hlt b (hGmG b hb)
  rcases hc5 with h0 | h0
  ·rw [hg] at h0; cases h0
  ·have h1 := h0 id i1
   rcases (hr.own b id i2).2.1 with h8 | ⟨h9,h8 | h8⟩
   ·exact .inl h8
   ·omega
   ·exact .inr ⟨h9,h8⟩
 have hGmo : ∀ b ∈ Gm,∃ id ∈ (idsL c.ps us).flatten,ow b = some id := fun b hb => (hlt b (hGmG b hb)).2
 show (marks E o = false → Below w.heap.size w w') ∧ next (a.put o.dst (retOf rvs)) w'
 have hlen := Var _ r'
 have hl1 : c.rs.length ≤ (dats _ r').length := by
  have := congrArg List.length hlen
  simp only [List.length_map,List.length_append] at this
  omega
 -- the owners behind the call
 let G := Vo φ (idsL c.ps us).flatten
 let A' := Aft (fun b => OldC b ∨ b ∈ Gm) w w' (hss.flatten ++ Kp)
 let F2 : Nat → Prop := fun b => (b < w.heap.size → b ∉ Gm → ow b = none) ∧ b ∉ hss.flatten ∧ b < w'.heap.size ∧ (Old b ∨ base ≤ b)
 -- data that may lie in the results
 have hA : c.pure = true ∨ ∀ b,A' b → F2 b := by
  rcases hc2 with hp | hp
  ·exact .inl hp
  ·refine .inr fun b ⟨h1,h2,h3⟩ => ?_
   have hemp := List.isEmpty_iff.1 hp
   rw [List.mem_append,not_or] at h3
   have h4 : b < w.heap.size → b ∉ Gm → Fz ow w Old base b := fun hb hb' => by
    rcases h1 with ((h1 | ⟨id,h5,_⟩) | h1) | h1
    ·exact h1
    ·rw [hemp] at h5; simp at h5
    ·exact absurd h1 hb'
    ·omega
   refine ⟨fun hb hb' => (h4 hb hb').1,h3.1,h2,?_⟩
   by_cases hb : b < w.heap.size
   ·by_cases hb' : b ∈ Gm
    ·exact (hGmO b hb').elim .inr (fun h => .inl h.2)
    ·exact (h4 hb hb').2.2
   ·exact .inr (Nat.le_trans hr.sz (Nat.le_of_not_lt hb))
 have conv : ∀ (ps : List (Kn × Ty)) (ds : List Dat) (vs : List Value) (gs : List (List Nat)),(∀ p ∈ ps,c.pure = true → flatK p = true) → ds.map (·.t) = ps.map (·.2) → KsOk w' A' (kds' ps ds) vs gs → KsOk w' F2 (kds' ps ds) vs gs := by
  intro ps ds vs gs hps hds hk
  rcases hA with hp | hA
  ·exact VeN _ _ _ (fun k d v g hm hh => Vhm (hps _ (Vig ps ds hds k d hm) hp) hh) hk
  ·exact VeN _ _ _ (fun k d v g hm hh => KOk_S hA hh) hk
 have hpure : ∀ p,(p ∈ c.rs ∨ p ∈ ios c.ps) → c.pure = true → flatK p = true := by
  intro p hp hpu
  simp only [Con.pure,Bool.and_eq_true,List.all_eq_true] at hpu
  rcases hp with hp | hp
  ·exact hpu.1 p hp
  ·obtain ⟨h1,h2⟩ := Vih _ _ hp
   have := hpu.2 p h1
   obtain ⟨k,t⟩ := p
   cases k with
   | val => exact absurd rfl (h2 t)
   | own => exact this
   | bx e => exact this
 have hdt : (dats _ r').map (·.t) = c.rs.map (·.2) ++ (iosG c.gv c.ps).map (·.2) := by rw [hlen,List.map_append]
 have htake : ∀ (ps : List (Kn × Ty)) (ds : List Dat),kds' ps ds = kds' ps (ds.take ps.length) := by
  intro ps
  induction ps with
  | nil => intro ds; rfl
  | cons p ps ih =>
   obtain ⟨k,t⟩ := p
   intro ds
   cases ds with
   | nil => rfl
   | cons d ds => simp only [List.length_cons,List.take_succ_cons,kds']; rw [ih]
 have hres2 : KsOk w' F2 (kds' c.rs (dats _ r')) rvs hss := by
  rw [htake] at hres ⊢
  refine conv _ _ _ _ (fun p hp => hpure p (.inl hp)) ?_ hres
  rw [List.map_take,hdt,List.take_left' (by simp)]
 have hio2 : c.gv = false → KsOk w' F2 (kds' (ios c.ps) ((dats _ r').drop c.rs.length)) (ioVs c.ps (cl.args.toList.map a.eval)) (ioGs c.ps ((idsL c.ps us).map (Vo φ))) := by
  intro hg
  have e1 : iosG c.gv c.ps = ios c.ps := by rw [hg]; rfl
  have e2 : ioVsG c.gv c.ps (cl.args.toList.map a.eval) = ioVs c.ps (cl.args.toList.map a.eval) := by rw [hg]; rfl
  have e3 : ioGsG c.gv c.ps ((idsL c.ps us).map (Vo φ)) = ioGs c.ps ((idsL c.ps us).map (Vo φ)) := by rw [hg]; rfl
  generalize dats _ r' = ds at hio hdt
  rw [e1,e2,e3] at hio
  rw [e1] at hdt
  refine conv _ _ _ _ (fun p hp => hpure p (.inr hp)) ?_ hio
  rw [List.map_drop,hdt,List.drop_left' (by simp)]
 obtain ⟨fs,hfs,hvs'⟩ := Vic _ _ _ hres2
 have hfl := Vaj _ _ _ hfs
 obtain ⟨hfm,hfg⟩ := VaX _ _ _ hfs
 have hnf : (fs.flatMap (fun v => (blkOf v).toList)).Nodup := by rw [← hfm]; exact (List.nodup_append.1 hnd2).1
 let N := h2.length
 let ow2 : Nat → Option Nat := fun b => if b < w.heap.size ∧ b ∉ Gm then ow b else ownOf fs N b
 let φ2 : Nat → Value := fun i => if i < N then φ i else fs.getD (i - N) (.bool false)
 have hw2lt : ∀ b,b < w.heap.size ∧ b ∉ Gm → ow2 b = ow b := fun b hb => if_pos hb
 have hw2ge : ∀ b,¬ (b < w.heap.size ∧ b ∉ Gm) → ow2 b = ownOf fs N b := fun b hb => if_neg hb
 have hFz : ∀ b,F2 b → Fz ow2 w' Old base b := by
  rintro b ⟨h1,h3,h4,h5⟩
  refine ⟨?_,h4,h5⟩
  by_cases hb : b < w.heap.size ∧ b ∉ Gm
  ·rw [hw2lt b hb]; exact h1 hb.1 hb.2
  ·rw [hw2ge b hb]; exact Vdx _ _ _ (by rw [← hfm]; exact h3)
 have hFold : ∀ b,Fz ow w Old base b → F2 b ∧ w'.heap[b]? = w.heap[b]? := by
  rintro b ⟨h1,h3,h4⟩
  refine ⟨⟨fun _ _ => h1,fun hm => ?_,by omega,h4⟩,hfr b h3 fun hm => ?_⟩
  ·rcases (hhs b hm).1 with h6 | h6
   ·omega
   ·obtain ⟨id,_,h5⟩ := hGmo b h6
    rw [h1] at h5; cases h5
  obtain ⟨_,id,_,h5⟩ := hlt b hm
  rw [h1] at h5; cases h5
 -- the parameters that were written
 have hupdok : N = s1.hp.length ∧ Kds (kds s1.hp) (kds h2) ∧ ∀ i b,h2[i]? = some b → (i ∈ (idsL c.ps us).flatten → ∀ φ' hk',φ' i = φ i → BR φ' hk' ow2 w' F2 i b) ∧ (i ∉ (idsL c.ps us).flatten → s1.hp[i]? = some b) := by
  unfold Con.upd at hupd
  split at hupd
  ·cases hupd
   obtain ⟨k1,k2,k3⟩ := Vf5 (idsL c.ps us).flatten s1.hp
   refine ⟨k1,k2,fun i b hb => ⟨fun hm φ' hk' _ => ?_,fun hm => (k3 i b hb).2 hm⟩⟩
   rw [(k3 i b hb).1 hm]; trivial
  rename_i hg
  have hGm0 : ∀ b,b ∉ Gm := fun b hb => by rw [← hGm,hg] at hb; simp [gvG] at hb
  suffices hu : UpdOk φ ow2 w' F2 s1.hp h2 (idsL c.ps us).flatten by
   refine ⟨hu.2.1,fun i k hk => .inl (by rw [hu.1]; exact hk),fun i b hb => ⟨fun hm φ' hk' e => (hu.2.2 i b hb).1 hm φ' hk' e,fun hm => (hu.2.2 i b hb).2 hm⟩⟩
  have hio2 := hio2 hg
  have hdt0 : (dats _ r').map (·.t) = c.rs.map (·.2) ++ (ios c.ps).map (·.2) := by rw [hdt,hg]; rfl
  have hpl : c.ps.length = us.length := by
   have h3 := (VcX _ _ _ hks).1
   have h4 := hvr.length
   have h5 := Var _ x
   have h6 := congrArg List.length h5
   simp only [List.length_map] at h6
   rw [VaQ _ _ (by omega)] at h3
   omega
  refine Vf4 c.ps us _ _ ((idsL c.ps us).map (Vo φ)) s1.hp h2 s1.hp x hupd rfl hvr hx ?_ hio2 (by rw [List.length_map,VcY _ _ hpl]) (fun id hid b hb => ?_)
  ·exact Vif _ _ (by rw [List.map_drop,hdt0,List.drop_left' (by simp)])
  ·have := hown id hid b hb
   rw [hw2lt b ⟨(hr.own b id this).1,hGm0 b⟩]; exact this
 have hN : N = s1.hp.length := hupdok.1
 have hup : ∀ i k,kds h2 i = some k → kds (h2 ++ ksB (kds' c.rs (dats _ r'))) i = some k := fun i k hk => by
  have hi := VZ hk
  obtain ⟨b,hb1,hb2⟩ := kds_some.1 hk
  exact kds_some.2 ⟨b,by rw [List.getElem?_append_left hi]; exact hb1,hb2⟩
 have hkds : Kds (kds s1.hp) (kds (h2 ++ ksB (kds' c.rs (dats _ r')))) := fun i k hk => (hupdok.2.1 i k hk).imp (hup i _) (hup i _)
 have hφ2 : ∀ i k,kds s1.hp i = some k → φ2 i = φ i := fun i k hk => by
  have hi := VZ hk
  exact if_pos (by omega)
 have hφN : ∀ (j : Nat) (v : Value),fs[j]? = some v → φ2 (N + j) = v := fun j v hv => by
  show (if N + j < N then φ (N + j) else fs.getD (N + j - N) (.bool false)) = v
  rw [if_neg (by omega),Nat.add_sub_cancel_left,List.getD_eq_getElem?_getD,hv]; rfl
 have hG : ∀ g' id,ow g' = some id → id ∉ (idsL c.ps us).flatten → w'.heap[g']? = w.heap[g']? := fun g' id h3 h4 => hfr g' (hr.own g' id h3).1 fun hm => by
  obtain ⟨_,id',h5,h6⟩ := hlt g' hm
  rw [h3] at h6; cases h6
  exact h4 h5
 have hrel : Rel base W0 IO Old E.io φ0 { s1 with hp := h2 ++ ksB (kds' c.rs (dats _ r')) } a w' ow2 φ2 := by
  refine hr.step hφ2 hkds (fun b hb => ⟨hFz b (hFold b hb).1,(hFold b hb).2⟩) (fun i b hb => ?_) (fun b i hb => ?_) (fun b h3 h4 => hfr b (Nat.lt_of_lt_of_le h3 hr.sz) fun hm => ?_) hsz hmt
  ·by_cases hi : i < N
   ·rw [List.getElem?_append_left hi] at hb
    obtain ⟨u1,u2⟩ := hupdok.2.2 i b hb
    by_cases hm : i ∈ (idsL c.ps us).flatten
    ·have := u1 hm φ2 (kds (h2 ++ ksB (kds' c.rs (dats _ r')))) (if_pos hi)
     exact VX rfl (fun _ _ _ => rfl) (Kds.refl _) (fun b hb => ⟨hFz b hb,rfl⟩) (fun g hg => ⟨hg,rfl⟩) this
    ·have hb0 := u2 hm
     exact VX (if_pos hi) hφ2 hkds (fun b hb => ⟨hFz b (hFold b hb).1,(hFold b hb).2⟩)
      (fun g hg => ⟨by
       rw [hw2lt g ⟨(hr.own g i hg).1,fun h6 => ?_⟩]; exact hg
       obtain ⟨id',h7,h8⟩ := hGmo g h6
       rw [hg] at h8; cases h8; exact hm h7,hG g i hg hm⟩) (hr.hp i b hb0)
   ·have hiN : N ≤ i := Nat.le_of_not_lt hi
    rw [List.getElem?_append_right hiN] at hb
    obtain ⟨v,hv1,hv2⟩ := hfg _ b hb
    have hNi : N + (i - N) = i := by omega
    refine Vdy hv2 (by have := hφN _ _ hv1; rw [hNi] at this; exact this) (fun g hg => ?_) hFz
    have hgm : g ∈ hss.flatten := by rw [hfm]; exact List.mem_flatMap.2 ⟨v,List.mem_of_getElem? hv1,by rw [hg]; simp⟩
    have hge : ¬ (g < w.heap.size ∧ g ∉ Gm) := fun h6 => (hhs g hgm).1.elim (fun h => by omega) (fun h => h6.2 h)
    rw [hw2ge g hge,Vd5 fs N g (i - N) v hnf hv1 hg,hNi]
  ·rw [List.length_append]
   by_cases hlb : b < w.heap.size ∧ b ∉ Gm
   ·rw [hw2lt b hlb] at hb
    have := hr.own b i hb
    refine ⟨by omega,this.2.1,?_⟩
    show i < N + _
    omega
   ·rw [hw2ge b hlb] at hb
    obtain ⟨j,v,rfl,h5,h6⟩ := Vdw _ _ _ _ hb
    have hgm : b ∈ hss.flatten := by rw [hfm]; exact List.mem_flatMap.2 ⟨v,List.mem_of_getElem? h5,by rw [h6]; simp⟩
    have hj := (List.getElem?_eq_some_iff.1 h5).1
    exact ⟨(hhs b hgm).2,(hhs b hgm).1.elim (fun h => .inl (Nat.le_trans hr.sz h)) (fun h => (hGmO b h).imp (fun h => h) (fun h => ⟨h.1,.inr h.2⟩)),by omega⟩
  ·obtain ⟨_,id,h5,h6⟩ := hlt b hm
   rcases (hr.own b id h6).2.1 with h7 | ⟨h7,_⟩
   ·omega
   ·exact h4 h7
 have hval : VR φ2 (kds (h2 ++ ksB (kds' c.rs (dats _ r')))) w' (Fz ow2 w' Old base) (resOf (ksV (kds' c.rs (dats _ r')) N)) (retOf rvs) := by
  have hall := hvs' φ2 (kds (h2 ++ ksB (kds' c.rs (dats _ r')))) N hφN (fun j b hb => kds_some.2 ⟨b,by rw [List.getElem?_append_right (Nat.le_add_right _ _),Nat.add_sub_cancel_left]; exact hb,rfl⟩)
  have hall2 := Vhn hall (by
   intro hnil
   rw [hnil] at hrl
   exact hne (List.eq_nil_of_length_eq_zero hrl.symm))
  exact (Vbe (fun _ _ _ => rfl) (Kds.refl _) (fun b hb => ⟨hFz b hb,rfl⟩) _).1 _ hall2
 refine ⟨fun hm => ⟨hmt.1,hmt.2.1,hmt.2.2,hsz,fun b hb => hfr b hb ?_⟩,hn _ _ _ h ⟨ow2,φ2,hrel.put hval _⟩⟩
 have hm2 : c.ps.any Vb8 = false := by simpa [marks,ho,hc,hC] using hm
 rw [Vgz _ _ hm2]
 simp [Vo]
end
end Go.Ev

namespace Go.Ev
set_option linter.unusedVariables false
set_option linter.unusedSimpArgs false
open Go.RowKit
variable {ρ : Type} {P : Program}
section
variable {base io : Nat} {W0 : World} {IO Old : Nat → Prop} {φ0 : Nat → Value × Kd} {s : St} {a : Act} {w : World} {ow : Nat → Option Nat} {φ : Nat → Value} {T : Tab} {o : Oper} {S : Nat → Prop}
theorem Vcf {α : Type} (xs : List α) (a b : Nat) (ha : a ≤ xs.length) (hb : b ≤ xs.length) : (copyL xs a b).length = xs.length := by
 unfold copyL
 simp only [List.length_append,List.length_take,List.length_drop]
 omega
theorem Vd6 {α : Type} (xs ys : List α) (a b : Nat) (ha : a ≤ xs.length) (hb : b ≤ xs.length) (i : Nat) :
  (copyL xs a b ++ ys)[i]? = if a ≤ i ∧ i < a + min (xs.length - b) (xs.length - a) then xs[b + (i - a)]? else (xs ++ ys)[i]? := by
 have hl := Vcf xs a b ha hb
 have h1 : (xs.take a).length = a := by rw [List.length_take]; omega
 have h2 : ((xs.drop b).take (xs.length - a)).length = min (xs.length - b) (xs.length - a) := by rw [List.length_take,List.length_drop]; omega
 by_cases hi : i < xs.length
 ·rw [List.getElem?_append_left (by omega),List.getElem?_append_left hi]
  unfold copyL
  by_cases h3 : i < a
  ·rw [List.getElem?_append_left (by omega),if_neg (by omega),List.getElem?_take,if_pos h3]
  ·rw [List.getElem?_append_right (by omega),h1]
   by_cases h4 : i < a + min (xs.length - b) (xs.length - a)
   ·rw [if_pos (by omega),List.getElem?_append_left (by omega),List.getElem?_take,if_pos (by omega),List.getElem?_drop]
   ·rw [if_neg (by omega),List.getElem?_append_right (by omega),h2,List.getElem?_drop]
    congr 1
    omega
 ·rw [List.getElem?_append_right (by omega),List.getElem?_append_right (by omega),hl,if_neg (by omega)]
theorem VeQ {α : Type} {l : List α} {i : Nat} {x : α} (h : l[i]? = some x) : l.set i x = l := by
 apply List.ext_getElem?
 intro j
 rw [List.getElem?_set]
 have hi := (List.getElem?_eq_some_iff.1 h).1
 split
 ·rename_i e; rw [← e,h]
 ·rfl
theorem Vho (h : Rel base W0 IO Old io φ0 s a w ow φ) {id l m : Nat} {e tx ty tz : TypeId} {u : Ty} {n : Nat} {xs : List u.I} {ys : Option (List u.I)} (hb : s.hp[id]? = some (.row e u xs ys)) (ht : P.underlying tx = some (.slice e)) (hT : TyOk P T e u n)
  {va vb : Value} (hv : VR φ (kds s.hp) w S (.vw id l) va) (hw : VR φ (kds s.hp) w S (.vw id m) vb) :
  ∃ w',(Builtin.copy_ #[tx,tz] ty #[va,vb]).run P w = .ok (goInt ((min (xs.length - m) (xs.length - l) : Nat) : Int)) w' ∧ Rel base W0 IO Old io φ0 { s with hp := s.hp.set id (.row e u (copyL xs l m) ys) } a w' ow φ := by
 have hk : kds s.hp id = some (.row e u) := kds_some.2 ⟨_,hb,rfl⟩
 rcases hv with k | ⟨e1,t1,A,n1,cap,k,h1,h2,rfl⟩
 ·rw [hk] at k; cases k
 rw [hk] at k; cases k
 rcases hw with k | ⟨e1,t1,A',n1',cap',k,h1',h2',rfl⟩
 ·rw [hk] at k; cases k
 rw [hk] at k; cases k
 rw [h1] at h1'; cases h1'
 have hid := (List.getElem?_eq_some_iff.1 hb).1
 rcases h.hp id _ hb with ⟨h4,rfl,h6⟩ | ⟨g,cap2,cells,h4,h5,h6,h7,h8,h9,h10⟩
 ·rw [h1] at h4; cases h4
  obtain rfl : l = 0 := by omega
  obtain rfl : m = 0 := by omega
  refine ⟨w,by simp [Builtin.copy_,Vn ht,Builtin.lenOf,Builtin.firstCells,hT.size],?_⟩
  have : s.hp.set id (.row e u (copyL [] 0 0) ys) = s.hp := VeQ hb
  rw [this]; exact h
 ·rw [h1] at h4; cases h4
  have hxs : xs.length ≤ cap := by rw [List.length_append] at h9; omega
  by_cases hN : min (xs.length - m) (xs.length - l) = 0
  ·have hc : copyL xs l m = xs := by
    apply List.ext_getElem?
    intro i
    have := Vd6 xs [] l m h2 h2' i
    rw [List.append_nil,List.append_nil] at this
    rw [this,if_neg (by omega)]
   refine ⟨w,?_,?_⟩
   ·have e1 : ∀ p : Addr,(loadCells p 0).run P w = .ok #[] w := fun p => by simp [loadCells,loadCellsFrom]
    rw [hN]
    have e2 : Nat.min (xs.length - m) (xs.length - l) = 0 := hN
    generalize (if cap = l then some ({ block := g,off := 0 } : Addr) else Option.map (fun x => x.add (l * u.sz)) (some ({ block := g,off := 0 } : Addr))) = B1
    by_cases q1 : cap = m <;> cases B1 <;> simp [Builtin.copy_,Vn ht,Builtin.lenOf,Builtin.firstCells,hT.size,q1,e2,e1,storeCells,hN]
   ·rw [hc]
    rw [VeQ hb]; exact h
  ·generalize hNd : min (xs.length - m) (xs.length - l) = N at *
   have q1 : cap ≠ m := by omega
   have q2 : cap ≠ l := by omega
   have hcl : cells.toList.length = cap * u.sz := by rw [Array.length_toList,h7]
   have m1 : (m + N) * u.sz ≤ cap * u.sz := Nat.mul_le_mul_right _ (by omega)
   have m2 : (l + N) * u.sz ≤ cap * u.sz := Nat.mul_le_mul_right _ (by omega)
   rw [Nat.add_mul] at m1 m2
   let c := (cells.toList.drop (m * u.sz)).take (N * u.sz)
   have hclen : c.length = N * u.sz := by simp only [c,List.length_take,List.length_drop]; omega
   have hcp : ∀ v ∈ c,plain v = true := fun v hv => h8 v (List.mem_of_mem_drop (List.mem_of_mem_take hv))
   have hload : (loadCells ⟨g,m * u.sz,none⟩ (N * u.sz)).run P w = .ok c.toArray w := by
    rw [← hclen]
    refine Va4 _ rfl c fun j v hv => ?_
    simp only [c] at hv
    rw [List.getElem?_take] at hv
    split at hv
    ·rw [List.getElem?_drop] at hv
     rw [Vbf h6]; simpa using hv
    ·cases hv
   obtain ⟨w',r1,r2⟩ := VaP (P := P) (g := g) (o := l * u.sz) c 0 w cells h6 hcp (by rw [← Array.length_toList]; omega)
   rw [Nat.add_zero] at r2
   refine ⟨w',?_,?_⟩
   ·have e2 : Nat.min (xs.length - m) (xs.length - l) = N := hNd
    simp [Builtin.copy_,Vn ht,Builtin.lenOf,Builtin.firstCells,hT.size,q1,q2,e2,VT,hload,r1]
   ·have hsl : l * u.sz + c.length ≤ cells.toList.length := by omega
    refine h.write (b' := .row e u (copyL xs l m) ys) hb rfl r2 h5 (fun hF => .inr ⟨g,cap,_,by rw [Vcf xs l m h2 h2']; exact h1,h5,r2.at',?_,?_,?_,?_⟩)
    ·rw [List.size_toArray,V0 hsl,hcl]
    ·exact Vag h8 hcp
    ·rw [List.length_append,Vcf xs l m h2 h2',← List.length_append]; exact h9
    ·intro i x hx
     rw [Vd6 xs _ l m h2 h2' i,hNd] at hx
     split at hx
     ·rename_i hi
      obtain ⟨d,d1,d2⟩ := h10 (m + (i - l)) x (by rw [List.getElem?_append_left (List.getElem?_eq_some_iff.1 hx).1]; exact hx)
      refine ⟨d,VH hF _ _ _ d1,fun j v hv => ?_⟩
      have hj := (List.getElem?_eq_some_iff.1 hv).1
      rw [VA _ _ _ d1] at hj
      have hd := d2 j v hv
      have p1 : i * u.sz = l * u.sz + (i - l) * u.sz := by rw [← Nat.add_mul]; congr 1; omega
      have p2 : (m + (i - l)) * u.sz = m * u.sz + (i - l) * u.sz := Nat.add_mul _ _ _
      have p3 : (i - l + 1) * u.sz ≤ N * u.sz := Nat.mul_le_mul_right _ (by omega)
      rw [Nat.add_mul] at p3
      show (Vx cells.toList (l * u.sz) c).toArray.toList[i * u.sz + j]? = some v
      rw [List.toList_toArray,VN hsl,if_pos (by omega)]
      simp only [c]
      rw [List.getElem?_take,if_pos (by omega),List.getElem?_drop]
      rw [← hd]
      congr 1
      omega
     ·rename_i hi
      obtain ⟨d,d1,d2⟩ := h10 i x hx
      refine ⟨d,VH hF _ _ _ d1,fun j v hv => ?_⟩
      have hj := (List.getElem?_eq_some_iff.1 hv).1
      rw [VA _ _ _ d1] at hj
      have hd := d2 j v hv
      show (Vx cells.toList (l * u.sz) c).toArray.toList[i * u.sz + j]? = some v
      rw [List.toList_toArray,VN hsl,if_neg,hd]
      intro ⟨k1,k2⟩
      by_cases hil : i < l
      ·have p3 : (i + 1) * u.sz ≤ l * u.sz := Nat.mul_le_mul_right _ (by omega)
       rw [Nat.add_mul] at p3
       omega
      ·have p3 : (l + N) * u.sz ≤ i * u.sz := Nat.mul_le_mul_right _ (by omega)
       rw [Nat.add_mul] at p3
       omega
end
end Go.Ev

namespace Go.Ev
set_option linter.unusedVariables false
set_option linter.unusedSimpArgs false
open Go.RowKit
variable {ρ : Type} {P : Program}
section
variable {E : Env} {base : Nat} {W0 : World} {IO Old : Nat → Prop} {φ0 : Nat → Value × Kd} {s : St} {a : Act} {w w' : World} {o : Oper} {r : ρ} {k : St → Option ρ} {next : Act → World → Prop} {Q : Exit → Act → World → Prop}
theorem list2 {α : Type} {c : Array α} {x y : α} (h : c.toList = [x,y]) : c = #[x,y] := by cases c; simp_all
theorem list1 {α : Type} {c : Array α} {x : α} (h : c.toList = [x]) : c = #[x] := by cases c; simp_all
theorem evs1 {xs : List Operand} {v : V} (h : evs s xs = some [v]) : ∃ x,xs = [x] ∧ s.ev x = some v := by
 cases xs with
 | nil => simp [evs] at h
 | cons x xs =>
  simp only [evs] at h
  split at h
  ·rename_i v' vs h1 h2
   cases h
   cases xs with
   | nil => exact ⟨x,rfl,h1⟩
   | cons y ys => simp only [evs] at h2; split at h2 <;> cases h2
  ·cases h
theorem evs2 {xs : List Operand} {v u : V} (h : evs s xs = some [v,u]) : ∃ x y,xs = [x,y] ∧ s.ev x = some v ∧ s.ev y = some u := by
 cases xs with
 | nil => simp [evs] at h
 | cons x xs =>
  simp only [evs] at h
  split at h
  ·rename_i v' vs h1 h2
   cases h
   obtain ⟨y,rfl,h3⟩ := evs1 h2
   exact ⟨x,y,rfl,h1,h3⟩
  ·cases h
theorem VaZ (hE : EnvOk P E IO Old) {c : Call} {x : Operand} {tx : TypeId} {n : Nat} {ow : Nat → Option Nat} {φ : Nat → Value} (ho : o.op = .call c) (hc : c.callee = .builtin .len) (hargs : c.args = #[x]) (hat : c.argTypes[0]? = some tx) (hr : Rel base W0 IO Old E.io φ0 s a w ow φ) (hn : Nxt E base W0 IO Old φ0 k r next)
  {d : TypeDesc} (hd : P.underlying tx = some d) (hx : (∃ b : ByteArray,d = .string ∧ a.eval x = .string b ∧ n = b.size) ∨ (∃ e A cc,d = .slice e ∧ a.eval x = .slice A n cc)) (h : k (s.put o.dst (.dat (.int .i64) (n : Int))) = some r) : OpR P E o a w next Q :=
 Vv hn hr h (Vh5 ho hc hargs hat hd hx)
theorem Vf6 {s : St} {id i : Nat} {e : TypeId} {u : Ty} {xs : List u.I} {ys : Option (List u.I)} (h : (s.freeze i).hp[id]? = some (.row e u xs ys)) : s.hp[id]? = some (.row e u xs ys) := by
 unfold St.freeze at h
 split at h
 ·split at h
  ·simp only at h
   rw [List.getElem?_set] at h
   split at h
   ·split at h <;> cases h
   ·rw [List.getElem?_map,Option.map_eq_some_iff] at h
    obtain ⟨b,h1,h2⟩ := h
    cases b <;> simp only [Blk.subB] at h2
    ·rw [h2] at h1; exact h1
    ·cases h2
    ·cases h2
  ·exact h
 ·exact h
theorem Vfo {id : Nat} {e : TypeId} {u : Ty} {xs : List u.I} {ys : Option (List u.I)} : ∀ (l : List Nat) (s : St),(s.freezes l).hp[id]? = some (.row e u xs ys) → s.hp[id]? = some (.row e u xs ys) := by
 intro l
 induction l with
 | nil => intro s h; exact h
 | cons i l ih => intro s h; exact Vf6 (ih _ h)
theorem Vz {c : Prop} [Decidable c] {x : Option ρ} (h : (if c then x else none) = some r) : c ∧ x = some r := by
 split at h
 ·exact ⟨by assumption,h⟩
 ·cases h
theorem Ver (hE : EnvOk P E IO Old) {b : Builtin} {c : Call} (ho : o.op = .call c) (hc : c.callee = .builtin b) (hr : RelE base W0 IO Old E.io φ0 s a w) (hn : Nxt E base W0 IO Old φ0 k r next)
  (h : Vb7 E b c o s k = some r) : OpR P E o a w next Q := by
 obtain ⟨ow,φ,hr⟩ := hr
 unfold Vb7 at h
 split at h
 ·-- len
  rename_i v hv
  obtain ⟨x,hx,hxv⟩ := evs1 hv
  have hargs := list1 hx
  have hvr := Vj hr hxv
  split at h
  ·rename_i m ht
   obtain ⟨tx,h1,h2⟩ := Option.bind_eq_some_iff.1 ht
   have hd := (hE.ty _ _ _ h2).desc
   split at h
   ·exact VaZ hE ho hc hargs h1 hr hn hd (.inl ⟨_,rfl,VbJ hvr,rfl⟩) h
   ·cases h
  ·rename_i e u m ht
   obtain ⟨tx,h1,h2⟩ := Option.bind_eq_some_iff.1 ht
   have hd := (sl_of hE h2).1
   split at h
   ·obtain ⟨A,cc,e1,_⟩ := VR_sl hvr
    exact VaZ hE ho hc hargs h1 hr hn hd (.inr ⟨_,A,cc,rfl,e1⟩) h
   ·obtain ⟨A,cc,e1,_⟩ := Vdi hvr
    exact VaZ hE ho hc hargs h1 hr hn hd (.inr ⟨_,A,cc,rfl,e1⟩) h
   ·split at h
    ·rename_i e' t' xs ys hb
     obtain ⟨e1,A,cc,e2,_⟩ := VeM hr hb hvr
     exact VaZ hE ho hc hargs h1 hr hn hd (.inr ⟨_,A,cc,rfl,e1.trans e2⟩) h
    ·cases h
   ·exact VaZ hE (n := 0) ho hc hargs h1 hr hn hd (.inr ⟨_,none,0,rfl,hvr⟩) h
   ·cases h
  ·cases h
 ·rename_i k1 m k2 n hv
  obtain ⟨x,y,hx,h1,h2⟩ := evs2 hv
  exact Vv hn hr h (Vh9 ho hc (list2 hx) (Vj hr h1) (Vj hr h2))
 ·rename_i k1 m k2 n hv
  obtain ⟨x,y,hx,h1,h2⟩ := evs2 hv
  exact Vv hn hr h (Via ho hc (list2 hx) (Vj hr h1) (Vj hr h2))
 ·rename_i v u hv
  obtain ⟨y1,y,hx,h1,h2⟩ := evs2 hv
  split at h
  ·rename_i tx ty _ y' hat hargs
   rw [hx] at hargs
   simp only [List.cons.injEq,and_true] at hargs
   obtain ⟨rfl,rfl⟩ := hargs
   split at h
   ·rename_i e t n hT
    split at h
    ·rename_i htt; subst htt
     dsimp only at h
     split at h
     ·rename_i id hv1
      split at h
      ·rename_i hcond
       split at h
       ·rename_i w2 hw2
        split at h
        rotate_left
        ·cases h
        rename_i hfl
        split at h
        ·rename_i zs hzs
         have hargs2 := list2 hx
         have hat2 := list2 hat
         -- the row to which is appended
         obtain ⟨ow1,φ1,hr1,hid1⟩ : ∃ ow1 φ1,Rel base W0 IO Old E.io φ0 (s.unnil v (.sl e t)).1 a w ow1 φ1 ∧ VR φ1 (kds (s.unnil v (.sl e t)).1.hp) w (Fz ow1 w Old base) (.ref id) (a.eval y1) := by
          have hvr := Vj hr h1
          cases v with
          | nil =>
           simp only [St.unnil,St.nilRow] at hv1 ⊢
           cases hv1
           have hv2 : a.eval y1 = .slice none 0 0 := hvr
           refine ⟨ow,_,hr.pushNil e t,?_⟩
           have := VaV (φ := upd φ s.hp.length (.slice none 0 0)) (w := w) (S := Fz ow w Old base) (s' := { s with hp := s.hp ++ [.row e t [] none] }) (Vai s.hp _)
           rw [Vu] at this
           rw [hv2]
           exact this
          | ref i => simp only [St.unnil] at hv1 ⊢; cases hv1; exact ⟨ow,φ,hr,hvr⟩
          | _ => simp [St.unnil] at hv1
         generalize (s.unnil v (.sl e t)).1 = s1 at *
         simp only [Bool.or_eq_true,List.all_eq_true,decide_eq_true_eq] at hcond
         obtain ⟨ow2,hr2⟩ : ∃ ow2,Rel base W0 IO Old E.io φ0 (if t.flat = true then s1 else s1.freezes u.refs) a w ow2 φ1 := by
          by_cases hf : t.flat = true
          ·rw [if_pos hf]; exact ⟨ow1,hr1⟩
          ·rw [if_neg hf]; exact VY _ _ _ _ (hcond.resolve_left hf) hr1
         have hrow : ∀ e' u' xs ys,(if t.flat = true then s1 else s1.freezes u.refs).hp[id]? = some (.row e' u' xs ys) → a.eval y1 = φ1 id := by
          intro e' u' xs ys hb
          have hb1 : s1.hp[id]? = some (.row e' u' xs ys) := by
           by_cases hf : t.flat = true
           ·rw [if_pos hf] at hb; exact hb
           ·rw [if_neg hf] at hb; exact Vfo _ _ hb
          exact (VeM hr1 hb1 hid1).1
         simp only [Bool.or_eq_true,List.isEmpty_iff] at hfl
         exact Vgx hE ho hc hargs2 hat2 hT hr2 hn hrow hw2 hfl hzs h
        ·cases h
       ·cases h
      ·cases h
     ·cases h
    ·cases h
   ·cases h
  ·cases h
 ·-- copy
  rename_i id l id' m hx
  obtain ⟨x,y,hx,h1,h2⟩ := evs2 hx
  have hargs := list2 hx
  split at h
  ·rename_i tx ty hat
   have hat := list2 hat
   split at h
   ·rename_i e t n hT
    split at h
    ·rename_i e' u xs ys hb
     obtain ⟨⟨rfl,rfl,rfl⟩,hk⟩ := Vz h
     obtain ⟨ht,m',hm⟩ := sl_of hE hT
     obtain ⟨w',r1,r2⟩ := Vho (P := P) (tx := tx) (tz := ty) (ty := o.type) hr hb ht (hE.ty _ _ _ hm) (Vj hr h1) (Vj hr h2)
     have hrun : (execOp a.eval o).run P w = .ok (.value (goInt ((min (xs.length - m) (xs.length - l) : Nat) : Int))) w' := by
      simp [execOp,ho,resolve,hc,invoke,builtin,hargs,hat,r1]
     exact .inr ⟨by simp [quiet,ho,hc],VcT hrun ⟨fun hm => by simp [marks,ho,hc] at hm,hn _ _ _ hk ⟨_,_,r2.put (VaU _) _⟩⟩⟩
    ·cases h
   ·cases h
  ·cases h
 ·cases h
set_option maxHeartbeats 1000000 in
theorem Vf7 (hE : EnvOk P E IO Old) (hr : RelE base W0 IO Old E.io φ0 s a w) (hn : Nxt E base W0 IO Old φ0 k r next) (h : evOp E o s k = some r) : OpR P E o a w next Q := by
 unfold evOp at h
 split at h
 ·rename_i x ho; exact VfG hE (.inl ho) hr hn h
 ·rename_i x ho; exact VfG hE (.inr ho) hr hn h
 ·-- pick
  rename_i c x y ho
  obtain ⟨ow,φ,hr⟩ := hr
  split at h
  ·rename_i c' v u h1 h2 h3
   split at h
   ·rename_i hc
    exact Vv hn hr h (VeD ho (Vj hr h1) (by rw [hc]; exact Vj hr h2))
   ·rename_i hc
    exact Vv hn hr h (VeD ho (Vj hr h1) (by simp only [Bool.not_eq_true] at hc; rw [hc]; exact Vj hr h3))
  ·cases h
 ·-- box
  rename_i e x ho
  split at h
  ·rename_i t n v h1 h2
   obtain ⟨h3,h⟩ := Vz h
   exact ViQ hE ho hr hn h1 h2 h3 h
  ·cases h
 ·-- alloc
  rename_i e ho
  split at h
  ·rename_i t n h1
   exact Vhk hE ho hr hn h1 h
  ·cases h
 ·-- build
  rename_i t ps ho
  obtain ⟨ow,φ,hr⟩ := hr
  split at h
  ·rename_i ty n l h1 h2
   obtain ⟨h3,h⟩ := Vz h
   dsimp only at h
   split at h
   ·rename_i v h4
    obtain ⟨u,φ',h5,h6,h7⟩ := Vfj (P := P) hr hE.ty (hE.ty _ _ _ h1) h3 h2 h4
    exact Vv hn h6 h (Vs (fun w' => by simp [execOp,ho]; rw [h5]; rfl) h7)
   ·cases h
  ·cases h
 ·-- buildSlice
  rename_i t n ps ho
  obtain ⟨ow,φ,hr⟩ := hr
  split at h
  ·rename_i e u m l h1 h2
   split at h
   ·rename_i xs h3
    obtain ⟨h4,h⟩ := Vz h
    simp only [Bool.and_eq_true,List.all_eq_true,decide_eq_true_eq,List.isEmpty_iff] at h4
    obtain ⟨h5,m',h6⟩ := sl_of hE h1
    obtain ⟨v,w',ow',φ',h7,h8,h9,hbe⟩ := VcV (P := P) hr h5 (hE.ty _ _ _ h6) h2 h4.2 h4.1 h3
    exact VeL (s := s) (hp := s.hp) hn rfl (by simp [execOp,ho]; rw [h7]; rfl) h8 h9 (by simp [quiet,ho]) (fun _ => hbe) h
   ·cases h
  ·cases h
 ·-- load
  rename_i t x ho
  obtain ⟨ow,φ,hr⟩ := hr
  split at h
  ·rename_i ty n p h1 h2
   split at h
   ·rename_i v h3
    obtain ⟨h4,h⟩ := Vz h
    exact Vv hn hr h (VfU hr ho h3 (Vj hr h2) (hE.ty _ _ _ h1) h4)
   ·cases h
  ·cases h
 ·-- store
  rename_i t x y ho
  obtain ⟨ow,φ,hr⟩ := hr
  split at h
  ·rename_i ty n id p v h1 h2 h3
   have hp := Vj hr h2
   have hv := Vj hr h3
   have key : ∃ ow' φ',Rel base W0 IO Old E.io φ0 (s.unnil v ty).1 a w ow' φ' ∧
     VR φ' (kds (s.unnil v ty).1.hp) w (Fz ow' w Old base) (.ptr id p) (a.eval x) ∧
     VR φ' (kds (s.unnil v ty).1.hp) w (Fz ow' w Old base) (s.unnil v ty).2 (a.eval y) := by
    cases v <;> (try exact ⟨ow,φ,hr,hp,hv⟩)
    cases ty <;> (try exact ⟨ow,φ,hr,hp,hv⟩)
    rename_i e u
    have hv2 : a.eval y = .slice none 0 0 := hv
    refine ⟨ow,_,hr.pushNil e u,(Vbe (fun i k hk => VM _ _ (Nat.ne_of_lt (VZ hk))) (VO _ _) (fun b hb => ⟨hb,rfl⟩) _).1 _ hp,?_⟩
    have := VaV (φ := upd φ s.hp.length (.slice none 0 0)) (w := w) (S := Fz ow w Old base) (s' := { s with hp := s.hp ++ [.row e u [] none] }) (Vai s.hp _)
    rw [Vu] at this
    rw [hv2]
    exact this
   obtain ⟨ow',φ',k1,k2,k3⟩ := key
   exact Vhl hE ho k1 hn h1 k2 k3 h
  ·cases h
 ·-- nilCheck
  rename_i x ho
  obtain ⟨ow,φ,hr⟩ := hr
  split at h
  ·rename_i id p h1
   have hv := Vj hr h1
   obtain ⟨h0,h⟩ := Vz h
   rcases hv with hd | ⟨_,_,g,_,_,i,q,_,_,_,_,h2⟩ | ⟨_,_,g,_,_,_,h2⟩
   ·exfalso
    obtain ⟨b,hb1,hb2⟩ := kds_some.1 hd
    unfold ptrTy at h0
    rw [hb1] at h0
    cases b <;> simp [Blk.kd] at hb2
    simp at h0
   ·exact Vv hn hr h (Vbl ho h2 (Vj hr h1))
   ·exact Vv hn hr h (Vbl ho h2 (Vj hr h1))
  ·rename_i t y h1
   have hv := Vj hr h1
   have hv' := hv
   obtain ⟨q,cs,h2,_⟩ := hv
   exact Vv hn hr h (Vbl ho h2 hv')
  ·cases h
 ·-- binOp
  rename_i op t x y t2 ho
  obtain ⟨ow,φ,hr⟩ := hr
  split at h
  ·rename_i v u h1 h2
   split at h
   ·rename_i f h3
    obtain ⟨z,h4,h5⟩ := Vh7 (T := E.T) ho (Vj hr h1) (Vj hr h2) hE.ty h3 h
    exact Vv hn hr h4 h5
   ·split at h
    ·rename_i z hz
     refine Vv hn hr h ?_
     unfold eqS at hz
     split at hz
     ·rename_i ty hty
      split at hz
      ·rename_i hc
       simp only [Bool.and_eq_true,List.isEmpty_iff] at hc
       split at hz
       ·rename_i p q hp hq
        obtain ⟨⟨ty',n'⟩,ht1,ht2⟩ := Option.map_eq_some_iff.1 hty
        cases ht2
        obtain ⟨cs,c1,c2⟩ := as_VR (S' := Fz ow w Old base) hr.hp (fun _ hb => hb) (fun _ hb => hb) (by simp [hc.2.1]) (Vj hr h1) hp
        obtain ⟨ds,d1,d2⟩ := as_VR (S' := Fz ow w Old base) hr.hp (fun _ hb => hb) (fun _ hb => hb) (by simp [hc.2.2]) (Vj hr h2) hq
        split at hz
        ·cases hz; exact VfF ho hc.1 (hE.eq' _ _ _ ht1 hc.1) c1 d1 c2 d2 (.inl ⟨rfl,rfl⟩)
        ·cases hz; exact VfF ho hc.1 (hE.eq' _ _ _ ht1 hc.1) c1 d1 c2 d2 (.inr ⟨rfl,rfl⟩)
        ·cases hz
       ·cases hz
      ·cases hz
     ·cases hz
    ·cases h
  ·cases h
 ·-- unOp
  rename_i op t x ho
  obtain ⟨ow,φ,hr⟩ := hr
  split at h
  ·rename_i v h1
   obtain ⟨u,h2,h3⟩ := Option.bind_eq_some_iff.1 h1
   exact Vv hn hr h (ViO ho (Vj hr h2) h3)
  ·cases h
 ·-- convert
  rename_i sr d x ho
  obtain ⟨ow,φ,hr⟩ := hr
  split at h
  ·rename_i ts ns td nd v h1 h2 h3
   split at h
   ·rename_i z hz
    have hv := Vj hr h3
    unfold conv at hz
    split at hz
    ·cases hz
     have hs : ∃ d,P.underlying sr = some d := by
      have := (hE.ty _ _ _ h1).desc
      cases ts with
      | pair a b => obtain ⟨fs,h,_⟩ := this; exact ⟨_,h⟩
      | arr m u => obtain ⟨e,h,_⟩ := this; exact ⟨_,h⟩
      | sl e u => exact ⟨_,this.1⟩
      | slb e u => exact this.elim
      | _ => exact ⟨_,this⟩
     obtain ⟨ds,hs⟩ := hs
     exact Vv hn hr h (Vgm ho hs (hE.ty _ _ _ h2).desc hv)
    ·split at hz
     ·split at hz
      ·cases hz
       exact Vv hn hr h (Vs (fun w' => by simp [execOp,ho,convert,Vn (hE.ty _ _ _ h1).desc,Vn (hE.ty _ _ _ h2).desc,VbJ hv]) (Vdj _))
      ·cases hz
     ·rename_i e
      obtain ⟨xs,hxs,rfl⟩ := Option.map_eq_some_iff.1 hz
      obtain ⟨hs,m,he⟩ := sl_of hE h1
      obtain ⟨cs,h4,h5⟩ := as_VR (S' := fun b => b < w.heap.size) hr.hp (fun b h => h.2.1) (fun b h => h.2.1) (fun g id _ hg => (hr.own g id hg).1) hv hxs
      obtain ⟨A,cc,rfl,h6,h7⟩ := h4
      have hx : a.eval x = .slice A xs.length cc := by simpa [Val,isAgg] using h5.symm
      exact Vv hn hr h (Vgt ho hs (hE.ty _ _ _ he).desc (hE.ty _ _ _ h2).desc hx (fun b h => h) h7)
     ·cases hz
    ·cases hz
   ·cases h
  ·cases h
 ·-- makeSlice
  rename_i t l c ho
  obtain ⟨ow,φ,hr⟩ := hr
  split at h
  ·rename_i e u m k1 n k2 n2 h1 h2 h3
   split at h
   rotate_left
   ·cases h
   rename_i hc
   obtain ⟨h4,h5,h6⟩ := hc
   have hk := h
   clear h
   subst h6
   obtain ⟨h7,m',h8⟩ := sl_of hE h1
   obtain ⟨i,z,hi,_⟩ := (hE.ty _ _ _ h8).zcells
   obtain ⟨v,w',ow',φ',h9,h10,h11,hbe⟩ := VfX (P := P) (k := k1) (k' := k2) hr h7 (hE.ty _ _ _ h8) hi h4 (by rw [hE.by' _ _ h8 i hi]; exact h5)
   exact VeL (s := s) (hp := s.hp) hn rfl (by simp [execOp,ho,VQ (Vj hr h2),VQ (Vj hr h3),h9]) h10 h11 (by simp [quiet,ho]) (fun _ => hbe) hk
  ·cases h
 ·-- slice
  rename_i tx x lo hi ho
  obtain ⟨ow,φ,hr⟩ := hr
  split at h
  ·rename_i n1 b li hj h1 h2 h3 h4
   have ht := (hE.ty _ _ _ h1).desc
   have hx := Vj hr h2
   split at h
   ·exact Vv hn hr h (Va8 hr ho ht hx h3 h4 rfl)
   ·obtain ⟨hc,hk⟩ := Vz h
    exact Vv hn hr hk (Va8 hr ho ht hx h3 h4 (by simp [bnd,hc]))
   ·obtain ⟨hc,hk⟩ := Vz h
    exact Vv hn hr hk (Va8 hr ho ht hx h3 h4 (by simp [bnd,hc]))
   ·obtain ⟨hc,hk⟩ := Vz h
    exact Vv hn hr hk (Va8 hr ho ht hx h3 h4 (by simp [bnd,hc]))
  ·rename_i e0 u n1 e t xs li hj h1 h2 h3 h4
   obtain ⟨hu,hk⟩ := Vz h
   subst hu
   obtain ⟨ht,m,hm⟩ := sl_of hE h1
   obtain ⟨A,c,e1,e2,e3⟩ := VR_sl (Vj hr h2)
   obtain ⟨l,m',b1,b2,b3,hk⟩ := Vds hk
   exact Vv hn hr hk (Vdt hr ho ht (hE.ty _ _ _ hm) e1 e2 e3 h3 h4 b1 b2 b3 e)
  ·rename_i e0 u n1 e t xs hj h1 h2 h3 h4
   obtain ⟨hu,hk⟩ := Vz h
   subst hu
   obtain ⟨⟨h5,h6⟩,hk⟩ := Vz hk
   obtain ⟨ht,m,hm⟩ := sl_of hE h1
   exact Vv hn hr hk (VfY hr ho ht (hE.ty _ _ _ hm) e (Vj hr h2) h3 h4 h5 h6)
  ·rename_i e0 u n1 e t xs lj hj h1 h2 h3 h4
   obtain ⟨hu,hk⟩ := Vz h
   subst hu
   obtain ⟨⟨h5,h6,h7⟩,hk⟩ := Vz hk
   obtain ⟨ht,m,hm⟩ := sl_of hE h1
   exact Vv hn hr hk (Vfm hr ho ht (hE.ty _ _ _ hm) e (Vj hr h2) h3 h4 h5 h6 h7)
  ·rename_i e0 u n1 id li hj h1 h2 h3 h4
   split at h
   ·rename_i e t xs hb
    obtain ⟨⟨hio,hu⟩,hk⟩ := Vz h
    clear h
    subst hu
    obtain ⟨ht,m,hm⟩ := sl_of hE h1
    obtain ⟨e1,A,c,e2,e3,e4⟩ := VeM hr hb (Vj hr h2)
    simp only [Option.getD_none,List.length_nil,Nat.add_zero,List.append_nil] at e3 e4
    split at hk
    ·-- the row goes over
     split at hk
     ·rename_i lo
      obtain ⟨⟨h5,h6⟩,hk⟩ := Vz hk
      obtain ⟨i,hi',hsz,_⟩ := (hE.ty _ _ _ hm).info
      have hb2 : bnd (some lo) none xs.length = some (lo.toNat,xs.length) := by simp [bnd,h5,h6]
      have hrow := (kds_some (hp := s.hp) (i := id)).2 ⟨_,hb,rfl⟩
      refine Vv hn hr hk (Vs (fun w' => Vcc hr ho ht hi' (e1.trans e2) h3 h4 (fun isS x y k1 k2 w => VbV isS hb2 e3 k1 k2 w) w') (.inr ⟨_,_,A,xs.length,c,hrow,e2,by omega,by rw [hsz]⟩))
     ·rename_i hh
      obtain ⟨⟨h5,h6⟩,hk⟩ := Vz hk
      have hlen : (xs.take hh.toNat).length = hh.toNat := by rw [List.length_take]; omega
      obtain ⟨ow',hq⟩ := hr.moveRow (xs' := xs.take hh.toNat) (ys' := some (xs.drop hh.toNat)) hb hio (by simp) e2
      obtain ⟨i,hi',_⟩ := (hE.ty _ _ _ hm).info
      refine Vie (s := s) (hp := s.hp.set id .dead) hn (List.length_set ..) (fun w => Vcd hr ho ht hi' (e1.trans e2) h3 h4 h5 (by omega) w) hq (by rw [Vu,hlen]) hk
     ·cases hk
    ·-- it is written no more
     obtain ⟨l,m',b1,b2,b3,hk⟩ := Vds hk
     have hq := hr.freeze hio hb
     have hF : ∀ b,Fz ow w Old base b → Fz (unown ow id) w Old base b := fun b ⟨h1,h2,h3⟩ => ⟨by unfold unown; rw [h1]; simp,h2,h3⟩
     have hg : ∀ g,ow g = some id → Fz (unown ow id) w Old base g := fun g hg => by
      have := hr.own g id hg
      refine ⟨by unfold unown; rw [if_pos hg],this.1,?_⟩
      rcases this.2.1 with h1 | ⟨_,h1 | h1⟩
      ·exact .inr h1
      ·omega
      ·exact .inl h1
     obtain ⟨A',c',f1,f2,f3⟩ := VaE (S' := Fz (unown ow id) w Old base) (hr.hp id _ hb) hF hg
     simp only [Option.getD_none,List.length_nil,Nat.add_zero,List.append_nil] at f2 f3
     exact Vv hn hq hk (Vdt hr ho ht (hE.ty _ _ _ hm) (e1.trans f1) f2 f3 h3 h4 b1 b2 b3 e)
   ·cases h
  ·cases h
 ·-- fieldAddr
  rename_i Sx x f ho
  obtain ⟨ow,φ,hr⟩ := hr
  split at h
  ·rename_i ty n id p h1 h2
   obtain ⟨⟨h3,h4⟩,hk⟩ := Vz h
   exact Vv hn hr hk (Vep ho (hE.ty _ _ _ h1) hE.ty h3 h4 (Vj hr h2))
  ·rename_i ty n t y h1 h2
   obtain ⟨⟨h3,h4⟩,hk⟩ := Vz h
   subst h4
   split at hk
   ·rename_i t' y' h5
    exact Vv hn hr hk (VdL ho (hE.ty _ _ _ h1) hE.ty h3 h5 (Vj hr h2))
   ·cases hk
  ·cases h
 ·-- field
  rename_i Sx x f ho
  obtain ⟨ow,φ,hr⟩ := hr
  split at h
  ·rename_i ty n v h1 h2
   obtain ⟨⟨h3,h4⟩,hk⟩ := Vz h
   split at hk
   ·rename_i u h5
    exact Vv hn hr hk (Vgl ho (hE.ty _ _ _ h1) hE.ty h3 h4 h5 (Vj hr h2))
   ·cases hk
  ·cases h
 ·-- indexAddr
  rename_i tx x i ho
  obtain ⟨ow,φ,hr⟩ := hr
  split at h
  ·rename_i e u' n1 e2 u xs k n h1 h2 h3
   obtain ⟨hu,hk⟩ := Vz h
   subst hu
   obtain ⟨⟨h5,h6⟩,hk⟩ := Vz hk
   obtain ⟨ht,m,hm⟩ := sl_of hE h1
   obtain ⟨A,c,e1,e3,e4⟩ := VR_sl (Vj hr h2)
   exact Vv hn hr hk (Vb1 ho ht (hE.ty _ _ _ hm) (Vj hr h3) h5 h6 e1 (Nat.le_refl _) e4)
  ·rename_i e u' n1 e2 u xs k n h1 h2 h3
   obtain ⟨hu,hk⟩ := Vz h
   subst hu
   obtain ⟨⟨h5,h6⟩,hk⟩ := Vz hk
   obtain ⟨ht,m,hm⟩ := sl_of hE h1
   obtain ⟨A,c,e1,e3,e4⟩ := Vdi (Vj hr h2)
   exact Vv hn hr hk (Vb1 ho ht (hE.ty _ _ _ hm) (Vj hr h3) h5 h6 e1 (Nat.le_refl _) (fun i x hx => e4 i x (by rw [List.getElem?_append_left (List.getElem?_eq_some_iff.1 hx).1]; exact hx)))
  ·rename_i e u' n1 id k n h1 h2 h3
   split at h
   ·rename_i e2 u xs ys hb
    obtain ⟨⟨hu,he⟩,hk⟩ := Vz h
    subst hu; subst he
    obtain ⟨⟨h5,h6⟩,hk⟩ := Vz hk
    obtain ⟨ht,m,hm⟩ := sl_of hE h1
    exact Vv hn hr hk (VdM hr ho ht (hE.ty _ _ _ hm) (Vj hr h3) h5 h6 hb (Vj hr h2))
   ·cases h
  ·rename_i m u n1 id p k n h1 h2 h3
   obtain ⟨h4,hk⟩ := Vz h
   obtain ⟨⟨h5,h6⟩,hk⟩ := Vz hk
   obtain ⟨e,ht,m',hm⟩ := (hE.ty _ _ _ h1).desc
   exact Vv hn hr hk (VdS ho ht (hE.ty _ _ _ hm) (Vj hr h3) h5 h6 h4 (Vj hr h2))
  ·cases h
 ·-- index
  rename_i tx x i ho
  obtain ⟨ow,φ,hr⟩ := hr
  split at h
  ·rename_i n1 b k n h1 h2 h3
   obtain ⟨⟨h5,h6⟩,hk⟩ := Vz h
   exact Vv hn hr hk (VfV ho (hE.ty _ _ _ h1).desc (Vj hr h2) (Vj hr h3) h5 h6)
  ·rename_i m u n1 m' u' xs k n h1 h2 h3
   obtain ⟨⟨h4,h7⟩,hk⟩ := Vz h
   subst h4; subst h7
   obtain ⟨⟨h5,h6⟩,hk⟩ := Vz hk
   obtain ⟨e,ht,m',hm⟩ := (hE.ty _ _ _ h1).desc
   exact Vv hn hr hk (VfW ho ht (hE.ty _ _ _ hm) (Vj hr h2) (Vj hr h3) h5 h6)
  ·cases h
 ·-- extract
  rename_i x i ho
  obtain ⟨ow,φ,hr⟩ := hr
  split at h
  ·rename_i v h1
   obtain ⟨u,h2,h3⟩ := Option.bind_eq_some_iff.1 h1
   exact Vv hn hr h (Vfg ho (Vj hr h2) h3)
  ·cases h
 ·-- call
  rename_i c ho
  split at h
  ·rename_i b hc
   exact Ver hE ho hc hr hn h
  ·rename_i f hc
   split at h
   ·rename_i cn hC
    exact Vfn hE ho hc hC hr hn h
   ·cases h
  ·cases h
 ·cases h
theorem VcM (hE : EnvOk P E IO Old) (hr : RelE base W0 IO Old E.io φ0 s a w) (hn : Nxt E base W0 IO Old φ0 k r next) (h : evOpP E o s k = some r) : OpR P E o a w next Q := by
 unfold evOpP at h
 refine Vf7 hE ?_ hn h
 unfold preSt
 split
 ·exact hr
 ·split
  ·rename_i hc
   obtain ⟨ow,φ,hr⟩ := hr
   obtain ⟨ow',hr⟩ := VY _ _ _ _ (fun j hj => by simpa using List.all_eq_true.1 hc j hj) hr
   exact ⟨ow',φ,hr⟩
  ·exact hr
end
end Go.Ev

namespace Go.Ev
set_option linter.unusedVariables false
set_option linter.unusedSimpArgs false
open Go.RowKit
variable {ρ : Type} {P : Program}
theorem VcZ : ∀ (f : List Nat) (i j : Nat),idx f i = some j → f[j]? = some i := by
 intro f
 induction f with
 | nil => intro i j h; cases h
 | cons a l ih =>
  intro i j h
  simp only [idx] at h
  split at h
  ·cases h; subst_vars; rfl
  ·obtain ⟨k,h1,rfl⟩ := Option.map_eq_some_iff.1 h
   simpa using ih i k h1
theorem VdT : ∀ (f : List Nat) (i j : Nat),f.Nodup → f[j]? = some i → idx f i = some j := by
 intro f
 induction f with
 | nil => intro i j _ h; simp at h
 | cons a l ih =>
  intro i j hn h
  rw [List.nodup_cons] at hn
  simp only [idx]
  cases j with
  | zero => simp at h; rw [if_pos h]
  | succ j =>
   simp at h
   rw [if_neg (fun e : a = i => hn.1 (by rw [e]; exact List.mem_of_getElem? h)),ih i j hn.2 h]
   rfl
theorem VgA (keep : List Nat) : ∀ (l : List V) (n i : Nat) (v : V),(keepS keep l n)[i]? = some v → v = .gone ∨ l[i]? = some v := by
 intro l
 induction l with
 | nil => intro n i v h; simp [keepS] at h
 | cons x l ih =>
  intro n i v h
  cases i with
  | zero =>
   simp [keepS] at h
   split at h
   ·exact .inr (by simpa using h)
   ·exact .inl h.symm
  | succ i => simp [keepS] at h; rcases ih _ _ _ h with h | h; exact .inl h; exact .inr (by simpa using h)
theorem Vd7 (keep : List Nat) : ∀ (l : List V) (n : Nat),(keepS keep l n).length = l.length := by
 intro l
 induction l with
 | nil => intro n; rfl
 | cons x l ih => intro n; simp [keepS,ih]
theorem Vhp (hp : List Blk) (f : List Nat) : ∀ (g : List Nat) (j : Nat) (b : Blk),(renB hp f g)[j]? = some b → ∃ i,g[j]? = some i ∧ ((∃ c,hp[i]? = some c ∧ b = c.ren f) ∨ b = .dead) := by
 intro g
 induction g with
 | nil => intro j b h; simp [renB] at h
 | cons i g ih =>
  intro j b h
  cases j with
  | zero =>
   simp only [renB,List.getElem?_cons_zero,Option.some.injEq] at h
   refine ⟨i,rfl,?_⟩
   split at h
   ·rename_i c hc; exact .inl ⟨c,hc,h.symm⟩
   ·exact .inr h.symm
  | succ j => simp [renB] at h; obtain ⟨k,h1,h2⟩ := ih _ _ h; exact ⟨k,by simpa using h1,h2⟩
theorem Vii (hp : List Blk) (f : List Nat) : ∀ (g : List Nat) (j i : Nat) (c : Blk),g[j]? = some i → hp[i]? = some c → (renB hp f g)[j]? = some (c.ren f) := by
 intro g
 induction g with
 | nil => intro j i c h; simp at h
 | cons k g ih =>
  intro j i c h hc
  cases j with
  | zero => simp at h; subst h; simp [renB,hc]
  | succ j => simp at h; simpa [renB] using ih _ _ _ h hc
theorem VeR (hp : List Blk) (f : List Nat) : ∀ (g : List Nat),(renB hp f g).length = g.length := by
 intro g
 induction g with
 | nil => rfl
 | cons i g ih => simp [renB,ih]
section
variable {φ φ' : Nat → Value} {hp : List Blk} {w : World} {S S' : Nat → Prop} {f : List Nat}
theorem Va0 {i j : Nat} (hf : idx f i = some j) {k : Kd} (hk : kds hp i = some k) : kds (renB hp f f) j = some k ∨ kds (renB hp f f) j = some .dead := by
 obtain ⟨b,h1,h2⟩ := kds_some.1 hk
 have h3 := Vii hp f f j i b (VcZ _ _ _ hf) h1
 by_cases hb : (b.ren f).kd = b.kd
 ·exact .inl (kds_some.2 ⟨_,h3,hb.trans h2⟩)
 ·refine .inr (kds_some.2 ⟨_,h3,?_⟩)
  cases b with
  | box e t v => simp only [Blk.ren] at hb ⊢; split at hb; exact absurd rfl hb; rw [if_neg (by assumption)]; rfl
  | _ => exact absurd rfl hb
theorem VgB (hφ : ∀ i j,idx f i = some j → φ' j = φ i) (hS : ∀ b,S b → S' b) : ∀ (v : V) (t : Ty) (cs : List Value),V.has f v = true → VC φ (kds hp) w S t v cs → VC φ' (kds (renB hp f f)) w S' t (V.ren f v) cs := by
 intro v
 induction v with
 | dat u x => intro t cs _ k; exact VC_dat.2 ⟨(VC_dat.1 k).1,VL hS (VC_dat.1 k).2⟩
 | ref i =>
  intro t cs h k
  simp only [V.has,Option.isSome_iff_exists] at h
  obtain ⟨j,hj⟩ := h
  simp only [V.ren,hj]
  cases t with
  | sl e t =>
   rcases k with ⟨h1,h2⟩ | ⟨h1,rfl,A,n,c,h3⟩
   ·refine .inl ⟨(Va0 hj h1).elim (fun h => h) (fun h => h),h2⟩
   ·rcases Va0 hj h1 with h4 | h4
    ·exact .inr ⟨h4,by rw [hφ i j hj],A,n,c,by rw [hφ i j hj,h3]⟩
    ·exact .inl ⟨h4,A,n,c,by rw [h3]⟩
  | _ => exact k.elim
 | pr a b iha ihb =>
  intro t cs h k
  simp only [V.has,Bool.and_eq_true] at h
  cases t with
  | pair t u => obtain ⟨c0,c1,rfl,h0,h1⟩ := k; exact ⟨c0,c1,rfl,iha _ _ h.1 h0,ihb _ _ h.2 h1⟩
  | _ => exact k.elim
 | _ => intro t cs _ k; cases t <;> exact k.elim
theorem ViS (hφ : ∀ i j,idx f i = some j → φ' j = φ i) (hS : ∀ b,S b → S' b) {v : V} {u : Value} (h : V.has f v = true) (k : VR φ (kds hp) w S v u) : VR φ' (kds (renB hp f f)) w S' (V.ren f v) u := by
 cases v with
 | dat t x => obtain ⟨cs,h1,h2⟩ := k; exact ⟨cs,VL hS h1,h2⟩
 | nil => exact k
 | ref i =>
  simp only [V.has,Option.isSome_iff_exists] at h
  obtain ⟨j,hj⟩ := h
  simp only [V.ren,hj]
  rcases k with k | ⟨⟨e,t,k⟩,rfl⟩
  ·exact .inl ((Va0 hj k).elim (fun h => h) (fun h => h))
  ·rcases Va0 hj k with h4 | h4
   ·exact .inr ⟨⟨e,t,h4⟩,(hφ i j hj).symm⟩
   ·exact .inl h4
 | ptr i p =>
  simp only [V.ren]
  split
  ·rename_i j hj
   rcases k with k | ⟨e,t,g,n,c,i',q,k,h1,h2,h0,h3⟩ | ⟨e,t,g,k,h1,h0,h2⟩
   ·exact .inl ((Va0 hj k).elim (fun h => h) (fun h => h))
   ·rcases Va0 hj k with h4 | h4
    ·exact .inr (.inl ⟨e,t,g,n,c,i',q,h4,(hφ i j hj).trans h1,h2,h0,h3⟩)
    ·exact .inl h4
   ·rcases Va0 hj k with h4 | h4
    ·exact .inr (.inr ⟨e,t,g,h4,(hφ i j hj).trans h1,h0,h2⟩)
    ·exact .inl h4
  ·trivial
 | dptr t x => obtain ⟨p,cs,h1,h2,h3,h4,h5⟩ := k; exact ⟨p,cs,h1,h2,hS _ h3,VL hS h4,h5⟩
 | pr a b => obtain ⟨t,cs,h1,h2⟩ := k; exact ⟨t,cs,VgB hφ hS (.pr a b) t cs h h1,h2⟩
 | tp a b => trivial
 | vw i l => trivial
 | und => exact k
 | gone => trivial
end
section
variable {E : Env} {base io : Nat} {W0 : World} {IO Old : Nat → Prop} {φ0 : Nat → Value × Kd} {s : St} {a : Act} {w w' : World} {o : Oper} {r : ρ}
theorem Vfp {keep : List Nat} {s' : St} (hr : RelE base W0 IO Old io φ0 s a w) (h : s.norm0 io keep = some s') : RelE base W0 IO Old io φ0 s' a w := by
 obtain ⟨ow,φ,hr⟩ := hr
 unfold St.norm0 at h
 dsimp only at h
 generalize hf : liveB s.hp (liveS (keepS keep s.sl 0) (List.range io)) (liveS (keepS keep s.sl 0) (List.range io)) = f at h
 clear hf
 split at h
 rotate_left
 ·cases h
 rename_i hc
 simp only [Bool.and_eq_true,decide_eq_true_eq] at hc
 obtain ⟨⟨hn,htake⟩,hlen⟩ := hc
 cases h
 have hnd := VaJ _ hn
 have hfi : ∀ i,i < io → f[i]? = some i := fun i hi => by
  have h1 : (f.take io)[i]? = some i := by rw [htake,List.getElem?_range hi]
  rw [List.getElem?_take,if_pos hi] at h1
  exact h1
 let φ' : Nat → Value := fun j => match f[j]? with | some i => φ i | none => φ j
 let ow' : Nat → Option Nat := fun b => (ow b).bind (idx f)
 have hφ : ∀ i j,idx f i = some j → φ' j = φ i := fun i j hj => by simp [φ',VcZ _ _ _ hj]
 have hF : ∀ b,Fz ow w Old base b → Fz ow' w Old base b := fun b ⟨h1,h2,h3⟩ => ⟨by simp [ow',h1],h2,h3⟩
 refine ⟨ow',φ',{
  dl := hr.dl
  len := by simp only [List.length_map,Vd7]; exact hr.len
  sl := fun i v hv => ?_
  hp := fun j b hb => ?_
  own := fun b j hb => ?_
  fr := hr.fr
  sz := hr.sz
  mt := hr.mt
  iol := by simp only [VeR]; exact hlen
  f0 := fun i hi => by rw [← hr.f0 i hi]; simp [φ',hfi i hi]
  k0 := fun i k hi hk => by
   have hlt : i < s.hp.length := Nat.lt_of_lt_of_le hi hr.iol
   have hk1 : kds s.hp i = some (s.hp[i]).kd := kds_some.2 ⟨_,List.getElem?_eq_getElem hlt,rfl⟩
   rcases Va0 (VdT f i i hnd (hfi i hi)) hk1 with h2 | h2
   ·rw [show kds (renB s.hp f f) i = some k from hk] at h2; cases h2; exact hr.k0 i _ hi hk1
   ·rw [show kds (renB s.hp f f) i = some k from hk] at h2; cases h2; exact .inl rfl }⟩
 ·rw [List.getElem?_map,Option.map_eq_some_iff] at hv
  obtain ⟨v0,h1,rfl⟩ := hv
  have hlt : i < a.tmps.size := by
   have := (List.getElem?_eq_some_iff.1 h1).1
   rw [Vd7,hr.len] at this
   exact this
  have hgone : ∃ u,a.tmps[i]? = some u := ⟨_,Array.getElem?_eq_getElem hlt⟩
  split
  ·rename_i hh
   rcases VgA _ _ _ _ _ h1 with h2 | h2
   ·subst h2
    obtain ⟨u,hu⟩ := hgone
    exact ⟨u,hu,trivial⟩
   ·obtain ⟨u,h3,h4⟩ := hr.sl i v0 h2
    exact ⟨u,h3,ViS hφ hF hh h4⟩
  ·obtain ⟨u,hu⟩ := hgone
   exact ⟨u,hu,trivial⟩
 ·obtain ⟨i,h1,h2⟩ := Vhp _ _ _ _ _ hb
  rcases h2 with ⟨c,h2,rfl⟩ | rfl
  ·have hij : idx f i = some j := VdT f i j hnd h1
   have hBR := hr.hp i c h2
   have hoj : ∀ g,ow g = some i → ow' g = some j := fun g hg => by simp [ow',hg,hij]
   cases c with
   | row e t xs ys =>
    rcases hBR with ⟨h3,h4,h5⟩ | ⟨g,cap,cells,h3,h4,h5,h6,h7,h8,h9⟩
    ·exact .inl ⟨(hφ i j hij).trans h3,h4,h5⟩
    ·exact .inr ⟨g,cap,cells,(hφ i j hij).trans h3,hoj g h4,h5,h6,h7,h8,fun k x hx => let ⟨d,d1,d2⟩ := h9 k x hx; ⟨d,VL hF d1,d2⟩⟩
   | box e t v =>
    simp only [Blk.ren]
    split
    ·rename_i hh
     obtain ⟨g,cells,h3,h4,h5,h6⟩ := hBR
     exact ⟨g,cells,(hφ i j hij).trans h3,hoj g h4,h5,VgB hφ hF v t _ hh h6⟩
    ·trivial
   | dead => trivial
  ·trivial
 ·obtain ⟨i,h1,h2⟩ := Option.bind_eq_some_iff.1 hb
  have h3 := hr.own b i h1
  have h4 := VcZ _ _ _ h2
  refine ⟨h3.1,h3.2.1.imp (fun h => h) (fun ⟨h5,h6⟩ => ⟨h5,h6.imp (fun h6 => ?_) (fun h => h)⟩),by simp only [VeR]; exact (List.getElem?_eq_some_iff.1 h4).1⟩
  have h7 := VdT f i i hnd (hfi i h6)
  rw [h2] at h7; cases h7; exact h6
end
end Go.Ev

namespace Go.Ev
set_option linter.unusedVariables false
set_option linter.unusedSimpArgs false
open Go.RowKit
variable {ρ : Type} {P : Program}
section
variable {ops : Array Oper} {Q : Exit → Act → World → Prop}
def Closed (ops : Array Oper) (listed : Array Bool) : Prop := ∀ (k : Nat) (o : Oper),listed.getD k false = true → ops[k]? = some o → ∀ e ∈ o.after,Region.binds .any e = true → listed.getD e.on false = true
theorem VcN {listed : Array Bool} (hc : Closed ops listed) : ∀ (n i j : Nat),reach ops n i j = true → (∀ o,ops[j]? = some o → ∀ e ∈ o.after,Region.binds .any e = true → listed.getD e.on false = true) → listed.getD i false = true := by
 intro n
 induction n with
 | zero => intro i j h; simp [reach] at h
 | succ n ih =>
  intro i j h hj
  simp only [reach] at h
  split at h
  ·rename_i o ho
   simp only [Bool.or_eq_true,List.any_eq_true,Bool.and_eq_true,beq_iff_eq] at h
   rcases h with ⟨e,he,hb,rfl⟩ | ⟨e,he,hb,hr⟩
   ·exact hj o ho e (by simpa using he) hb
   ·exact ih i e.on hr fun o' ho' => hc e.on o' (hj o ho e (by simpa using he) hb) ho'
  ·cases h
theorem Vac {listed : Array Bool} {i : Nat} (h : listed.getD i false = true) : listed.getD i true = true := by
 rcases Nat.lt_or_ge i listed.size with h' | h'
 ·simpa [h'] using h
 ·simp [Array.getElem?_eq_none h'] at h
theorem VbB {i : Nat} {listed : Array Bool} (h : i ∈ Region.ready .any ops listed) : ∀ o,ops[i]? = some o → ∀ e ∈ o.after,Region.binds .any e = true → listed.getD e.on false = true := by
 obtain ⟨_,o,ho,hh⟩ := mem_ready.1 h
 intro o' ho'
 rw [ho] at ho'; cases ho'
 exact hh
theorem Closed.set {i : Nat} {listed : Array Bool} (hc : Closed ops listed) (h : i ∈ Region.ready .any ops listed) : Closed ops (listed.setIfInBounds i true) := by
 intro k o hk ho e he hb
 refine getD_set_true ?_
 by_cases hki : i = k
 ·subst hki; exact VbB h o ho e he hb
 ·rw [getD_set_ne false hki] at hk; exact hc k o hk ho e he hb
theorem Vfq {i j : Nat} {oi : Oper} {listed : Array Bool} (hc : Closed ops listed) (hi : ops[i]? = some oi) (hq : quiet oi = true) (hri : i ∈ Region.ready .any ops listed) (hrj : j ∈ Region.ready .any ops listed) (hne : j ≠ i)
  (h : fence ops j = true) : False := by
 unfold fence at h
 rw [List.all_eq_true] at h
 have := h i (List.mem_range.2 (Array.getElem?_eq_some_iff.1 hi).1)
 simp only [Bool.or_eq_true,beq_iff_eq,hi,hq,Bool.not_true,Bool.false_eq_true,or_false] at this
 rcases this with (h1 | h1) | h1
 ·exact hne h1.symm
 ·have h2 := Vac (VcN hc _ _ _ h1 (VbB hrj))
  rw [(mem_ready.1 hri).1] at h2; cases h2
 ·have h2 := Vac (VcN hc _ _ _ h1 (VbB hri))
  rw [(mem_ready.1 hrj).1] at h2; cases h2
def Va1 (P : Program) (ops : Array Oper) (Q : Exit → Act → World → Prop) : Nat → Array Bool → Act → World → Prop
 | 0,listed,a,w => Region.ready .any ops listed = [] ∧ Q .normal a w
 | n + 1,listed,a,w => (Region.ready .any ops listed = [] → Q .normal a w) ∧
  ∀ i ∈ Region.ready .any ops listed,wpOp P ops Q i (fun a' w' => (fence ops i = true ∨ Below w.heap.size w w') ∧ Va1 P ops Q n (listed.setIfInBounds i true) a' w') a w
theorem Vdz : ∀ (n : Nat) (listed : Array Bool) (a : Act) (w : World),Va1 P ops Q n listed a w → wpAny P .any ops Q n listed a w
 | 0,_,_,_,h => h
 | n + 1,_,_,_,h => ⟨h.1,fun i hi => wpOp_mono (fun a' w' h' => Vdz n _ a' w' h'.2) (h.2 i hi)⟩
theorem Vcg {i : Nat} {oi : Oper} {v : Value} (hi : ops[i]? = some oi) (hsel : ∀ (j : Nat) (o : Oper) cs b,ops[j]? = some o → o.op ≠ .select cs b)
  (hQ : ∀ c a w,¬ Q (.panic c) a w) (hq : quiet oi = true) :
  ∀ (n : Nat) (listed : Array Bool) (a : Act) (w : World),Closed ops listed →
   (∀ j oj,ops[j]? = some oj → j ≠ i → listed.getD j true = false → (∀ e ∈ oj.after,Region.binds .any e = true → e.on ≠ i) → oi.apart ops oj = true) →
   i ∈ Region.ready .any ops listed → YieldsIf P ops (Below w.heap.size w) oi v a →
   Va1 P ops Q n (listed.setIfInBounds i true) (a.put oi.dst v) w → Va1 P ops Q (n + 1) listed a w := by
 intro n
 induction n with
 | zero =>
  intro listed a w hc _ hr hy H
  refine ⟨fun h => (by rw [h] at hr; cases hr),fun j hj => ?_⟩
  by_cases hji : j = i
  ·subst hji; exact hy.wpOp hi (Below.refl _ _) ⟨.inr (Below.refl _ _),H⟩
  ·have := ready_mono hj hji
   rw [H.1] at this
   cases this
 | succ n ih =>
  intro listed a w hc hfree hr hy H
  refine ⟨fun h => (by rw [h] at hr; cases hr),fun j hj => ?_⟩
  by_cases hji : j = i
  ·subst hji; exact hy.wpOp hi (Below.refl _ _) ⟨.inr (Below.refl _ _),H⟩
  ·have h1 := H.2 j (ready_mono hj hji)
   obtain ⟨hjun,oj,hoj,hall⟩ := mem_ready.1 hj
   have hnot : ∀ e ∈ oj.after,Region.binds .any e = true → e.on ≠ i := fun e he hb heq => by
    have h1 := hall e he hb
    have h0 := (mem_ready.1 hr).1
    rw [heq] at h1
    rw [Vac h1] at h0; cases h0
   have h2 := wpOp_putIf hoj (hfree j oj hoj hji hjun hnot) (fun cs b => hsel i oi cs b hi) (fun cs b => hsel j oj cs b hoj) (fun c a w h => absurd h (hQ c _ w)) hy h1
   have hfree' : ∀ k ok,ops[k]? = some ok → k ≠ i → (listed.setIfInBounds j true).getD k true = false →
     (∀ e ∈ ok.after,Region.binds .any e = true → e.on ≠ i) → oi.apart ops ok = true := fun k ok hk hki hun hno => by
    refine hfree k ok hk hki ?_ hno
    by_cases hjk : j = k
    ·subst hjk; exact hjun
    ·rw [getD_set_ne true hjk] at hun; exact hun
   refine wpOp_mono (fun a' w' h3 => ?_) h2
   obtain ⟨h4,h5,h6⟩ := h3
   have hb : Below w.heap.size w w' := h5.resolve_left fun h => Vfq hc hi hq hr hj hji h
   refine ⟨.inr hb,ih (listed.setIfInBounds j true) a' w' (hc.set hj) hfree' (ready_mono hr (Ne.symm hji)) ?_ ?_⟩
   ·exact h4.imp (fun ⟨x,y⟩ => ⟨x,fun w2 hw2 => y w2 (hb.trans (hw2.mono hb.size))⟩) id
   ·rw [Array.setIfInBounds_comm _ _ hji]
    exact h6
end
section
variable {E : Env} {base : Nat} {W0 : World} {IO Old : Nat → Prop} {φ0 : Nat → Value × Kd} {s : St} {a : Act} {w w' : World} {o : Oper} {r : ρ}
theorem VaF (hE : EnvOk P E IO Old) {ops : Array Oper} {Q : Exit → Act → World → Prop} {k : St → Option ρ} {next : Act → World → Prop} (h : ev1 E ops o s k = some r) (hr : RelE base W0 IO Old E.io φ0 s a w)
  (hn : Nxt E base W0 IO Old φ0 k r next) : (Region.wanted o (yielded ops a.tmps) = true ∧ OpR P E o a w next Q) ∨ (Region.wanted o (yielded ops a.tmps) = false ∧ next (a.put o.dst undef) w) := by
 unfold ev1 at h
 simp only [Vcu,VdI] at h
 split at h
 ·rename_i hg
  exact .inl ⟨by simp [Region.wanted,hg],VcM hE hr hn h⟩
 ·rename_i j want hg
  split at h
  ·rename_i d hd
   split at h
   ·rename_i b hb
    obtain ⟨ow,φ,hr⟩ := hr
    obtain ⟨u,h1,h2⟩ := hr.sl d _ hb
    have h3 := VaO h2
    subst h3
    have hy : yielded ops a.tmps j = some b := by
     unfold yielded
     rw [hd]
     simp [h1]
    have hset : ∀ b' : Bool,b = b' → Rel base W0 IO Old E.io φ0 { s with sl := s.sl.set d (.dat .bool b') } a w ow φ := fun b' hb' => by
     subst hb'
     have hd2 := (List.getElem?_eq_some_iff.1 hb)
     have e1 : s.sl.set d (.dat .bool b) = s.sl := by
      apply List.ext_getElem?
      intro i
      rw [List.getElem?_set]
      split
      ·subst_vars; rw [if_pos hd2.1,hb]
      ·rfl
     rw [e1]
     exact hr
    split at h
    ·rename_i hbw
     exact .inl ⟨by simp [Region.wanted,hg,hy,hbw],VcM hE ⟨ow,φ,hset _ hbw⟩ hn h⟩
    ·rename_i hbw
     have hb2 : b = !want := by cases b <;> cases want <;> simp_all
     exact .inr ⟨by simp [Region.wanted,hg,hy,hbw],hn _ _ _ h ⟨ow,φ,(hset _ hb2).put (v := .und) (u := undef) rfl _⟩⟩
   ·rename_i hb
    obtain ⟨ow,φ,hr⟩ := hr
    obtain ⟨u,h1,h2⟩ := hr.sl d _ hb
    have h3 : u = undef := h2
    subst h3
    have hy : yielded ops a.tmps j = none := by
     unfold yielded
     rw [hd]
     simp [h1,undef]
    exact .inr ⟨by simp [Region.wanted,hg,hy],hn _ _ _ h ⟨ow,φ,hr.put (v := .und) (u := undef) rfl _⟩⟩
   ·cases h
  ·cases h
theorem Ves {ops : Array Oper} {listed : Array Bool} {i : Nat} : ∀ (l : List Nat),Vbd ops listed l = some i → i ∈ l ∧ (∀ o,ops[i]? = some o → quiet o = true) ∧ Region.free .any ops listed i = true := by
 intro l
 induction l with
 | nil => intro h; cases h
 | cons j l ih =>
  intro h
  simp only [Vbd] at h
  split at h
  ·rename_i hc
   cases h
   simp only [Bool.and_eq_true] at hc
   refine ⟨List.mem_cons_self,fun o ho => ?_,hc.2⟩
   have := hc.1
   unfold qAt at this
   rw [ho] at this
   exact this
  ·exact ⟨List.mem_cons_of_mem _ (ih h).1,(ih h).2⟩
theorem VeS (hE : EnvOk P E IO Old) {ops : Array Oper} {Q : Exit → Act → World → Prop} {n : Nat} {listed : Array Bool} {j : Nat} {s : St} {k : St → Option ρ} {a : Act} {w : World}
  (h : (match (generalizing := false) ops[j]? with
   | some o => if quiet o || !marks E o || fence ops j then ev1 E ops o s k else none
   | none => none) = some r) (hr : RelE base W0 IO Old E.io φ0 s a w) (hq : Nxt E base W0 IO Old φ0 k r (fun a' w' => Va1 P ops Q n (listed.setIfInBounds j true) a' w')) :
  wpOp P ops Q j (fun a' w' => (fence ops j = true ∨ Below w.heap.size w w') ∧ Va1 P ops Q n (listed.setIfInBounds j true) a' w') a w := by
 split at h
 ·rename_i o ho
  split at h
  ·rename_i hcond
   have h1 := VaF (Q := Q) hE h hr hq
   unfold wpOp
   simp only [ho]
   rcases h1 with ⟨h2,h3⟩ | ⟨h2,h3⟩
   ·rw [if_pos h2]
    refine .inl ?_
    rcases h3 with ⟨u,h4,h5⟩ | ⟨h4,h5⟩
    ·exact VeB h4 ⟨.inr (Below.refl _ _),h5⟩
    ·refine Oper.wp_mono (fun a' w' h6 => ⟨?_,h6.2⟩) h5
     simp only [h4,Bool.false_or,Bool.or_eq_true,Bool.not_eq_true'] at hcond
     exact hcond.elim (fun h => .inr (h6.1 h)) .inl
   ·rw [if_neg (by simp [h2])]
    exact ⟨.inr (Below.refl _ _),h3⟩
  ·cases h
 ·cases h
theorem Vf8 (hE : EnvOk P E IO Old) {ops : Array Oper} {Q : Exit → Act → World → Prop} (hs : Region.noSelect ops = true) (hQ : ∀ c a w,¬ Q (.panic c) a w) : ∀ (n : Nat) (listed : Array Bool) (s : St) (k : St → Option ρ) (a : Act) (w : World),
  Vae E ops n listed s k = some r → Closed ops listed → RelE base W0 IO Old E.io φ0 s a w →
  (∀ s' a' w',k s' = some r → RelE base W0 IO Old E.io φ0 s' a' w' → Q .normal a' w') → Va1 P ops Q n listed a w := by
 intro n
 induction n with
 | zero =>
  intro listed s k a w h hc hr hq
  simp only [Vae] at h
  split at h
  ·rename_i he
   exact ⟨List.isEmpty_iff.1 he,hq _ _ _ h hr⟩
  ·cases h
 | succ n ih =>
  intro listed s k a w h hc hr hq
  simp only [Vae] at h
  split at h
  ·rename_i he
   exact ⟨fun _ => hq _ _ _ h hr,fun i hi => by rw [he] at hi; cases hi⟩
  ·rename_i i he
   have hi0 : i ∈ Region.ready .any ops listed := by rw [he]; exact List.mem_cons_self
   refine ⟨fun h0 => (by rw [he] at h0; cases h0),fun j hj => ?_⟩
   rw [he] at hj
   have hj := List.mem_singleton.1 hj
   subst hj
   exact VeS hE h hr (fun s' a' w' hk hr' => ih _ s' k a' w' hk (hc.set hi0) hr' hq)
  ·rename_i i0 j0 r0 he
   split at h
   ·rename_i i hp
    obtain ⟨h1,h2,h3⟩ := Ves _ hp
    rw [← he] at h1
    split at h
    ·rename_i o ho
     have h4 := VaF (Q := Q) (next := fun a' w' => Va1 P ops Q n (listed.setIfInBounds i true) a' w') hE h hr (fun s' a' w' hk hr' => ih _ s' k a' w' hk (hc.set h1) hr' hq)
     rcases h4 with ⟨h5,h6⟩ | ⟨h5,h6⟩
     ·rcases h6 with ⟨u,h7,h8⟩ | ⟨h7,_⟩
      ·exact Vcg ho (Region.noSelect_spec hs) hQ (h2 o ho) n listed a w hc (Region.free_spec ho h3) h1 (.inl ⟨h5,fun w' hb => h7.1 w' hb.block⟩) h8
      ·rw [h2 o ho] at h7; cases h7
     ·exact Vcg ho (Region.noSelect_spec hs) hQ (h2 o ho) n listed a w hc (Region.free_spec ho h3) h1 (.inr ⟨h5,rfl⟩) h6
    ·cases h
   ·refine ⟨fun h0 => (by rw [he] at h0; cases h0),fun j hj => ?_⟩
    have h1 := VcJ _ _ h _ (List.mem_map.2 ⟨j,he ▸ hj,rfl⟩)
    exact VeS hE h1 hr (fun s' a' w' hk hr' => ih _ s' k a' w' hk (hc.set hj) hr' hq)
theorem VcO {ops : Array Oper} {Q : Exit → Act → World → Prop} {i : Nat} {oi : Oper} {v : Value} (hi : ops[i]? = some oi) (hsel : ∀ (j : Nat) (o : Oper) cs b,ops[j]? = some o → o.op ≠ .select cs b)
  (hQ : ∀ c a w,¬ Q (.panic c) a w) :
  ∀ (n : Nat) (listed : Array Bool) (a : Act) (w : World),
   (∀ j oj,ops[j]? = some oj → j ≠ i → listed.getD j true = false → (∀ e ∈ oj.after,Region.binds .any e = true → e.on ≠ i) → oi.apart ops oj = true) →
   i ∈ Region.ready .any ops listed → YieldsIf P ops (fun _ => True) oi v a →
   wpAny P .any ops Q n (listed.setIfInBounds i true) (a.put oi.dst v) w → wpAny P .any ops Q (n + 1) listed a w := by
 intro n
 induction n with
 | zero =>
  intro listed a w _ hr hy H
  refine ⟨fun h => (by rw [h] at hr; cases hr),fun j hj => ?_⟩
  by_cases hji : j = i
  ·subst hji; exact hy.wpOp hi trivial H
  ·have := ready_mono hj hji
   rw [H.1] at this
   cases this
 | succ n ih =>
  intro listed a w hfree hr hy H
  refine ⟨fun h => (by rw [h] at hr; cases hr),fun j hj => ?_⟩
  by_cases hji : j = i
  ·subst hji; exact hy.wpOp hi trivial H
  ·have h1 := H.2 j (ready_mono hj hji)
   obtain ⟨hjun,oj,hoj,hall⟩ := mem_ready.1 hj
   have hnot : ∀ e ∈ oj.after,Region.binds .any e = true → e.on ≠ i := fun e he hb heq => by
    have h1 := hall e he hb
    have h0 := (mem_ready.1 hr).1
    rw [heq] at h1
    rw [Vac h1] at h0; cases h0
   have h2 := wpOp_putIf hoj (hfree j oj hoj hji hjun hnot) (fun cs b => hsel i oi cs b hi) (fun cs b => hsel j oj cs b hoj) (fun c a w h => absurd h (hQ c _ w)) hy h1
   have hfree' : ∀ k ok,ops[k]? = some ok → k ≠ i → (listed.setIfInBounds j true).getD k true = false →
     (∀ e ∈ ok.after,Region.binds .any e = true → e.on ≠ i) → oi.apart ops ok = true := fun k ok hk hki hun hno => by
    refine hfree k ok hk hki ?_ hno
    by_cases hjk : j = k
    ·subst hjk; exact hjun
    ·rw [getD_set_ne true hjk] at hun; exact hun
   refine wpOp_mono (fun a' w' h3 => ?_) h2
   refine ih (listed.setIfInBounds j true) a' w' hfree' (ready_mono hr (Ne.symm hji)) h3.1 ?_
   rw [Array.setIfInBounds_comm _ _ hji]
   exact h3.2
theorem VdA {ops : Array Oper} {listed : Array Bool} {i : Nat} : ∀ (l : List Nat),VaB ops listed l = some i → i ∈ l ∧ (∀ o,ops[i]? = some o → quiet o = true ∧ VbG o = false) ∧ Region.free .any ops listed i = true := by
 intro l
 induction l with
 | nil => intro h; cases h
 | cons j l ih =>
  intro h
  simp only [VaB] at h
  split at h
  ·rename_i hc
   cases h
   simp only [Bool.and_eq_true] at hc
   refine ⟨List.mem_cons_self,fun o ho => ?_,hc.2⟩
   have := hc.1
   unfold stAt at this
   rw [ho] at this
   simpa using this
  ·exact ⟨List.mem_cons_of_mem _ (ih h).1,(ih h).2⟩
theorem VeT (hE : EnvOk P E IO Old) {ops : Array Oper} {Q : Exit → Act → World → Prop} {n : Nat} {listed : Array Bool} {j : Nat} {s : St} {k : St → Option ρ} {a : Act} {w : World}
  (h : (match (generalizing := false) ops[j]? with
   | some o => ev1 E ops o s k
   | none => none) = some r) (hr : RelE base W0 IO Old E.io φ0 s a w) (hq : Nxt E base W0 IO Old φ0 k r (fun a' w' => wpAny P .any ops Q n (listed.setIfInBounds j true) a' w')) :
  wpOp P ops Q j (wpAny P .any ops Q n (listed.setIfInBounds j true)) a w := by
 split at h
 ·rename_i o ho
  have h1 := VaF (Q := Q) hE h hr hq
  unfold wpOp
  simp only [ho]
  rcases h1 with ⟨h2,h3⟩ | ⟨h2,h3⟩
  ·rw [if_pos h2]
   exact .inl h3.wp
  ·rw [if_neg (by simp [h2])]
   exact h3
 ·cases h
theorem Vfr (hE : EnvOk P E IO Old) {ops : Array Oper} {Q : Exit → Act → World → Prop} (hs : Region.noSelect ops = true) (hQ : ∀ c a w,¬ Q (.panic c) a w) : ∀ (n : Nat) (listed : Array Bool) (s : St) (k : St → Option ρ) (a : Act) (w : World),
  V2 E ops n listed s k = some r → Closed ops listed → RelE base W0 IO Old E.io φ0 s a w →
  (∀ s' a' w',k s' = some r → RelE base W0 IO Old E.io φ0 s' a' w' → Q .normal a' w') → wpAny P .any ops Q n listed a w := by
 intro n
 induction n with
 | zero =>
  intro listed s k a w h hc hr hq
  simp only [V2] at h
  split at h
  ·rename_i he
   exact ⟨List.isEmpty_iff.1 he,hq _ _ _ h hr⟩
  ·cases h
 | succ n ih =>
  intro listed s k a w h hc hr hq
  simp only [V2] at h
  split at h
  ·exact Vdz _ _ _ _ (Vf8 hE hs hQ _ _ _ _ _ _ h hc hr hq)
  split at h
  ·rename_i he
   exact ⟨fun _ => hq _ _ _ h hr,fun i hi => by rw [he] at hi; cases hi⟩
  ·rename_i i he
   have hi0 : i ∈ Region.ready .any ops listed := by rw [he]; exact List.mem_cons_self
   refine ⟨fun h0 => (by rw [he] at h0; cases h0),fun j hj => ?_⟩
   rw [he] at hj
   have hj := List.mem_singleton.1 hj
   subst hj
   exact VeT hE h hr (fun s' a' w' hk hr' => ih _ s' k a' w' hk (hc.set hi0) hr' hq)
  ·rename_i i0 j0 r0 he
   split at h
   ·rename_i i hp
    obtain ⟨h1,h2,h3⟩ := VdA _ hp
    rw [← he] at h1
    split at h
    ·rename_i o ho
     have h4 := VaF (Q := Q) (next := fun a' w' => wpAny P .any ops Q n (listed.setIfInBounds i true) a' w') hE h hr (fun s' a' w' hk hr' => ih _ s' k a' w' hk (hc.set h1) hr' hq)
     rcases h4 with ⟨h5,h6⟩ | ⟨h5,h6⟩
     ·rcases h6 with ⟨u,h7,h8⟩ | ⟨h7,_⟩
      ·exact VcO ho (Region.noSelect_spec hs) hQ n listed a w (Region.free_spec ho h3) h1 (.inl ⟨h5,fun w' _ => h7.2 (h2 o ho).2 w'⟩) h8
      ·rw [(h2 o ho).1] at h7; cases h7
     ·exact VcO ho (Region.noSelect_spec hs) hQ n listed a w (Region.free_spec ho h3) h1 (.inr ⟨h5,rfl⟩) h6
    ·cases h
   ·refine ⟨fun h0 => (by rw [he] at h0; cases h0),fun j hj => ?_⟩
    have h1 := VcJ _ _ h _ (List.mem_map.2 ⟨j,he ▸ hj,rfl⟩)
    exact VeT hE h1 hr (fun s' a' w' hk hr' => ih _ s' k a' w' hk (hc.set hj) hr' hq)
theorem Vc0 {m need : Nat} : hasM m need = true ↔ ∀ j,need.testBit j = true → m.testBit j = true := by
 unfold hasM
 rw [Nat.beq_eq]
 constructor
 ·intro h j hj
  have h2 : (m &&& need).testBit j = true := by
   have : m &&& need = need := h
   rw [this]; exact hj
  rw [Nat.testBit_and,Bool.and_eq_true] at h2
  exact h2.1
 ·intro h
  show m &&& need = need
  apply Nat.eq_of_testBit_eq
  intro j
  rw [Nat.testBit_and]
  cases hn : need.testBit j
  ·simp
  ·rw [h j hn]; rfl
theorem Vbg (i j : Nat) : (Nat.pow 2 i).testBit j = decide (i = j) := Nat.testBit_two_pow
theorem Vcy (m n j : Nat) : (Nat.lor m n).testBit j = (m.testBit j || n.testBit j) := Nat.testBit_or _ _ _
theorem VeU (m i : Nat) : hasM m (Nat.pow 2 i) = m.testBit i := by
 rw [Bool.eq_iff_iff,Vc0]
 constructor
 ·intro h; exact h i (by rw [Vbg]; simp)
 ·intro h j hj
  rw [Vbg,decide_eq_true_eq] at hj
  exact hj ▸ h
def RelM (ops : Array Oper) (listed : Array Bool) (m : Nat) : Prop := listed.size = ops.size ∧ ∀ j,listed.getD j false = m.testBit j
theorem RelM.set {ops : Array Oper} {listed : Array Bool} {m i : Nat} (h : RelM ops listed m) (hi : i < ops.size) : RelM ops (listed.setIfInBounds i true) (Nat.lor m (Nat.pow 2 i)) := by
 refine ⟨by rw [Array.size_setIfInBounds]; exact h.1,fun j => ?_⟩
 have hz : i < listed.size := by rw [h.1]; exact hi
 rw [Vcy,Vbg,← h.2 j,Array.getD_eq_getD_getElem?,Array.getD_eq_getD_getElem?,Array.getElem?_setIfInBounds]
 by_cases e : i = j
 ·subst e; simp [hz]
 ·simp [e]
theorem RelM.get {ops : Array Oper} {listed : Array Bool} {m i : Nat} (h : RelM ops listed m) (hi : i < ops.size) : listed.getD i true = m.testBit i := by
 have hz : i < listed.size := by rw [h.1]; exact hi
 rw [← h.2 i,Array.getD_eq_getD_getElem?,Array.getD_eq_getD_getElem?,Array.getElem?_eq_getElem hz]; rfl
theorem VfI {ops : Array Oper} {i : Nat} {o : Oper} (ho : ops[i]? = some o) (j : Nat) : (ndM ops i).testBit j = true ↔ ∃ e ∈ o.after.toList,Region.binds .any e = true ∧ e.on = j := by
 unfold ndM
 rw [ho]
 simp only
 have key : ∀ (l : List _) (a : Nat),(l.foldl (fun m e => cond (Region.binds .any e) (Nat.lor m (Nat.pow 2 e.on)) m) a).testBit j = true ↔ a.testBit j = true ∨ ∃ e ∈ l,Region.binds .any e = true ∧ e.on = j := by
  intro l
  induction l with
  | nil => intro a; simp
  | cons e l ih =>
   intro a
   rw [List.foldl_cons,ih]
   cases hb : Region.binds .any e
   ·simp [hb]
   ·rw [cond_true,Vcy,Vbg,Bool.or_eq_true,decide_eq_true_eq]
    simp only [List.mem_cons,exists_eq_or_imp,hb,true_and,or_assoc]
 rw [key]; simp
theorem VfJ {ops : Array Oper} {i : Nat} {oi : Oper} (ho : ops[i]? = some oi) (j : Nat) : (cfM ops i).testBit j = true ↔ j < ops.size ∧ okM ops oi i j = false := by
 unfold cfM
 rw [ho]
 simp only
 have key : ∀ (l : List Nat) (a : Nat),(l.foldl (fun m j => cond (okM ops oi i j) m (Nat.lor m (Nat.pow 2 j))) a).testBit j = true ↔ a.testBit j = true ∨ (j ∈ l ∧ okM ops oi i j = false) := by
  intro l
  induction l with
  | nil => intro a; simp
  | cons e l ih =>
   intro a
   rw [List.foldl_cons,ih]
   by_cases he : e = j
   ·subst he
    cases hb : okM ops oi i e
    ·simp [Vcy,Vbg,hb]
    ·simp [hb]
   ·cases hb : okM ops oi i e
    ·rw [cond_false,Vcy,Vbg]
     simp [he,Ne.symm he]
    ·simp [Ne.symm he]
 rw [key]; simp
theorem Vcz {ops : Array Oper} {listed : Array Bool} {m : Nat} (h : RelM ops listed m) : rdyM ops m = Region.ready .any ops listed := by
 unfold rdyM Region.ready
 refine List.filter_congr fun i hi => ?_
 have hi := List.mem_range.1 hi
 obtain ⟨o,ho⟩ : ∃ o,ops[i]? = some o := ⟨_,Array.getElem?_eq_getElem hi⟩
 rw [VeU,h.get hi,ho]
 congr 1
 rw [Bool.eq_iff_iff,Vc0]
 simp only [Option.map_some,Option.getD_some,Array.all_eq_true_iff_forall_mem,Bool.or_eq_true,Bool.not_eq_true']
 constructor
 ·intro hh e he
  cases hb : Region.binds .any e
  ·exact .inl rfl
  ·right
   rw [h.2]
   exact hh _ ((VfI ho _).2 ⟨e,by simpa using he,hb,rfl⟩)
 ·intro hh j hj
  obtain ⟨e,he,hb,rfl⟩ := (VfI ho _).1 hj
  rcases hh e (by simpa using he) with h1 | h1
  ·rw [hb] at h1; cases h1
  ·rw [← h.2]; exact h1
theorem VeV {ops : Array Oper} {listed : Array Bool} {m i : Nat} {oi : Oper} (h : RelM ops listed m) (ho : ops[i]? = some oi) : hasM m (cfM ops i) = Region.free .any ops listed i := by
 rw [Bool.eq_iff_iff,Vc0]
 unfold Region.free
 rw [ho]
 simp only [List.all_eq_true,List.mem_range]
 constructor
 ·intro hh j hj
  obtain ⟨oj,hoj⟩ : ∃ o,ops[j]? = some o := ⟨_,Array.getElem?_eq_getElem hj⟩
  cases hc : okM ops oi i j
  ·have := hh j ((VfJ ho j).2 ⟨hj,hc⟩)
   rw [h.get hj,this]; simp
  ·unfold okM at hc
   simp only [hoj,Bool.or_eq_true] at hc ⊢
   rcases hc with hc | hc
   ·exact .inl (.inl hc)
   ·exact .inr hc
 ·intro hh j hj
  obtain ⟨h1,h2⟩ := (VfJ ho j).1 hj
  obtain ⟨oj,hoj⟩ : ∃ o,ops[j]? = some o := ⟨_,Array.getElem?_eq_getElem h1⟩
  have := hh j h1
  rw [h.get h1] at this
  cases ht : m.testBit j
  ·unfold okM at h2
   simp only [hoj,ht,Bool.or_false] at this h2
   rw [this] at h2; cases h2
  ·rfl
theorem Vhq {ops : Array Oper} {i : Nat} (h : qAt ops i = true) : ∃ o,ops[i]? = some o := by
 unfold qAt at h
 split at h
 ·exact ⟨_,by assumption⟩
 ·cases h
theorem Vhr {ops : Array Oper} {listed : Array Bool} {m : Nat} (h : RelM ops listed m) : ∀ l,pickM ops m l = Vbd ops listed l := by
 intro l
 induction l with
 | nil => rfl
 | cons i l ih =>
  simp only [pickM,Vbd,ih]
  cases hq : qAt ops i
  ·simp
  ·obtain ⟨o,ho⟩ := Vhq hq
   rw [VeV h ho]
theorem VgC {ops : Array Oper} {listed : Array Bool} {m : Nat} (h : RelM ops listed m) : ∀ l,Vp ops m l = VaB ops listed l := by
 intro l
 induction l with
 | nil => rfl
 | cons i l ih =>
  simp only [Vp,VaB,ih]
  cases hq : stAt ops i
  ·simp
  ·obtain ⟨o,ho⟩ : ∃ o,ops[i]? = some o := by
    unfold stAt at hq
    split at hq
    ·exact ⟨_,by assumption⟩
    ·cases hq
   rw [VeV h ho]
theorem Vhs {E : Env} {ops : Array Oper} {listed : Array Bool} {m : Nat} (h : RelM ops listed m) : restM E ops m = Vez E ops listed := by
 unfold restM Vez
 simp only [VeU,h.2]
theorem Vht {E : Env} {ops : Array Oper} : ∀ (n : Nat) (listed : Array Bool) (m : Nat) (s : St) (k : St → Option ρ),RelM ops listed m → VaC E ops n m s k = Vae E ops n listed s k := by
 intro n
 induction n with
 | zero => intro listed m s k h; simp only [VaC,Vae,Vcz h]
 | succ n ih =>
  intro listed m s k h
  have next : ∀ i o,ops[i]? = some o → (fun s => VaC E ops n (Nat.lor m (Nat.pow 2 i)) s k) = fun s => Vae E ops n (listed.setIfInBounds i true) s k := fun i o ho => funext fun s => ih _ _ s k (h.set (Array.getElem?_eq_some_iff.1 ho).1)
  simp only [VaC,Vae,Vcz h]
  split
  ·rfl
  ·rename_i i _
   split
   ·rename_i o ho; rw [next i o ho]
   ·rfl
  ·rename_i i j r _
   rw [Vhr h]
   split
   ·rename_i i _
    split
    ·rename_i o ho; rw [next i o ho]
    ·rfl
   ·refine congrArg Vad (List.map_congr_left fun i _ => ?_)
    split
    ·rename_i o ho; rw [next i o ho]
    ·rfl
theorem VgD {E : Env} {ops : Array Oper} : ∀ (n : Nat) (listed : Array Bool) (m : Nat) (s : St) (k : St → Option ρ),RelM ops listed m → Vc E ops n m s k = V2 E ops n listed s k := by
 intro n
 induction n with
 | zero => intro listed m s k h; simp only [Vc,V2,Vcz h]
 | succ n ih =>
  intro listed m s k h
  have next : ∀ i o,ops[i]? = some o → (fun s => Vc E ops n (Nat.lor m (Nat.pow 2 i)) s k) = fun s => V2 E ops n (listed.setIfInBounds i true) s k := fun i o ho => funext fun s => ih _ _ s k (h.set (Array.getElem?_eq_some_iff.1 ho).1)
  simp only [Vc,V2,Vcz h,Vhs h,Vht (n + 1) listed m s k h]
  split
  ·rfl
  split
  ·rfl
  ·rename_i i _
   split
   ·rename_i o ho; rw [next i o ho]
   ·rfl
  ·rename_i i j r _
   rw [VgC h]
   split
   ·rename_i i _
    split
    ·rename_i o ho; rw [next i o ho]
    ·rfl
   ·refine congrArg Vad (List.map_congr_left fun i _ => ?_)
    cases ho : ops[i]? with
    | none => rfl
    | some o => simp only [next i o ho]
theorem Vfs {E : Env} {ops : Array Oper} (s : St) (k : St → Option ρ) : Vc E ops ops.size 0 s k = V2 E ops ops.size (Array.replicate ops.size false) s k := by
 refine VgD _ _ _ s k ⟨Array.size_replicate,fun j => ?_⟩
 rw [Nat.zero_testBit,Array.getD_eq_getD_getElem?,Array.getElem?_replicate]
 split <;> rfl
theorem Vch (hE : EnvOk P E IO Old) {id : Nat} {ops : Array Oper} {Q : Exit → Act → World → Prop} {k : St → Option ρ} (hs : Region.noSelect ops = true) (h0 : Vc E ops ops.size 0 s k = some r)
  (hr : RelE base W0 IO Old E.io φ0 s a w) (hq : ∀ s' a' w',k s' = some r → RelE base W0 IO Old E.io φ0 s' a' w' → Q .normal a' w') : (Code.region id ops true).wp P Q a w := by
 have h := h0
 rw [Vfs] at h
 refine Code.wp_mono (Q := fun e a w => (∀ c,e ≠ .panic c) ∧ Q e a w) (fun e a w h => h.2) (wp_region_any hE.mo ?_)
 refine Vfr hE hs (fun c a w h => h.1 c rfl) _ _ s k a _ h ?_ ?_ (fun s' a' w' hk hr' => ⟨fun c h => (by cases h),hq s' a' w' hk hr'⟩)
 ·intro i o hi
  rw [Array.getD_eq_getD_getElem?,Array.getElem?_replicate] at hi
  split at hi <;> simp at hi
 ·obtain ⟨ow,φ,hr⟩ := hr
  exact ⟨ow,φ,hr.below (Below.refl _ _).drew⟩
end
end Go.Ev

namespace Go.Ev
set_option linter.unusedVariables false
set_option linter.unusedSimpArgs false
open Go.RowKit
variable {ρ : Type} {P : Program}
def Ex.to : Ex → Exit
 | .normal => .normal
 | .exit id => .exit id
 | .ret => .ret
section
variable {E : Env} {base : Nat} {W0 : World} {IO Old : Nat → Prop} {φ0 : Nat → Value × Kd} {s : St} {a : Act} {w : World}
theorem Vij {φ : Nat → Value} {hk : Nat → Option Kd} {w : World} {S : Nat → Prop} : ∀ (v : V) (t : Ty) (cs : List Value),VC φ hk w S t v cs → VC φ hk w S t v.pack cs := by
 intro v
 induction v with
 | pr a b iha ihb =>
  intro t cs h
  cases t with
  | pair t u =>
   simp only [VC] at h
   obtain ⟨c0,c1,h1,h2,h3⟩ := h
   have k2 := iha t c0 h2
   have k3 := ihb u c1 h3
   simp only [V.pack]
   split
   ·rename_i t' x u' y e1 e2
    rw [e1] at k2
    rw [e2] at k3
    simp only [VC] at k2 k3 ⊢
    refine ⟨?_,c0,c1,h1,k2.2,k3.2⟩
    simp only [Ty.le,k2.1,k3.1,Bool.and_self]
   ·simp only [VC]
    exact ⟨c0,c1,h1,k2,k3⟩
  | _ => simp [VC] at h
 | _ => intro t cs h; exact h
theorem VeW {base : Nat} {W0 : World} {IO Old : Nat → Prop} {io : Nat} {φ0 : Nat → Value × Kd} {s : St} {a : Act} {w : World} {ow : Nat → Option Nat} {φ : Nat → Value} (n : Nat) (hr : Rel base W0 IO Old io φ0 s a w ow φ) : Rel base W0 IO Old io φ0 (s.packAt n) a w ow φ := by
 unfold St.packAt
 split
 ·rename_i id q _
  split
  ·rename_i e t v hb
   have hks : kds (s.hp.set id (.box e t v.pack)) = kds s.hp := VdK hb rfl
   have hlt := (List.getElem?_eq_some_iff.1 hb).1
   refine ⟨hr.dl,hr.len,?_,?_,?_,hr.fr,hr.sz,hr.mt,?_,hr.f0,?_⟩
   ·simp only [hks]; exact hr.sl
   ·intro i b hi
    simp only [hks]
    by_cases e1 : id = i
    ·subst e1
     rw [List.getElem?_set_self hlt] at hi
     obtain rfl := Option.some.inj hi
     obtain ⟨g,cells,h1,h2,h3,h4⟩ := hr.hp id _ hb
     exact ⟨g,cells,h1,h2,h3,Vij _ _ _ h4⟩
    ·rw [List.getElem?_set_ne e1] at hi
     exact hr.hp i b hi
   ·intro b i hi
    have := hr.own b i hi
    simp only [List.length_set]; exact this
   ·simp only [List.length_set]; exact hr.iol
   ·simp only [hks]; exact hr.k0
  ·exact hr
 ·exact hr
theorem Vft {base : Nat} {W0 : World} {IO Old : Nat → Prop} {io : Nat} {φ0 : Nat → Value × Kd} {a : Act} {w : World} {ow : Nat → Option Nat} {φ : Nat → Value} : ∀ (l : List Nat) (s : St),Rel base W0 IO Old io φ0 s a w ow φ → Rel base W0 IO Old io φ0 (s.packs l) a w ow φ := by
 intro l
 induction l with
 | nil => intro s h; exact h
 | cons k l ih => intro s h; exact ih _ (VeW _ h)
theorem Vas {keep : List Nat} {s' : St} (hr : RelE base W0 IO Old E.io φ0 s a w) (h : s.norm E.io keep = some s') : RelE base W0 IO Old E.io φ0 s' a w := by
 obtain ⟨ow,φ,hr⟩ := hr
 obtain ⟨ow',hr'⟩ := VY (frzOf E.io keep s) s ow φ (fun i hi => by
  unfold frzOf at hi
  simpa using (List.mem_filter.1 hi).2) hr
 exact Vfp ⟨ow',φ,Vft _ _ hr'⟩ h
end
section
variable {E : Env} {base : Nat} {W0 : World} {IO Old : Nat → Prop} {φ0 : Nat → Value × Kd} {s : St} {a : Act} {w w' : World} {o : Oper} {r : ρ}
theorem Vd8 (hE : EnvOk P E IO Old) {ops : Array Oper} {Q : Exit → Act → World → Prop} : ∀ (l : List Oper) (s : St) (k : St → Option ρ) (a : Act) (w : World),evOps E ops l s k = some r → RelE base W0 IO Old E.io φ0 s a w →
  (∀ s' a' w',k s' = some r → RelE base W0 IO Old E.io φ0 s' a' w' → Q .normal a' w') → wpList P ops Q l a w := by
 intro l
 induction l with
 | nil => intro s k a w h hr hq; exact hq s a w h hr
 | cons o l ih =>
  intro s k a w h hr hq
  simp only [evOps] at h
  unfold wpList
  rcases VaF (Q := Q) (next := wpList P ops Q l) hE h hr (fun s' a' w' hk hr' => ih s' k a' w' hk hr' hq) with ⟨h1,h2⟩ | ⟨h1,h2⟩
  ·rw [if_pos h1]; exact .inl h2.wp
  ·rw [if_neg (by simp [h1])]; exact h2
theorem VdB (hE : EnvOk P E IO Old) (keep : Nat → List Nat) (n : Nat) : ∀ (c : Code) (K : Ex → St → Option ρ) (Q : Exit → Act → World → Prop) (s : St) (a : Act) (w : World),exec E keep n c K s = some r → RelE base W0 IO Old E.io φ0 s a w →
  (∀ e s' a' w',K e s' = some r → RelE base W0 IO Old E.io φ0 s' a' w' → Q e.to a' w') → c.wp P Q a w := by
 intro c
 induction c with
 | skip => intro K Q s a w h hr hq; exact wp_skip (hq .normal s a w h hr)
 | seq x y ihx ihy =>
  intro K Q s a w h hr hq
  refine wp_seq (ihx _ _ s a w h hr fun e s' a' w' hk hr' => ?_)
  cases e with
  | normal =>
   rcases Vdg hk with hk | ⟨s2,hs2,hk⟩
   ·exact ihy K Q s' a' w' hk hr' hq
   ·exact ihy K Q s2 a' w' hk (Vas hr' hs2) hq
  | exit i => exact hq _ s' a' w' hk hr'
  | ret => exact hq _ s' a' w' hk hr'
 | cond c x y ihx ihy =>
  intro K Q s a w h hr hq
  simp only [exec] at h
  split at h
  ·rename_i b hb
   obtain ⟨ow,φ,hr0⟩ := hr
   have hv := VaO (Vj hr0 hb)
   split at h
   ·rename_i hbt
    subst hbt
    exact wp_cond_true hv (ihx K Q s a w h ⟨ow,φ,hr0⟩ hq)
   ·rename_i hbf
    simp only [Bool.not_eq_true] at hbf
    subst hbf
    exact wp_cond_false hv (ihy K Q s a w h ⟨ow,φ,hr0⟩ hq)
  ·cases h
 | block id c ih =>
  intro K Q s a w h hr hq
  refine wp_block (ih _ _ s a w h hr fun e s' a' w' hk hr' => ?_)
  cases e with
  | normal => exact hq .normal s' a' w' hk hr'
  | exit i =>
   simp only [VbH] at hk
   show (if i = id then Q .normal a' w' else Q (.exit i) a' w')
   split at hk
   ·rename_i hi; rw [if_pos hi]; exact hq .normal s' a' w' hk hr'
   ·rename_i hi; rw [if_neg hi]; exact hq (.exit i) s' a' w' hk hr'
  | ret => exact hq .ret s' a' w' hk hr'
 | loop c ih =>
  intro K Q s a w h hr hq
  simp only [exec] at h
  split at h
  rotate_left
  ·cases h
  rename_i s0 hs0
  have hr0 := Vas hr hs0
  have key : ∀ m s a w,loopN (exec E keep n c) (St.norm E.io (keep (VK c))) K m s = some r → RelE base W0 IO Old E.io φ0 s a w → ∀ b k cs,
    ∃ e a' w',Q e a' w' ∧ Arrives P (lone (b.at a (.code c :: .inLoop c :: k)) cs w) b k cs e a' w' := by
   intro m
   induction m with
   | zero => intro s a w h; cases h
   | succ m ihm =>
    intro s a w h hr b k cs
    simp only [loopN] at h
    obtain ⟨e,a₁,w₁,hq1,harr⟩ := ih _ (fun e a' w' => match e with
     | .normal => ∃ s',RelE base W0 IO Old E.io φ0 s' a' w' ∧ loopN (exec E keep n c) (St.norm E.io (keep (VK c))) K m s' = some r
     | e => Q e a' w') s a w h hr (fun e s' a' w' hk hr' => by
      cases e with
      | normal =>
       simp only [kLoop] at hk
       split at hk
       ·rename_i s2 hs2; exact ⟨s2,Vas hr' hs2,hk⟩
       ·cases hk
      | exit i => exact hq _ s' a' w' hk hr'
      | ret => exact hq _ s' a' w' hk hr') b (.inLoop c :: k) cs
    cases e with
    | normal =>
     obtain ⟨s',hr',hl⟩ := hq1
     obtain ⟨e₂,a₂,w₂,hq₂,harr₂⟩ := ihm s' a₁ w₁ hl hr' b k cs
     exact ⟨e₂,a₂,w₂,hq₂,.of_steps (Steps.trans harr (.one step_inLoop)) harr₂⟩
    | exit id => exact ⟨_,a₁,w₁,hq1,.pass (x := .inLoop c) rfl (fun _ _ => .inl (by simp)) harr⟩
    | goto l => exact ⟨_,a₁,w₁,hq1,.pass (x := .inLoop c) rfl (fun _ _ => .inl (by simp)) harr⟩
    | ret => exact ⟨_,a₁,w₁,hq1,.pass (x := .inLoop c) rfl (fun _ _ => .inl (by simp)) harr⟩
    | panic ch => exact ⟨_,a₁,w₁,hq1,.pass (x := .inLoop c) rfl (fun _ _ => .inl (by simp)) harr⟩
    | outgrown => exact ⟨_,a₁,w₁,hq1,.pass (x := .inLoop c) rfl (fun _ _ => .inl (by simp)) harr⟩
  intro b k cs
  obtain ⟨e,a',w',hq',harr⟩ := key n s0 a w h hr0 b k cs
  exact ⟨e,a',w',hq',.of_steps (.one step_loop) harr⟩
 | region id ops draw =>
  intro K Q s a w h hr hq
  cases draw with
  | false => exact wp_region_list (Vd8 hE ops.toList s (K .normal) a w h hr (fun s' a' w' hk hr' => hq .normal s' a' w' hk hr'))
  | true =>
   simp only [exec] at h
   split at h
   ·rename_i hs
    exact Vch hE hs h hr (fun s' a' w' hk hr' => hq .normal s' a' w' hk hr')
   ·cases h
 | exit id => intro K Q s a w h hr hq; exact wp_exit (hq (.exit id) s a w h hr)
 | ret => intro K Q s a w h hr hq; exact wp_ret (hq .ret s a w h hr)
 | _ => intro K Q s a w h; simp [exec] at h
end
end Go.Ev

namespace Go.Ev
set_option linter.unusedVariables false
set_option linter.unusedSimpArgs false
open Go.RowKit
variable {ρ : Type} {P : Program}
def retVs (E : Env) (s : St) : List ResultVar → Option (List V)
 | [] => some []
 | .tmp t :: r => match getF 64 s.sl t,retVs E s r with
  | some v,some vs => some (v :: vs)
  | _,_ => none
 | .cell x t :: r => match E.T t,getF 64 s.sl x,retVs E s r with
  | some (ty,_),some p,some vs => match s.load p with
   | some v => if v.fits s.hp ty = true then some (v :: vs) else none
   | none => none
  | _,_,_ => none
def VdU (E : Env) (c : Con) (ks : List (Kn × Dat)) (rs : List ResultVar) (s : St) : Option (Tup ((c.rs ++ iosG c.gv c.ps).map (·.2))) :=
 match retVs E s rs with
 | some vs => if VbF ((idsL c.rs vs).flatten ++ List.range E.io) && decide (vs.length = c.rs.length) then finT s.hp (c.rs ++ iosG c.gv c.ps) (vs ++ ioVG c.gv c.ps (ksV ks 0)) else none
 | none => none
def Vbp (E : Env) (c : Con) (rs : List ResultVar) (s : St) : List Nat := match retVs E s rs with
 | some vs => (VV c.rs vs).filter fun i => decide (E.io ≤ i)
 | none => []
def Vbq (E : Env) (c : Con) (ks : List (Kn × Dat)) (rs : List ResultVar) (s : St) : Option (Tup ((c.rs ++ iosG c.gv c.ps).map (·.2))) := VdU E c ks rs (s.freezes (Vbp E c rs s))
section
variable {E : Env} {base : Nat} {W0 : World} {IO Old : Nat → Prop} {φ0 : Nat → Value × Kd} {s : St} {a : Act} {w w' : World} {o : Oper} {r : ρ} {ow : Nat → Option Nat} {φ : Nat → Value}
def retOp (tmps : Array Value) : ResultVar → Sem Value
 | .tmp t => pure (tmps.getD t undef)
 | .cell x t => do loadVar t (← asAddr (tmps.getD x undef))
theorem Vfu (hE : EnvOk P E IO Old) (hr : Rel base W0 IO Old E.io φ0 s a w ow φ) : ∀ (rs : List ResultVar) (vs : List V),retVs E s rs = some vs → ∃ us,All2 (VR φ (kds s.hp) w (Fz ow w Old base)) vs us ∧ (rs.mapM (retOp a.tmps)).run P w = .ok us w := by
 intro rs
 induction rs with
 | nil => intro vs h; simp only [retVs,Option.some.injEq] at h; subst h; exact ⟨[],.nil,by simp⟩
 | cons x rs ih =>
  intro vs h
  cases x with
  | tmp t =>
   simp only [retVs] at h
   split at h
   ·rename_i v l h1 h2
    cases h
    obtain ⟨us,h3,h4⟩ := ih _ h2
    obtain ⟨u,h5,h6⟩ := hr.sl t v (by rw [← Vcu 64]; exact h1)
    refine ⟨u :: us,.cons h6 h3,?_⟩
    have e1 : (retOp a.tmps (.tmp t)).run P w = .ok u w := by simp [retOp,h5]
    simp only [List.mapM_cons,Sem.run_bind,e1,Sem.run_pure,Result.andThen_ok,h4]
   ·cases h
  | cell x t =>
   simp only [retVs] at h
   split at h
   ·rename_i ty n p l h1 h2 h7
    split at h
    ·rename_i v h8
     split at h
     ·rename_i hf
      cases h
      obtain ⟨us,h3,h4⟩ := ih _ h7
      obtain ⟨u,h5,h6⟩ := hr.sl x p (by rw [← Vcu 64]; exact h2)
      have e1 : a.tmps.getD x undef = u := by simp [h5]
      obtain ⟨q,c,rfl,g2,g3,g4⟩ := VeC hr h8 h6 hf
      obtain ⟨z,g5,g6⟩ := Vbz (w := w) (hE.ty _ _ _ h1) g2 (V9 _ _ _ g3) g4
      refine ⟨z :: us,.cons (VaA g3 g6) h3,?_⟩
      have e2 : (retOp a.tmps (.cell x t)).run P w = .ok z w := by
       simp only [retOp,Sem.run_bind,e1,asAddr,Sem.run_pure,Result.andThen_ok,g5]
      simp only [List.mapM_cons,Sem.run_bind,e2,Sem.run_pure,Result.andThen_ok,h4]
     ·cases h
    ·cases h
   ·cases h
theorem VbC (hE : EnvOk P E IO Old) {fn : Func} (hr : Rel base W0 IO Old E.io φ0 s a w ow φ) {vs : List V} (h : retVs E s fn.results.toList = some vs) : ∃ us,All2 (VR φ (kds s.hp) w (Fz ow w Old base)) vs us ∧ (results fn a.tmps).run P w = .ok (retOf us) w := by
 obtain ⟨us,h1,h2⟩ := Vfu hE hr _ _ h
 refine ⟨us,h1,?_⟩
 have h0 : results fn a.tmps = (do let vs ← fn.results.mapM (retOp a.tmps); pure (if h : vs.size = 1 then vs[0] else .tuple vs)) := by
  unfold results
  congr 1
 rw [h0,Sem.run_bind,Array.mapM_eq_mapM_toList,Sem.run_map,h2]
 simp only [Result.andThen_ok,Sem.run_pure]
 cases us with
 | nil => rfl
 | cons u us =>
  cases us with
  | nil => rfl
  | cons u2 us => simp [retOf]
theorem VgE : ∀ (ps : List (Kn × Ty)) (ds : List Dat) (n : Nat),ds.map (·.t) = ps.map (·.2) → (idsL (ios ps) (ioV ps (ksV (kds' ps ds) n))).flatten = List.range' n (ksB (kds' ps ds)).length := by
 intro ps
 induction ps with
 | nil => intro ds n _; rfl
 | cons p ps ih =>
  obtain ⟨k,t⟩ := p
  intro ds n h
  cases ds with
  | nil => simp at h
  | cons d ds =>
   simp only [List.map_cons,List.cons.injEq] at h
   cases k with
   | val =>
    simp only [kds',ksV,ios,ioV,ksB,kB,List.nil_append,kN,Nat.add_zero]
    exact ih ds n h.2
   | own =>
    simp only [kds',ksV,ios,ioV,ksB,idsL,List.flatten_cons,List.length_append,VaW,VeJ]
    rw [ih ds _ h.2,List.range'_append_1]
   | bx e =>
    simp only [kds',ksV,ios,ioV,ksB,idsL,List.flatten_cons,List.length_append,VaW,VeJ]
    rw [ih ds _ h.2,List.range'_append_1]
theorem Vhu {hp0 hp : List Blk} {F S0 : Nat → Prop} (hk0 : ∀ id k,kds hp0 id = some k → (φ0 id).2 = k ∧ k ≠ .dead) (hkk : ∀ id k,kds hp0 id ≠ none → kds hp id = some k → k = .dead ∨ k = (φ0 id).2) (hφ : ∀ id,kds hp0 id ≠ none → φ id = (φ0 id).1) :
  ∀ (v : V) (t tt : Ty) (x : t.I) (cs : List Value),ownS v t = true → v.as hp t = some x → VC (fun j => (φ0 j).1) (kds hp0) w S0 tt v cs → VC φ (kds hp) w' F tt v cs := by
 intro v
 induction v with
 | dat u y =>
  intro t tt x cs ho _ k
  simp only [ownS,Bool.and_eq_true,decide_eq_true_eq] at ho
  obtain ⟨rfl,hfl⟩ := ho
  exact VC_dat.2 ⟨(VC_dat.1 k).1,V3 _ _ _ hfl (VC_dat.1 k).2⟩
 | ref id =>
  intro t tt x cs ho ha k
  cases tt with
  | sl e2 t2 =>
   rcases k with ⟨h1,_⟩ | ⟨h1,h2,h3⟩
   ·exact absurd rfl (hk0 id _ h1).2
   ·have hne : kds hp0 id ≠ none := by rw [h1]; simp
    have hal : ∃ k,kds hp id = some k ∧ k ≠ .dead := by
     cases hb : hp[id]? with
     | none => cases t <;> simp [V.as,hb] at ha
     | some b =>
      refine ⟨b.kd,kds_some.2 ⟨b,hb,rfl⟩,fun hd => ?_⟩
      cases b <;> simp [Blk.kd] at hd
      cases t <;> simp [V.as,hb] at ha
    obtain ⟨k,k1,k2⟩ := hal
    have k3 := (hkk id k hne k1).resolve_left k2
    rw [(hk0 id _ h1).1] at k3
    subst k3
    exact .inr ⟨k1,by rw [hφ id hne]; exact h2,by rw [hφ id hne]; exact h3⟩
  | _ => exact k.elim
 | pr b c ihb ihc =>
  intro t tt x cs ho ha k
  cases t with
  | pair t1 t2 =>
   simp only [ownS,Bool.and_eq_true] at ho
   simp only [V.as] at ha
   split at ha
   ·rename_i x1 x2 h1 h2
    cases tt with
    | pair u1 u2 =>
     obtain ⟨c0,c1,rfl,k0,k1⟩ := k
     exact ⟨c0,c1,rfl,ihb _ _ _ _ ho.1 h1 k0,ihc _ _ _ _ ho.2 h2 k1⟩
    | _ => exact k.elim
   ·cases ha
  | _ => simp [ownS] at ho
 | _ => intro t tt x cs ho; cases t <;> simp [ownS] at ho
theorem VgF {hp0 hp : List Blk} {F S0 : Nat → Prop} (hk0 : ∀ id k,kds hp0 id = some k → (φ0 id).2 = k ∧ k ≠ .dead) (hkk : ∀ id k,kds hp0 id ≠ none → kds hp id = some k → k = .dead ∨ k = (φ0 id).2) (hφ : ∀ id,kds hp0 id ≠ none → φ id = (φ0 id).1)
  {k : Kn} (hkn : k ≠ .val) {t : Ty} {v : V} {x : t.I} {u : Value} (h : finK hp k t v = some x) (hv : VR (fun j => (φ0 j).1) (kds hp0) w S0 v u) : VR φ (kds hp) w' F v u := by
 cases k with
 | val => exact absurd rfl hkn
 | own =>
  simp only [finK] at h
  split at h
  ·rename_i ho
   cases v with
   | dat t' y =>
    simp only [ownS,Bool.and_eq_true,decide_eq_true_eq] at ho
    obtain ⟨rfl,hfl⟩ := ho
    obtain ⟨cs,h1,h2⟩ := hv
    exact ⟨cs,V3 _ _ _ hfl h1,h2⟩
   | ref id =>
    rcases hv with h1 | ⟨⟨e2,t2,h1⟩,rfl⟩
    ·exact absurd rfl (hk0 id _ h1).2
    ·have hne : kds hp0 id ≠ none := by rw [h1]; simp
     have hal : ∃ k,kds hp id = some k ∧ k ≠ .dead := by
      cases hb : hp[id]? with
      | none => cases t <;> simp [V.as,hb] at h
      | some b =>
       refine ⟨b.kd,kds_some.2 ⟨b,hb,rfl⟩,fun hd => ?_⟩
       cases b <;> simp [Blk.kd] at hd
       cases t <;> simp [V.as,hb] at h
     obtain ⟨k,k1,k2⟩ := hal
     have k3 := (hkk id k hne k1).resolve_left k2
     rw [(hk0 id _ h1).1] at k3
     subst k3
     exact .inr ⟨⟨e2,t2,k1⟩,(hφ id hne).symm⟩
   | pr b c =>
    obtain ⟨tt,cs,h1,h2⟩ := hv
    exact ⟨tt,cs,Vhu hk0 hkk hφ (.pr b c) t tt x cs ho h h1,h2⟩
   | _ => cases t <;> simp [ownS] at ho
  ·cases h
 | bx e =>
  cases v with
  | ptr id p =>
   cases p with
   | cons _ _ => simp [finK] at h
   | nil =>
    simp only [finK] at h
    split at h
    ·rename_i e' u' c hr
     have k1 : kds hp id = some (.box e' u') := kds_some.2 ⟨_,hr,rfl⟩
     rcases hv with h1 | ⟨e2,t2,g,n,cc,i,q,h1,h2⟩ | ⟨e2,t2,g,h1,h2,h3,h4⟩
     ·exact absurd rfl (hk0 id _ h1).2
     ·have hne : kds hp0 id ≠ none := by rw [h1]; simp
      have k3 := (hkk id _ hne k1).resolve_left (by simp)
      rw [(hk0 id _ h1).1] at k3
      cases k3
     ·have hne : kds hp0 id ≠ none := by rw [h1]; simp
      have k3 := (hkk id _ hne k1).resolve_left (by simp)
      rw [(hk0 id _ h1).1] at k3
      cases k3
      exact .inr (.inr ⟨_,_,g,k1,(hφ id hne).trans h2,h3,h4⟩)
    ·cases h
  | _ => simp [finK] at h
theorem VfK {hp0 hp : List Blk} {F S0 : Nat → Prop} (hk0 : ∀ id k,kds hp0 id = some k → (φ0 id).2 = k ∧ k ≠ .dead) (hkk : ∀ id k,kds hp0 id ≠ none → kds hp id = some k → k = .dead ∨ k = (φ0 id).2) (hφ : ∀ id,kds hp0 id ≠ none → φ id = (φ0 id).1) :
  ∀ (ps : List (Kn × Ty)) (vs : List V) (us : List Value),ps.length = vs.length → All2 (VR (fun j => (φ0 j).1) (kds hp0) w S0) vs us → (∀ q ∈ (ios ps).zip (ioV ps vs),∃ y,finK hp q.1.1 q.1.2 q.2 = some y) → All2 (VR φ (kds hp) w' F) (ioV ps vs) (ioVs ps us) := by
 intro ps
 induction ps with
 | nil => intro vs us hl hv _; cases hv with | nil => exact .nil | cons _ _ => simp at hl
 | cons p ps ih =>
  obtain ⟨k,t⟩ := p
  intro vs us hl hv hf
  cases hv with
  | nil => simp at hl
  | cons h1 h2 =>
   have hl' : ps.length = _ := Nat.succ.inj hl
   cases k with
   | val => exact ih _ _ hl' h2 hf
   | own =>
    obtain ⟨y,hy⟩ := hf ((.own,t),_) (by simp only [ios,ioV,List.zip_cons_cons,List.mem_cons]; exact .inl rfl)
    exact .cons (VgF hk0 hkk hφ (by simp) hy h1) (ih _ _ hl' h2 (fun q hq => hf q (by simp only [ios,ioV,List.zip_cons_cons,List.mem_cons]; exact .inr hq)))
   | bx e =>
    obtain ⟨y,hy⟩ := hf ((.bx e,t),_) (by simp only [ios,ioV,List.zip_cons_cons,List.mem_cons]; exact .inl rfl)
    exact .cons (VgF hk0 hkk hφ (by simp) hy h1) (ih _ _ hl' h2 (fun q hq => hf q (by simp only [ios,ioV,List.zip_cons_cons,List.mem_cons]; exact .inr hq)))
theorem Vd9 {hp : List Blk} : ∀ (ps : List (Kn × Ty)) (vs : List V) (r : Tup (ps.map (·.2))),finT hp ps vs = some r → ∀ q ∈ ps.zip vs,∃ y,finK hp q.1.1 q.1.2 q.2 = some y := by
 intro ps
 induction ps with
 | nil => intro vs r _ q hq; simp at hq
 | cons p ps ih =>
  obtain ⟨k,t⟩ := p
  intro vs r h q hq
  cases vs with
  | nil => simp at hq
  | cons v vs =>
   rw [List.zip_cons_cons,List.mem_cons] at hq
   cases ps with
   | nil =>
    cases vs with
    | nil =>
     simp only [finT] at h
     rcases hq with rfl | hq
     ·exact ⟨_,h⟩
     ·simp at hq
    | cons _ _ => simp [finT] at h
   | cons p2 ps =>
    simp only [finT] at h
    split at h
    ·rename_i y z h1 h2
     rcases hq with rfl | hq
     ·exact ⟨_,h1⟩
     ·exact ih vs z h2 q hq
    ·cases h
theorem VcP : ∀ (p1 p2 : List (Kn × Ty)) (v1 v2 : List V),p1.length = v1.length → idsL (p1 ++ p2) (v1 ++ v2) = idsL p1 v1 ++ idsL p2 v2 := by
 intro p1
 induction p1 with
 | nil => intro p2 v1 v2 h; cases v1 <;> simp_all [idsL]
 | cons p p1 ih =>
  obtain ⟨k,t⟩ := p
  intro p2 v1 v2 h
  cases v1 with
  | nil => simp at h
  | cons v v1 => simp only [List.cons_append,idsL]; rw [ih p2 v1 v2 (by simpa using h)]
theorem VdC : ∀ (p1 p2 : List (Kn × Ty)) (ds : List Dat),p1.length ≤ ds.length → kds' (p1 ++ p2) ds = kds' p1 ds ++ kds' p2 (ds.drop p1.length) := by
 intro p1
 induction p1 with
 | nil => intro p2 ds _; rfl
 | cons p p1 ih =>
  obtain ⟨k,t⟩ := p
  intro p2 ds h
  cases ds with
  | nil => simp at h
  | cons d ds => simp only [List.cons_append,kds',List.length_cons,List.drop_succ_cons]; rw [ih p2 ds (by simpa using h)]
theorem All2.append {α β : Type} {R : α → β → Prop} {l1 l2 : List α} {m1 m2 : List β} (h : All2 R l1 m1) (k : All2 R l2 m2) : All2 R (l1 ++ l2) (m1 ++ m2) := by
 induction h with
 | nil => exact k
 | cons h _ ih => exact .cons h ih
theorem Vea {S : Nat → Prop} : ∀ (ps : List (Kn × Ty)) (ds : List Dat) (vs : List Value) (gs : List (List Nat)),ds.map (·.t) = ps.map (·.2) → KsOk w S (kds' ps ds) vs gs → (ioGs ps gs).flatten = gs.flatten ∧ (ioVs ps vs).length = (ios ps).length ∧ (ioGs ps gs).length = (ios ps).length := by
 intro ps
 induction ps with
 | nil => rintro ds vs gs _ ⟨rfl,rfl⟩; exact ⟨rfl,rfl,rfl⟩
 | cons p ps ih =>
  obtain ⟨k,t⟩ := p
  intro ds vs gs h hk
  cases ds with
  | nil => simp at h
  | cons d ds =>
   simp only [List.map_cons,List.cons.injEq] at h
   obtain ⟨v,l,g0,g1,rfl,rfl,h1,h2⟩ := hk
   obtain ⟨e1,e2,e3⟩ := ih ds l g1 h.2 h2
   cases k with
   | val => obtain ⟨rfl,_⟩ := h1; exact ⟨by simpa [ioGs] using e1,e2,e3⟩
   | own => exact ⟨by simp [ioGs,e1],by simp [ioVs,ios,e2],by simp [ioGs,ios,e3]⟩
   | bx e => exact ⟨by simp [ioGs,e1],by simp [ioVs,ios,e2],by simp [ioGs,ios,e3]⟩
theorem VgG : ∀ (ps : List (Kn × Ty)) (ds : List Dat) (n : Nat),ds.map (·.t) = ps.map (·.2) → idsL (ios ps) (ioV ps (ksV (kds' ps ds) n)) = ioGs ps (ksI (kds' ps ds) n) := by
 intro ps
 induction ps with
 | nil => intro ds n _; rfl
 | cons p ps ih =>
  obtain ⟨k,t⟩ := p
  intro ds n h
  cases ds with
  | nil => simp at h
  | cons d ds =>
   simp only [List.map_cons,List.cons.injEq] at h
   cases k with
   | val => simp only [kds',ksV,ios,ioV,ksI,ioGs]; exact ih ds _ h.2
   | own => simp only [kds',ksV,ios,ioV,ksI,ioGs,idsL]; rw [ih ds _ h.2]
   | bx e => simp only [kds',ksV,ios,ioV,ksI,ioGs,idsL]; rw [ih ds _ h.2]
theorem VeX (f : List Nat → List Nat) : ∀ (ps : List (Kn × Ty)) (l : List (List Nat)),(ioGs ps l).map f = ioGs ps (l.map f) := by
 intro ps
 induction ps with
 | nil => intro l; cases l <;> rfl
 | cons p ps ih =>
  obtain ⟨k,t⟩ := p
  intro l
  cases l with
  | nil => cases k <;> rfl
  | cons g l => cases k <;> simp [ioGs,ih]
theorem Vet (hE : ∀ IO Old : Nat → Prop,EnvOk P E IO Old) {f : FuncId} {fn : Func} {code : Code} {c : Con} (hf : P.funcs[f]? = some fn) (hb : fn.body = some code) (keep : Nat → List Nat)
  (hio : ∀ x : Tup (c.ps.map (·.2)),ioN c.gv (ksB (kds' c.ps (dats _ x))).length = E.io)
  (h : ∀ x r,c.F x = some r → ∃ n,exec E keep n code (fun e s => match e with | .exit _ => none | _ => Vbq E c (kds' c.ps (dats _ x)) fn.results.toList s) (VaY (kds' c.ps (dats _ x)) (fn.ntmps - c.ps.length)) = some r) : Sound P f c := by
 intro x r hF w vs gs Old hO hn hlt hks
 obtain ⟨n,hex⟩ := h x r hF
 have hdx := Var _ x
 obtain ⟨φ0,ow,fs,hfs,hφfs,hkfs,hvr0,hgs0,hrel⟩ := entry hks hO hn hlt (fn.ntmps - c.ps.length) c.gv
 rw [hio x] at hrel
 have hvl : vs.length = c.ps.length := by
  have h1 := (VcX _ _ _ hks).1
  have h2 := congrArg List.length hdx
  simp only [List.length_map] at h2
  rw [VaQ _ _ (by omega)] at h1
  exact h1
 refine calls_of_wp hf hb ?_
 have htm : vs.toArray ++ Array.replicate (fn.ntmps - vs.toArray.size) undef = (vs ++ List.replicate (fn.ntmps - c.ps.length) undef).toArray := by
  apply Array.ext'
  simp [hvl]
 rw [htm]
 refine VdB (hE _ _) keep n code _ _ _ _ _ hex ⟨_,_,hrel⟩ fun e s a w' hk hr => ?_
 have key : Vbq E c (kds' c.ps (dats _ x)) fn.results.toList s = some r → a.defers = [] ∧ ∃ v,(results fn a.tmps).run P w' = .ok v w' ∧ ∃ us hs,Ending.returned v = .returned (retOf us) ∧ us.length = c.rs.length ∧ (hs.flatten ++ kpG c.gv gs).Nodup ∧ (∀ h ∈ hs.flatten,(w.heap.size ≤ h ∨ h ∈ gvG c.gv gs) ∧ h < w'.heap.size) ∧
   KsOk w' (Aft (fun b => Old b ∨ b ∈ gvG c.gv gs) w w' (hs.flatten ++ kpG c.gv gs)) (kds' c.rs (dats _ r)) us hs ∧
   KsOk w' (Aft (fun b => Old b ∨ b ∈ gvG c.gv gs) w w' (hs.flatten ++ kpG c.gv gs)) (kds' (iosG c.gv c.ps) ((dats _ r).drop c.rs.length)) (ioVsG c.gv c.ps vs) (ioGsG c.gv c.ps gs) ∧
   (∀ b,b < w.heap.size → b ∉ gs.flatten → w'.heap[b]? = w.heap[b]?) ∧ w.heap.size ≤ w'.heap.size ∧ w'.os = w.os ∧ w'.tape = w.tape ∧ w'.output = w.output := by
  intro hfin
  obtain ⟨ow0,φ',hr⟩ := hr
  unfold Vbq at hfin
  obtain ⟨ow',hr⟩ := VY (Vbp E c fn.results.toList s) s ow0 φ' (fun i hi => by
   unfold Vbp at hi
   split at hi
   ·simpa using (List.mem_filter.1 hi).2
   ·cases hi) hr
  generalize s.freezes (Vbp E c fn.results.toList s) = s at hr hfin
  unfold VdU at hfin
  split at hfin
  rotate_left
  ·cases hfin
  rename_i rv hrv
  split at hfin
  rotate_left
  ·cases hfin
  rename_i hc
  simp only [Bool.and_eq_true,decide_eq_true_eq] at hc
  obtain ⟨hnd,hrl⟩ := hc
  have hnd := VaJ _ hnd
  obtain ⟨us,hus,hrun⟩ := VbC (hE _ _) hr hrv
  have hul := hus.length
  -- the parameters that were written
  have hlk : (kds (ksB (kds' c.ps (dats _ x)))) = kds (ksB (kds' c.ps (dats _ x))) := rfl
  have hlen : c.gv = false → (ksB (kds' c.ps (dats _ x))).length = E.io := fun hg => by rw [← hio x,hg]; rfl
  have hne : c.gv = false → ∀ id,kds (ksB (kds' c.ps (dats _ x))) id ≠ none → id < E.io := fun hg id hh => by
   cases hk : kds (ksB (kds' c.ps (dats _ x))) id with
   | none => exact absurd hk hh
   | some k => rw [← hlen hg]; exact VZ hk
  have hpl : c.ps.length = (ksV (kds' c.ps (dats _ x)) 0).length := by rw [hvr0.length,hvl]
  have hioe : All2 (VR φ' (kds s.hp) w' (Fz ow' w' (fun b => Old b ∨ b ∈ gvG c.gv gs) w.heap.size)) (ioVG c.gv c.ps (ksV (kds' c.ps (dats _ x)) 0)) (ioVsG c.gv c.ps vs) := by
   cases hg : c.gv
   rotate_left
   ·exact .nil
   show All2 _ (ioV c.ps (ksV (kds' c.ps (dats _ x)) 0)) (ioVs c.ps vs)
   refine VfK (φ0 := φ0) ?_ (fun id k hh hk => hr.k0 id k (hne hg id hh) hk) (fun id hh => hr.f0 id (hne hg id hh)) c.ps _ _ hpl hvr0 (fun q hq => ?_)
   ·intro id k hk
    refine ⟨hkfs id k hk,?_⟩
    rintro rfl
    obtain ⟨b,hb1,hb2⟩ := kds_some.1 hk
    obtain ⟨v,_,hv2⟩ := (VaX _ _ _ hfs).2 id b hb1
    cases b <;> simp [Blk.kd] at hb2
    exact hv2
   ·refine Vd9 _ _ _ hfin q ?_
    rw [List.zip_append hrl.symm]
    refine List.mem_append_right _ ?_
    rw [hg]; exact hq
  have hall := hus.append hioe
  obtain ⟨_,hown⟩ := Vba (S' := fun _ => True) hr.hp (fun _ _ => trivial) _ _ _ _ hall hfin
  have hids : idsL (c.rs ++ iosG c.gv c.ps) (rv ++ ioVG c.gv c.ps (ksV (kds' c.ps (dats _ x)) 0)) = idsL c.rs rv ++ idsL (iosG c.gv c.ps) (ioVG c.gv c.ps (ksV (kds' c.ps (dats _ x)) 0)) := VcP _ _ _ _ hrl.symm
  rw [hids] at hown
  have hioids : (idsL (iosG c.gv c.ps) (ioVG c.gv c.ps (ksV (kds' c.ps (dats _ x)) 0))).flatten = List.range E.io := by
   cases hg : c.gv
   ·show (idsL (ios c.ps) (ioV c.ps _)).flatten = _
    rw [VgE _ _ _ hdx,hlen hg,List.range_eq_range']
   ·rw [← hio x,hg]; rfl
  have hiog : (idsL (iosG c.gv c.ps) (ioVG c.gv c.ps (ksV (kds' c.ps (dats _ x)) 0))).map (Vo φ') = ioGsG c.gv c.ps gs := by
   cases hg : c.gv
   rotate_left
   ·rfl
   show (idsL (ios c.ps) (ioV c.ps _)).map (Vo φ') = ioGs c.ps gs
   rw [VgG _ _ _ hdx,VeX,hgs0 φ' (fun j v hv => ?_)]
   have hj := (List.getElem?_eq_some_iff.1 hv).1
   rw [Vaj _ _ _ hfs,hlen hg] at hj
   rw [hr.f0 j hj]; exact hφfs j v hv
  obtain ⟨hgf,hgl1,hgl2⟩ := Vea c.ps _ vs gs hdx hks
  let hs := (idsL c.rs rv).map (Vo φ')
  have hhs : hs.flatten = Vo φ' (idsL c.rs rv).flatten := Vaw _
  have hgs : kpG c.gv gs = Vo φ' (List.range E.io) := by
   cases hg : c.gv
   ·show gs.flatten = _
    rw [← hgf,← hioids,← Vaw,hiog,hg]; rfl
   ·rw [← hio x,hg]; rfl
  have hown' : ∀ id ∈ (idsL c.rs rv).flatten ++ List.range E.io,∀ g,blkOf (φ' id) = some g → ow' g = some id := by
   rw [List.flatten_append,hioids] at hown; exact hown
  have hboth : hs.flatten ++ kpG c.gv gs = Vo φ' ((idsL c.rs rv).flatten ++ List.range E.io) := by rw [hhs,hgs]; simp [Vo]
  have hF : ∀ b,Fz ow' w' (fun b => Old b ∨ b ∈ gvG c.gv gs) w.heap.size b → Aft (fun b => Old b ∨ b ∈ gvG c.gv gs) w w' (hs.flatten ++ kpG c.gv gs) b := by
   rintro b ⟨h1,h2,h3⟩
   refine ⟨h3,h2,fun hm => ?_⟩
   rw [hboth] at hm
   obtain ⟨id,i1,i2⟩ := Vaq hm
   rw [hown' id i1 b i2] at h1; cases h1
  obtain ⟨hks',_⟩ := Vba (S' := Aft (fun b => Old b ∨ b ∈ gvG c.gv gs) w w' (hs.flatten ++ kpG c.gv gs)) hr.hp hF _ _ _ _ hall hfin
  have hdr := Var _ r
  have hdl : c.rs.length ≤ (dats _ r).length := by
   have := congrArg List.length hdr
   simp only [List.length_map,List.length_append] at this
   omega
  rw [hids,List.map_append (f := Vo φ'),hiog,VdC _ _ _ hdl] at hks'
  obtain ⟨hk1,hk2⟩ := Vdv _ _ _ _ _ _ (by rw [VaQ _ _ hdl,← hul,hrl]) (by rw [VaQ _ _ hdl,List.length_map,VcY _ _ hrl.symm,hrl]) hks'
  refine ⟨hr.dl,_,hrun,us,hs,rfl,by omega,?_,fun g hg => ?_,hk1,hk2,hr.fr,hr.sz,hr.mt⟩
  ·rw [hboth]; exact Vbo _ hnd hown'
  ·rw [hhs] at hg
   obtain ⟨id,i1,i2⟩ := Vaq hg
   have hog := hown' id (List.mem_append_left _ i1) g i2
   obtain ⟨o1,o2,_⟩ := hr.own g id hog
   refine ⟨?_,o1⟩
   rcases o2 with o2 | ⟨o3,o4⟩
   ·exact .inl o2
   ·refine .inr ?_
    rcases o4 with o4 | o4 | o4
    ·exact absurd rfl ((List.nodup_append.1 hnd).2.2 id i1 id (List.mem_range.2 o4))
    ·exact absurd o3 (hO g o4).2
    ·exact o4
 cases e with
 | normal => exact key hk
 | ret => exact key hk
 | exit id => simp at hk
end
end Go.Ev

namespace Go.Ev
set_option linter.unusedVariables false
set_option linter.unusedSimpArgs false
open Go.RowKit
variable {ρ : Type} {P : Program}
def VeY : Value → Value → Bool
 | .int k n, .int k' n' => k = k' && n = n'
 | .bool b, .bool b' => b == b'
 | .string s, .string t => s.size == 0 && t.size == 0
 | .slice none 0 0, .slice none 0 0 => true
 | _, _ => false
def VaR : List Value → List Value → Bool
 | [], [] => true
 | a :: l, b :: m => VeY a b && VaR l m
 | _, _ => false
theorem VeZ {a b : Value} (h : VeY a b = true) : a = b := by
 unfold VeY at h
 split at h
 ·simp at h; rw [h.1, h.2]
 ·simp at h; rw [h]
 ·simp only [Bool.and_eq_true, beq_iff_eq] at h
  rename_i s t
  have hs : s = ByteArray.empty := by
   cases s with | mk d => have := h.1; simp [ByteArray.size] at this; rw [this]; rfl
  have ht : t = ByteArray.empty := by
   cases t with | mk d => have := h.2; simp [ByteArray.size] at this; rw [this]; rfl
  rw [hs, ht]
 ·rfl
 ·cases h
theorem Vb5 : ∀ (l m : List Value), VaR l m = true → l = m := by
 intro l
 induction l with
 | nil => intro m h; cases m <;> simp [VaR] at h; rfl
 | cons a l ih =>
  intro m h
  cases m with
  | nil => simp [VaR] at h
  | cons b m => simp only [VaR, Bool.and_eq_true] at h; rw [VeZ h.1, ih _ h.2]
structure TRow where
 id : TypeId
 ty : Ty
 n : Nat
 bytes : Nat
def tabT (tab : List TRow) : Tab := fun t => match tab.find? (fun r => r.id == t) with | some r => some (r.ty, r.n) | none => none
def tabB (tab : List TRow) : TypeId → Nat := fun t => match tab.find? (fun r => r.id == t) with | some r => r.bytes | none => 0
def valB (ty : Ty) (z : Value) : Bool := if isAgg ty then (match z with | .agg c => VaR c.toList (zc ty) | _ => false) else VaR (zc ty) [z]
def VcA (tab : List TRow) (ty : Ty) (n : Nat) (fs : Array Field) : Nat → Bool
 | 0 => true
 | k + 1 => VcA tab ty n fs k && (match fs[k]? with
  | some fd => fd.offset == Ty.off (steps n k) ty && (match tabT tab fd.type with
   | some (tf, _) => (match Ty.sub (steps n k) ty with | some tf' => tf'.le tf && tf.sz != 0 | none => false)
   | none => false)
  | none => false)
def descB (P : Program) (tab : List TRow) (t : TypeId) (ty : Ty) (n : Nat) : Bool :=
 match ty, P.underlying t with
 | .int k, some (.int k') => k = k' && n == 0
 | .bool, some .bool => n == 0
 | .str, some .string => n == 0
 | .sl e u, some (.slice e') => e == e' && n == 0 && (match tabT tab e with | some (u', _) => u' == u | none => false)
 | .pair a b, some (.struct fs) => fs.size == n && VcA tab (.pair a b) n fs n
 | .arr m u, some (.array m' e) => m == m' && n == 0 && (match tabT tab e with | some (u', _) => u' == u | none => false)
 | _, _ => false
def rowB (P : Program) (tab : List TRow) (r : TRow) : Bool :=
 (match P.info? r.id with
 | some i => i.size == r.ty.sz && i.bytes == r.bytes && (match i.zero with | some z => valB r.ty z | none => false)
 | none => false) && descB P tab r.id r.ty r.n
theorem Veu {tab : List TRow} {ty : Ty} {n : Nat} {fs : Array Field} : ∀ k, VcA tab ty n fs k = true → ∀ f fd, f < k → fs[f]? = some fd → fd.offset = Ty.off (steps n f) ty ∧ ∃ tf m, tabT tab fd.type = some (tf, m) ∧ ∃ tf', Ty.sub (steps n f) ty = some tf' ∧ tf'.le tf = true ∧ tf.sz ≠ 0 := by
 intro k
 induction k with
 | zero => intro _ f fd h; omega
 | succ k ih =>
  intro h f fd hf hfd
  simp only [VcA, Bool.and_eq_true] at h
  by_cases hk : f = k
  ·subst hk
   rw [hfd] at h
   simp only [Bool.and_eq_true, beq_iff_eq] at h
   obtain ⟨_, h1, h2⟩ := h
   refine ⟨h1, ?_⟩
   split at h2
   ·rename_i tf m ht
    split at h2
    ·rename_i tf' hs
     simp only [Bool.and_eq_true, beq_iff_eq, bne_iff_ne] at h2
     exact ⟨tf, m, ht, tf', hs, h2.1, h2.2⟩
    ·cases h2
   ·cases h2
  ·exact ih h.1 f fd (by omega) hfd
theorem Vbv {tab : List TRow} {t : TypeId} {ty : Ty} {n : Nat} (h : tabT tab t = some (ty, n)) : ∃ r ∈ tab, r.id = t ∧ r.ty = ty ∧ r.n = n ∧ tabB tab t = r.bytes := by
 unfold tabT at h
 split at h
 ·rename_i r hr
  cases h
  have h1 := List.find?_some hr
  simp only [beq_iff_eq] at h1
  exact ⟨r, List.mem_of_find?_eq_some hr, h1, rfl, rfl, by unfold tabB; rw [hr]⟩
 ·cases h
theorem Vbw {tab : List TRow} (h : tab.all (rowB P tab) = true) : (∀ t ty n, tabT tab t = some (ty, n) → TyOk P (tabT tab) t ty n) ∧ ∀ t x, tabT tab t = some x → ∀ i, P.info? t = some i → i.bytes = tabB tab t := by
 rw [List.all_eq_true] at h
 refine ⟨fun t ty n ht => ?_, fun t x ht i hi => ?_⟩
 ·obtain ⟨r, h1, rfl, rfl, rfl, _⟩ := Vbv ht
  have h2 := h r h1
  simp only [rowB, Bool.and_eq_true] at h2
  obtain ⟨h3, h4⟩ := h2
  split at h3
  ·rename_i i hi
   simp only [Bool.and_eq_true, beq_iff_eq] at h3
   obtain ⟨⟨h5, h6⟩, h7⟩ := h3
   split at h7
   ·rename_i z hz
    have hval : Val r.ty z (zc r.ty) := by
     unfold valB at h7
     unfold Val
     split at h7
     ·rename_i ha
      rw [if_pos ha]
      split at h7
      ·rename_i c
       have := Vb5 _ _ h7
       rw [← this]
      ·cases h7
     ·rename_i ha
      rw [if_neg ha]
      exact Vb5 _ _ h7
    generalize hty : r.ty = ty at *
    generalize hn : r.n = n at *
    unfold descB at h4
    split at h4
    ·rename_i k k' hd
     simp only [Bool.and_eq_true, decide_eq_true_eq, beq_iff_eq] at h4
     obtain ⟨rfl, rfl⟩ := h4
     exact ⟨⟨i, hi, h5, z, hz, hval⟩, fun h => absurd rfl h, hd⟩
    ·rename_i hd
     simp only [beq_iff_eq] at h4
     subst h4
     exact ⟨⟨i, hi, h5, z, hz, hval⟩, fun h => absurd rfl h, hd⟩
    ·rename_i hd
     simp only [beq_iff_eq] at h4
     subst h4
     exact ⟨⟨i, hi, h5, z, hz, hval⟩, fun h => absurd rfl h, hd⟩
    ·rename_i e u e' hd
     simp only [Bool.and_eq_true, beq_iff_eq] at h4
     obtain ⟨⟨rfl, rfl⟩, h8⟩ := h4
     split at h8
     ·rename_i u' m hu
      simp only [beq_iff_eq] at h8
      subst h8
      exact ⟨⟨i, hi, h5, z, hz, hval⟩, fun h => absurd rfl h, hd, m, hu⟩
     ·cases h8
    ·rename_i a b fs hd
     simp only [Bool.and_eq_true, beq_iff_eq] at h4
     exact ⟨⟨i, hi, h5, z, hz, hval⟩, fun _ => ⟨a, b, rfl⟩, fs, hd, h4.1, fun f fd hf => Veu _ h4.2 f fd (by have := (Array.getElem?_eq_some_iff.1 hf).1; omega) hf⟩
    ·rename_i m u m' e hd
     simp only [Bool.and_eq_true, beq_iff_eq] at h4
     obtain ⟨⟨rfl, rfl⟩, h8⟩ := h4
     split at h8
     ·rename_i u' m2 hu
      simp only [beq_iff_eq] at h8
      subst h8
      exact ⟨⟨i, hi, h5, z, hz, hval⟩, fun h => absurd rfl h, e, hd, m2, hu⟩
     ·cases h8
    ·cases h4
   ·cases h7
  ·cases h3
 ·obtain ⟨r, h1, rfl, _, _, h2⟩ := Vbv (ty := x.1) (n := x.2) ht
  have h3 := h r h1
  simp only [rowB, Bool.and_eq_true] at h3
  obtain ⟨h3, _⟩ := h3
  rw [hi] at h3
  simp only [Bool.and_eq_true, beq_iff_eq] at h3
  rw [h2]; exact h3.1.2
def Good (P : Program) (f : FuncId) (c : Con) : Prop := Sound P f c ∧ ∃ fn, P.funcs[f]? = some fn ∧ fn.body.isSome = true ∧ fn.name ≠ "runtime.NumGoroutine" ∧ c.rs ≠ []
def Goods (P : Program) : List (FuncId × Con) → Prop
 | [] => True
 | (f, c) :: r => Good P f c ∧ Goods P r
def conOf : List (FuncId × Con) → FuncId → Option Con
 | [], _ => none
 | (g, c) :: r, f => if g = f then some c else conOf r f
theorem Goods.get : ∀ (l : List (FuncId × Con)) (f : FuncId) (c : Con), Goods P l → conOf l f = some c → Good P f c := by
 intro l
 induction l with
 | nil => intro f c _ h; cases h
 | cons p l ih =>
  obtain ⟨g, d⟩ := p
  intro f c h k
  simp only [conOf] at k
  split at k
  ·cases k; subst_vars; exact h.1
  ·exact ih f c h.2 k
def envOf (tab : List TRow) (cs : List (FuncId × Con)) (io : Nat) (mv : Bool) : Env := { io, T := tabT tab, C := conOf cs, bytes := tabB tab, mv }
def leafB (P : Program) (t : TypeId) (ty : Ty) : Bool := match ty, P.underlying t with
 | .int k, some (.int k') => decide (k = k')
 | .bool, some .bool => true
 | .str, some .string => true
 | _, _ => false
def fldsB (P : Program) : Ty → Nat → List Field → Bool
 | .pair a b, off, f :: l => f.offset == off && !(f.name == "_") && leafB P f.type a && fldsB P b (off + 1) l
 | t, off, [f] => f.offset == off && !(f.name == "_") && leafB P f.type t
 | _, _, _ => false
def eqB (P : Program) (r : TRow) : Bool := !r.ty.leafs || (match P.underlying r.id with
 | some (.struct fs) => !(P.stoodInHeld r.id) && !(P.eqGuardType P.depth r.id) && fldsB P r.ty 0 fs.toList
 | _ => false)
theorem VcQ {t : TypeId} {ty : Ty} (h : leafB P t ty = true) : leafP P t ty := by
 unfold leafB at h
 split at h
 ·rename_i hu; simp only [decide_eq_true_eq] at h; subst h; exact hu
 ·rename_i hu; exact hu
 ·rename_i hu; exact hu
 ·cases h
theorem Vfv : ∀ (ty : Ty) (off : Nat) (l : List Field), fldsB P ty off l = true → Vcw P ty off l := by
 intro ty
 induction ty with
 | pair a b iha ihb =>
  intro off l h
  cases l with
  | nil => simp [fldsB] at h
  | cons f l =>
   simp only [fldsB, Bool.and_eq_true, beq_iff_eq, Bool.not_eq_true'] at h
   exact ⟨h.1.1.1, h.1.1.2, VcQ h.1.2, ihb _ _ h.2⟩
 | _ =>
  intro off l h
  match l with
  | [] => simp [fldsB] at h
  | [f] =>
   simp only [fldsB, Bool.and_eq_true, beq_iff_eq, Bool.not_eq_true'] at h
   exact ⟨h.1.1, h.1.2, VcQ h.2⟩
  | f :: g :: l => simp [fldsB] at h
def okB (P : Program) (tab : List TRow) : Bool := P.follows .mixedOrders && (tab.all (eqB P) && tab.all (rowB P tab))
theorem envOk {tab : List TRow} (h : okB P tab = true) {cs : List (FuncId × Con)} (hc : Goods P cs) (io : Nat) (mv : Bool) (IO Old : Nat → Prop) : EnvOk P (envOf tab cs io mv) IO Old where
 mo := by unfold okB at h; simp only [Bool.and_eq_true] at h; exact h.1
 ty := (Vbw (by unfold okB at h; simp only [Bool.and_eq_true] at h; exact h.2.2)).1
 eq' := fun t ty n ht hl => by
  unfold okB at h
  simp only [Bool.and_eq_true] at h
  obtain ⟨r, h1, rfl, rfl, rfl, _⟩ := Vbv ht
  have h2 := List.all_eq_true.1 h.2.1 r h1
  unfold eqB at h2
  rw [hl] at h2
  simp only [Bool.not_true, Bool.false_or] at h2
  split at h2
  ·rename_i fs hu
   simp only [Bool.and_eq_true, Bool.not_eq_true'] at h2
   exact ⟨fs, hu, h2.1.1, h2.1.2, Vfv _ _ _ h2.2⟩
  ·cases h2
 by' := (Vbw (by unfold okB at h; simp only [Bool.and_eq_true] at h; exact h.2.2)).2
 con := fun f c hf => Goods.get cs f c hc hf
 fo := fun h => by cases h
def Vh (fn : Func) : Code := match fn.body with | some c => c | none => .skip
noncomputable def NN : Nat := Classical.choose (⟨2 ^ 60, rfl⟩ : ∃ n : Nat, n = 2 ^ 60)
theorem NN_eq : NN = 2 ^ 60 := Classical.choose_spec (⟨2 ^ 60, rfl⟩ : ∃ n : Nat, n = 2 ^ 60)
def kEnd (E : Env) (fn : Func) (c : Con) (x : Tup (c.ps.map (·.2))) : Ex → St → Option (Tup ((c.rs ++ iosG c.gv c.ps).map (·.2))) := fun e s => match e with
 | .exit _ => none
 | _ => Vbq E c (kds' c.ps (dats _ x)) fn.results.toList s
noncomputable def bodyF (E : Env) (keep : Nat → List Nat) (n : Nat) (fn : Func) (c : Con) (x : Tup (c.ps.map (·.2))) : Option (Tup ((c.rs ++ iosG c.gv c.ps).map (·.2))) :=
 exec E keep n (Vh fn) (kEnd E fn c x) (VaY (kds' c.ps (dats _ x)) (fn.ntmps - c.ps.length))
theorem Vg {tab : List TRow} (h : okB P tab = true) {cs : List (FuncId × Con)} (hc : Goods P cs) (io : Nat) (mv : Bool) {f : FuncId} {fn : Func} {c : Con} (hf : P.funcs[f]? = some fn) (hb : fn.body.isSome = true) (hn : fn.name ≠ "runtime.NumGoroutine") (hrs : c.rs ≠ []) (keep : Nat → List Nat) (n : Nat)
  (hio : ∀ x : Tup (c.ps.map (·.2)), ioN c.gv (ksB (kds' c.ps (dats _ x))).length = io) (hx : ∀ x, bodyF (envOf tab cs io mv) keep n fn c x = c.F x) : Good P f c :=
 ⟨Vet (code := Vh fn) (envOk h hc io mv) hf (by unfold Vh; cases hb' : fn.body <;> simp_all) keep hio (fun x r hr => ⟨n, (hx x).trans hr⟩), fn, hf, hb, hn, hrs⟩
end Go.Ev

namespace Go.Ev
set_option linter.unusedVariables false
set_option linter.unusedSimpArgs false
open Go.RowKit
variable {P : Program}
def Fit (B : TypeId → Nat) : (t : Ty) → t.I → Prop
 | .int k,n => (Lit.int k n).wf = true
 | .bool,_ => True
 | .str,s => s.size ≤ reachBytes
 | .sl e t,xs => xs.length * B e ≤ reachBytes ∧ ∀ x ∈ xs,Fit B t x
 | .slb e t,xs => (xs.1.length + xs.2.length) * B e ≤ reachBytes ∧ ∀ x ∈ xs.1 ++ xs.2,Fit B t x
 | .pair a b,x => Fit B a x.1 ∧ Fit B b x.2
 | .arr n t,xs => xs.length = n ∧ ∀ x ∈ xs,Fit B t x
section
variable {H : Type} {enc : TypeId × Value → H} {w : World} {base : Nat} {spare : Nat → Bool} {held : Bool} {S : Nat → Prop} {B : TypeId → Nat}
theorem VgH : ∀ (n : Nat) (ty : Ty) (cs : List Value),1 ≤ n → cs.length = ty.sz →
  (∀ f,f < n → ∃ tf,Ty.sub (steps n f) ty = some tf ∧ ∃ y,Rs w S tf y ((cs.drop (Ty.off (steps n f) ty)).take tf.sz) ∧ Fit B tf y) → ∃ y,Rs w S ty y cs ∧ Fit B ty y := by
 intro n
 induction n with
 | zero => intro ty cs h; omega
 | succ n ih =>
  intro ty cs _ hl h
  cases n with
  | zero =>
   obtain ⟨tf,h1,y,h2,h3⟩ := h 0 (by omega)
   simp only [steps,Ty.sub,Option.some.injEq] at h1
   subst h1
   simp only [steps,Ty.off,List.drop_zero,← hl,List.take_length] at h2
   exact ⟨y,h2,h3⟩
  | succ n =>
   obtain ⟨tf,h1,y,h2,h3⟩ := h 0 (by omega)
   cases ty with
   | pair a b =>
    simp only [steps,Ty.sub,Option.some.injEq] at h1
    subst h1
    simp only [steps,Ty.off,List.drop_zero] at h2
    simp only [Ty.sz] at hl
    obtain ⟨z,h4,h5⟩ := ih b (cs.drop a.sz) (by omega) (by rw [List.length_drop]; omega) (fun f hf => by
     obtain ⟨tg,k1,u,k2,k3⟩ := h (f + 1) (by omega)
     simp only [steps,Ty.sub] at k1
     simp only [steps,Ty.off] at k2
     exact ⟨tg,k1,u,by rw [List.drop_drop]; exact k2,k3⟩)
    exact ⟨(y,z),⟨_,_,(List.take_append_drop a.sz cs).symm,h2,h4⟩,h3,h5⟩
   | _ => simp [steps,Ty.sub] at h1
theorem VcR {α : Type} {R : Nat → α → Prop} : ∀ (n : Nat),(∀ i,i < n → ∃ x,R i x) → ∃ xs : List α,xs.length = n ∧ ∀ i x,xs[i]? = some x → R i x := by
 intro n
 induction n with
 | zero => intro _; exact ⟨[],rfl,fun i x h => by simp at h⟩
 | succ n ih =>
  intro h
  obtain ⟨xs,h1,h2⟩ := ih fun i hi => h i (by omega)
  obtain ⟨x,hx⟩ := h n (by omega)
  refine ⟨xs ++ [x],by simp [h1],fun i y hy => ?_⟩
  by_cases hi : i < xs.length
  ·rw [List.getElem?_append_left hi] at hy; exact h2 i y hy
  ·rw [List.getElem?_append_right (by omega)] at hy
   have : i - xs.length = 0 := by
    rcases Nat.eq_zero_or_pos (i - xs.length) with h | h
    ·exact h
    ·rw [List.getElem?_eq_none (by simp; omega)] at hy; cases hy
   rw [this] at hy
   simp at hy
   subst hy
   have : i = n := by omega
   subst this; exact hx
theorem VbN {t : TypeId} {d : DataW H} : ∀ (ds : List (DataW H)),d ∈ ds → ∀ m ∈ d.weights P t,m ∈ DataW.weightsAll P t ds := by
 intro ds
 induction ds with
 | nil => intro h; cases h
 | cons e r ih =>
  intro h m hm
  simp only [DataW.weightsAll,List.mem_append]
  rcases List.mem_cons.1 h with rfl | h
  ·exact .inl hm
  ·exact .inr (ih h m hm)
theorem Vbr {T : Tab} {t : TypeId} {ty : Ty} {n : Nat} (h : TyOk P T t ty n) : P.cellsOf t = ty.sz := by
 obtain ⟨i,h1,h2,_⟩ := h.info
 unfold Program.cellsOf
 rw [h1]; exact h2
theorem Vik {T : Tab} (hT : ∀ t ty n,T t = some (ty,n) → TyOk P T t ty n) (hB : ∀ t x,T t = some x → P.bytesOf t = B t) (hpos : ∀ t ty n,T t = some (ty,n) → ty.sz ≠ 0 ∧ ((n = 0 → ∀ a b,ty ≠ .pair a b) ∧ ty.noB = true)) :
  ∀ (fuel : Nat) (t : TypeId) (ty : Ty) (n : Nat) (cs : List Value) (x : DataW H × List MemPlace),T t = some (ty,n) → DataW.trod enc P w base spare held fuel t cs = some x → (∀ m ∈ x.1.weights P t,m ≤ reachBytes) →
   ∃ y : ty.I,Rs w (fun b => b < w.heap.size) ty y cs ∧ Fit B ty y := by
 intro fuel
 induction fuel with
 | zero => intro t ty n cs x _ h; simp [DataW.trod] at h
 | succ fuel ih =>
  intro t ty n cs x ht h hw
  have hok := hT t ty n ht
  have hdesc := hok.desc
  cases ty with
  | int k => obtain ⟨m,rfl,rfl,h2⟩ := DataW.trod_int hdesc h; exact ⟨m,rfl,h2⟩
  | bool => obtain ⟨m,rfl,rfl⟩ := DataW.trod_bool hdesc h; exact ⟨m,rfl,trivial⟩
  | str =>
   obtain ⟨m,rfl,rfl,h2⟩ := DataW.trod_string hdesc h
   refine ⟨m,rfl,hw m.size ?_⟩
   simp only [DataW.weights,List.mem_singleton,Array.length_toList]
   rfl
  | sl e u =>
   obtain ⟨h1,m,h2⟩ := hdesc
   have hu := hT _ _ _ h2
   have hsz := Vbr hu
   have hp := (hpos _ _ _ h2).1
   rcases DataW.trod_slice h1 h with ⟨rfl,rfl⟩ | ⟨a,len,cap,elems,rest,m',hm',rfl,rfl,hb,hl,hm,hlen,hel,_,_⟩
   ·exact ⟨[],⟨none,0,rfl,Nat.le_refl _,fun i x hx => by simp at hx⟩,by simp,fun x hx => by cases hx⟩
   ·cases hm'
    have hwt : (elems.length + rest.length) * P.bytesOf e ≤ reachBytes ∧ ∀ d ∈ elems.map (·.1),∀ m ∈ d.weights P e,m ≤ reachBytes := by
     simp only [DataW.weights,h1,List.length_map] at hw
     exact ⟨hw _ List.mem_cons_self,fun d hd m hm => hw m (List.mem_cons_of_mem _ (List.mem_append.2 (.inl (VbN _ hd m hm))))⟩
    obtain ⟨ys,k1,k2⟩ := VcR (R := fun i (y : u.I) => ∃ cs',w.cells? base (a.add (i * P.cellsOf e)) (P.cellsOf e) = some cs' ∧ Rs w (fun b => b < w.heap.size) u y cs' ∧ Fit B u y) len (fun i hi => by
     have h3 := hel i hi
     rw [List.getElem?_eq_getElem (by omega)] at h3
     obtain ⟨cs',h4,h5⟩ := Option.bind_eq_some_iff.1 h3
     obtain ⟨y,h6,h7⟩ := ih e u m cs' _ h2 h5 (hwt.2 _ (List.mem_map.2 ⟨_,List.getElem_mem _,rfl⟩))
     exact ⟨y,cs',h4,h6,h7⟩)
    refine ⟨ys,⟨some a,cap,by rw [k1],by omega,fun i y hy => ?_⟩,?_,fun y hy => ?_⟩
    ·have hi0 := (List.getElem?_eq_some_iff.1 hy).1
     have hsp : a.spot = none ∧ a.block < w.heap.size := by
      obtain ⟨cs',h4,h5,_⟩ := k2 0 _ (List.getElem?_eq_getElem (by omega))
      obtain ⟨h6,h7,h8⟩ := World.cells?_some h4
      have hcs := VA _ _ _ h5
      rw [hsz] at h7 h8
      have h9 := h8 0 (by omega)
      rw [List.getElem?_eq_getElem (by omega)] at h9
      have e1 := World.cell?_spot h9
      have e2 := Vcv h9
      simp only [Nat.zero_mul,Addr.add,if_true] at e1 e2
      exact ⟨e1,e2⟩
     obtain ⟨ab,ao,asp⟩ := a
     obtain ⟨rfl,hblk⟩ := hsp
     obtain ⟨cs',h4,h5,_⟩ := k2 i y hy
     obtain ⟨h6,h7,h8⟩ := World.cells?_some h4
     have hcs := VA _ _ _ h5
     rw [hsz] at h7 h8
     refine ⟨_,cs',rfl,rfl,hblk,h5,fun j v hv => ?_⟩
     have hj := (List.getElem?_eq_some_iff.1 hv).1
     have h10 := h8 j (by omega)
     rw [hv] at h10
     have e3 : ∀ (b o k : Nat),(⟨b,o,none⟩ : Addr).add k = ⟨b,o + k,none⟩ := fun b o k => by
      unfold Addr.add
      split
      ·subst_vars; rfl
      ·rfl
     rw [e3,e3] at h10
     exact h10
    ·rw [k1,← hlen,← hB _ _ h2]
     exact Nat.le_trans (Nat.mul_le_mul_right _ (Nat.le_add_right _ _)) hwt.1
    ·obtain ⟨i,hi⟩ := List.mem_iff_getElem?.1 hy
     obtain ⟨_,_,_,h⟩ := k2 i y hi
     exact h
  | slb e u => exact hdesc.elim
  | pair a b =>
   obtain ⟨fs,h1,h2,h3⟩ := hdesc
   obtain ⟨xs,m,hm,rfl,hcl,hxl,hx⟩ := DataW.trod_struct h1 h
   cases hm
   have hn : 1 ≤ n := by
    rcases Nat.eq_zero_or_pos n with h0 | h0
    ·exact absurd rfl ((hpos _ _ _ ht).2.1 h0 a b)
    ·exact h0
   refine VgH n (.pair a b) cs hn (by rw [hcl,Vbr hok]) fun f hf => ?_
   have hfl : f < fs.size := by omega
   have hfd : fs[f]? = some fs[f] := Array.getElem?_eq_getElem hfl
   obtain ⟨h4,tf,m,h5,tf1,h6,hle,h7⟩ := h3 f _ hfd
   have hnb : tf1 = tf := ViL _ _ (Vh4 _ _ _ (hpos _ _ _ ht).2.2 h6) hle
   rw [hnb] at h6
   have h8 := hx f _ hfd
   rw [List.getElem?_eq_getElem (by omega),Vbr (hT _ _ _ h5),h4] at h8
   obtain ⟨y,h9,h10⟩ := ih _ tf m _ _ h5 h8 (fun m hm => hw m (by
    simp only [DataW.weights,h1]
    refine DataW.weights_mem_each (j := f) (t := fs[f].type) (d := (xs[f]'(by omega)).1) ?_ ?_ m hm
    ·simp [hfd]
    ·simp [List.getElem?_eq_getElem (show f < xs.length by omega)]))
   exact ⟨tf,h6,y,h9,h10⟩
  | arr k u =>
   obtain ⟨e,h1,m,h2⟩ := hdesc
   obtain ⟨xs,m',hm,rfl,hcl,hxl,hx⟩ := DataW.trod_array h1 h
   cases hm
   have hsz := Vbr (hT _ _ _ h2)
   have hcl2 : cs.length = k * u.sz := by rw [hcl,Vbr hok]; rfl
   obtain ⟨ys,k1,k2⟩ := VcR (R := fun i (y : u.I) => Rs w (fun b => b < w.heap.size) u y ((cs.drop (i * u.sz)).take u.sz) ∧ Fit B u y) k (fun i hi => by
    have h3 := hx i hi
    rw [List.getElem?_eq_getElem (by omega),hsz] at h3
    exact ih e u m _ _ h2 h3 (fun m hm => hw m (by
     simp only [DataW.weights,h1]
     exact VbN _ (List.mem_map.2 ⟨_,List.getElem_mem _,rfl⟩) m hm)))
   have hseg : Seg (Rs w (fun b => b < w.heap.size) u) u.sz ys cs := fun i y hy => by
    refine ⟨_,(k2 i y hy).1,fun j v hv => ?_⟩
    rw [List.getElem?_take] at hv
    split at hv
    ·rw [List.getElem?_drop] at hv; exact hv
    ·cases hv
   refine ⟨ys,⟨k1,hcl2,fun v hv => ?_,hseg⟩,k1,fun y hy => ?_⟩
   ·obtain ⟨j,hj,rfl⟩ := List.getElem_of_mem hv
    have hp := (hpos _ _ _ h2).1
    have hq : j / u.sz < k := by
     refine Nat.div_lt_of_lt_mul ?_
     rw [Nat.mul_comm]; omega
    obtain ⟨y,hy⟩ : ∃ y,ys[j / u.sz]? = some y := ⟨_,List.getElem?_eq_getElem (by omega)⟩
    refine VS _ _ _ (k2 _ y hy).1 _ (List.mem_iff_getElem?.2 ⟨j % u.sz,?_⟩)
    rw [List.getElem?_take,if_pos (Nat.mod_lt _ (by omega)),List.getElem?_drop,Nat.mul_comm,Nat.div_add_mod]
    exact List.getElem?_eq_getElem hj
   ·obtain ⟨i,hi⟩ := List.mem_iff_getElem?.1 hy
    exact (k2 i y hi).2
end
end Go.Ev

namespace Go.Ev
set_option linter.unusedVariables false
set_option linter.unusedSimpArgs false
open Go.RowKit Go.WideShapes
variable {P : Program}
section
variable {H : Type} {enc : TypeId × Value → H} {w : World} {base : Nat} {spare : Nat → Bool} {held : Bool} {S : Nat → Prop} {B : TypeId → Nat}
theorem ViT {T : Tab} {t : TypeId} {ty : Ty} {n : Nat} {v : Value} {r : Reach} {b0 : Nat} (h : TyOk P T t ty n) (hv : Value.okWide P w r b0 t v) : Val ty v v.cells.toList := by
 have hd := h.desc
 unfold Val
 cases ty with
 | int k => obtain ⟨m,rfl⟩ := okWide_int hd hv; simp [isAgg,Value.cells]
 | bool => obtain ⟨m,rfl⟩ := okWide_bool hd hv; simp [isAgg,Value.cells]
 | str => obtain ⟨m,rfl⟩ := okWide_string hd hv; simp [isAgg,Value.cells]
 | sl e u => obtain ⟨a,b,c,rfl⟩ := okWide_slice hd.1 hv; simp [isAgg,Value.cells]
 | slb e u => exact hd.elim
 | pair a b =>
  obtain ⟨fs,h1,_⟩ := hd
  simp only [Value.okWide,h1] at hv
  obtain ⟨cs,rfl,_⟩ := hv
  simp [isAgg,Value.cells]
 | arr m u =>
  obtain ⟨e,h1,_⟩ := hd
  simp only [Value.okWide,h1] at hv
  obtain ⟨cs,rfl,_⟩ := hv
  simp [isAgg,Value.cells]
def VbO (B : TypeId → Nat) : (ts : List Ty) → Tup ts → Prop
 | [],_ => True
 | [t],x => Fit B t x
 | t :: u :: r,x => Fit B t x.1 ∧ VbO B (u :: r) x.2
def tysOf (T : Tab) : List TypeId → Option (List Ty)
 | [] => some []
 | t :: r => match T t,tysOf T r with
  | some (ty,_),some l => some (ty :: l)
  | _,_ => none
theorem VgI (t : Ty) (r : List Ty) (y : t.I) (x : Tup r) (hx : VbO B r x) (hy : Fit B t y) : ∃ z : Tup (t :: r),dats (t :: r) z = ⟨t,y⟩ :: dats r x ∧ VbO B (t :: r) z := by
 cases r with
 | nil => exact ⟨y,rfl,hy⟩
 | cons u r => exact ⟨(y,x),rfl,hy,hx⟩
theorem Vil {T : Tab} (hT : ∀ t ty n,T t = some (ty,n) → TyOk P T t ty n) (hB : ∀ t x,T t = some x → P.bytesOf t = B t) (hpos : ∀ t ty n,T t = some (ty,n) → ty.sz ≠ 0 ∧ ((n = 0 → ∀ a b,ty ≠ .pair a b) ∧ ty.noB = true)) {r : Reach} {b0 : Nat} :
  ∀ (ts : List TypeId) (tys : List Ty) (vs : List Value) (ds : List (DataW H)) (p : List MemPlace),tysOf T ts = some tys → DataW.TrodAll enc P w base spare held ts vs ds p →
   (∀ (j : Nat) t v,ts[j]? = some t → vs[j]? = some v → Value.okWide P w r b0 t v) → (∀ m ∈ DataW.weightsEach P ts ds,m ≤ reachBytes) →
   ∃ x : Tup tys,KsOk w (fun b => b < w.heap.size) (kds' (tys.map ((.val,·))) (dats tys x)) vs (List.replicate ts.length []) ∧ VbO B tys x := by
 intro ts
 induction ts with
 | nil =>
  intro tys vs ds p ht h _ _
  simp only [tysOf,Option.some.injEq] at ht
  subst ht
  cases vs with
  | nil => exact ⟨(),⟨rfl,rfl⟩,trivial⟩
  | cons v vs => exact h.elim
 | cons t ts ih =>
  intro tys vs ds p ht h hval hw
  simp only [tysOf] at ht
  split at ht
  ·rename_i ty n l h1 h2
   cases ht
   cases vs with
   | nil => exact h.elim
   | cons v vs =>
    cases ds with
    | nil => exact h.elim
    | cons d ds =>
     obtain ⟨p0,q0,⟨fuel,hf⟩,hr,_⟩ := h
     simp only [DataW.weightsEach,List.mem_append] at hw
     obtain ⟨x,k1,k2⟩ := ih l vs ds q0 h2 hr (fun j t v hj hv => hval (j + 1) t v (by simpa using hj) (by simpa using hv)) (fun m hm => hw m (.inr hm))
     obtain ⟨y,k3,k4⟩ := Vik hT hB hpos fuel t ty n _ _ h1 hf (fun m hm => hw m (.inl hm))
     obtain ⟨z,k5,k6⟩ := VgI ty l y x k2 k4
     refine ⟨z,?_,k6⟩
     rw [k5]
     exact ⟨v,vs,[],_,rfl,rfl,⟨rfl,_,k3,ViT (hT _ _ _ h1) (hval 0 t v rfl rfl)⟩,k1⟩
  ·cases ht
theorem VbX : ∀ n : Nat,(List.replicate n ([] : List Nat)).flatten = [] := by
 intro n
 induction n with
 | zero => rfl
 | succ n ih => rw [List.replicate_succ,List.flatten_cons,ih]; rfl
theorem VgJ {T : Tab} (hT : ∀ t ty n,T t = some (ty,n) → TyOk P T t ty n) (hB : ∀ t x,T t = some x → P.bytesOf t = B t) (hpos : ∀ t ty n,T t = some (ty,n) → ty.sz ≠ 0 ∧ ((n = 0 → ∀ a b,ty ≠ .pair a b) ∧ ty.noB = true))
  {f : FuncId} {c : Con} (hg : Good P f c) (hps : (c.ps.map (·.2)).map ((Kn.val,·)) = c.ps) (hlaw : ∀ x,VbO B (c.ps.map (·.2)) x → ∃ r,c.F x = some r ∧ kds' c.rs (dats _ r) = [(.val,⟨.bool,true⟩)])
  {r : Reach} {b0 : Nat} {ts : List TypeId} {args : Array Value} {ds : List (DataW H)} {p : List MemPlace} (hts : tysOf T ts = some (c.ps.map (·.2))) (h : DataW.TrodAll enc P w base spare held ts args.toList ds p)
  (hval : ∀ (j : Nat) t v,ts[j]? = some t → args.toList[j]? = some v → Value.okWide P w r b0 t v) (hw : ∀ m ∈ DataW.weightsEach P ts ds,m ≤ reachBytes) :
  Calls P f args w fun e w' => e = .returned (.bool true) ∧ Below w.heap.size w w' := by
 obtain ⟨x,h1,h2⟩ := Vil hT hB hpos ts _ args.toList ds p hts h hval hw
 obtain ⟨y,h3,h4⟩ := hlaw x h2
 rw [hps] at h1
 have h5 := hg.1 x y h3 w args.toList _ (fun b => b < w.heap.size) (fun b hb => ⟨hb,by rw [VbX]; simp⟩) (by rw [VbX]; simp) (by rw [VbX]; simp) h1
 rw [show args.toList.toArray = args from Array.toArray_toList] at h5
 refine h5.mono fun e w' h => ?_
 obtain ⟨us,hs,rfl,_,_,_,h6,_,h7,h8,h9,h10,h11⟩ := h
 rw [h4] at h6
 obtain ⟨v,l,g0,g1,rfl,rfl,⟨_,cs,k1,k2⟩,rfl,rfl⟩ := h6
 have k1 : cs = [.bool true] := k1
 subst k1
 have k3 : v = .bool true := by simpa [Val,isAgg] using k2.symm
 subst k3
 exact ⟨rfl,h9,h10,h11,h8,fun b hb => h7 b hb (by rw [VbX]; simp)⟩
end
def posB (tab : List TRow) : Bool := tab.all fun r => r.ty.noB && (r.ty.sz != 0) && (r.n != 0 || match r.ty with | .pair _ _ => false | _ => true)
theorem Vf9 {tab : List TRow} (h : posB tab = true) : ∀ t ty n,tabT tab t = some (ty,n) → ty.sz ≠ 0 ∧ ((n = 0 → ∀ a b,ty ≠ .pair a b) ∧ ty.noB = true) := by
 intro t ty n ht
 obtain ⟨r,h1,rfl,rfl,rfl,_⟩ := Vbv ht
 have h2 := List.all_eq_true.1 h r h1
 simp only [Bool.and_eq_true,Bool.or_eq_true,bne_iff_ne,ne_eq] at h2
 refine ⟨h2.1.2,fun h0 a b he => ?_,h2.1.1⟩
 rcases h2.2 with h3 | h3
 ·exact h3 h0
 ·rw [he] at h3; cases h3
end Go.Ev

namespace Go.Ev
set_option linter.unusedVariables false
theorem w64 {n : Int} (h1 : -9223372036854775808 ≤ n) (h2 : n < 9223372036854775808) : IntKind.i64.wrap n = n := by
 simp only [IntKind.wrap,IntKind.bits,IntKind.signed]
 simp
 omega
end Go.Ev

namespace Go.Ev.Tryz
open Go.Proofs
def tab : List TRow := [⟨2,(.int .i64),0,8⟩,
 ⟨3,(.int .i64),0,8⟩,
 ⟨4,.bool,0,1⟩,
 ⟨5,(.int .u8),0,1⟩,
 ⟨9,.str,0,16⟩,
 ⟨22,(.sl 5 (.int .u8)),0,24⟩,
 ⟨24,(.sl 2 (.int .i64)),0,24⟩,
 ⟨25,(.sl 101 (.pair (.int .i64) (.int .i64))),0,24⟩,
 ⟨26,(.sl 69 (.pair (.int .i64) (.pair .str (.int .i64)))),0,24⟩,
 ⟨27,(.sl 9 .str),0,24⟩,
 ⟨32,(.sl 119 (.pair (.int .i64) (.int .i64))),0,24⟩,
 ⟨33,(.sl 78 (.pair .str (.pair (.int .i64) (.pair (.int .i64) (.pair (.int .i64) (.pair (.int .i64) (.pair (.int .i64) (.pair (.int .i64) (.pair (.int .i64) (.int .i64)))))))))),0,24⟩,
 ⟨34,(.sl 59 (.pair (.int .i64) (.pair (.int .i64) (.pair .str (.int .i64))))),0,24⟩,
 ⟨36,(.pair (.sl 119 (.pair (.int .i64) (.int .i64))) (.pair (.sl 78 (.pair .str (.pair (.int .i64) (.pair (.int .i64) (.pair (.int .i64) (.pair (.int .i64) (.pair (.int .i64) (.pair (.int .i64) (.pair (.int .i64) (.int .i64)))))))))) (.sl 59 (.pair (.int .i64) (.pair (.int .i64) (.pair .str (.int .i64))))))),3,72⟩,
 ⟨38,(.sl 24 (.sl 2 (.int .i64))),0,24⟩,
 ⟨41,(.sl 61 (.pair (.int .i64) (.pair .str (.int .i64)))),0,24⟩,
 ⟨50,(.pair .bool (.pair .bool (.pair .bool (.pair .bool (.pair .bool (.int .i64)))))),6,16⟩,
 ⟨59,(.pair (.int .i64) (.pair (.int .i64) (.pair .str (.int .i64)))),4,40⟩,
 ⟨61,(.pair (.int .i64) (.pair .str (.int .i64))),3,32⟩,
 ⟨69,(.pair (.int .i64) (.pair .str (.int .i64))),3,32⟩,
 ⟨78,(.pair .str (.pair (.int .i64) (.pair (.int .i64) (.pair (.int .i64) (.pair (.int .i64) (.pair (.int .i64) (.pair (.int .i64) (.pair (.int .i64) (.int .i64))))))))),9,80⟩,
 ⟨89,(.pair (.sl 101 (.pair (.int .i64) (.int .i64))) (.pair (.int .i64) (.pair (.int .i64) (.pair (.pair .bool (.pair .bool (.pair .bool (.pair .bool (.pair .bool (.int .i64)))))) (.sl 2 (.int .i64)))))),5,80⟩,
 ⟨98,(.pair (.sl 5 (.int .u8)) (.pair (.int .i64) (.int .i64))),3,40⟩,
 ⟨101,(.pair (.int .i64) (.int .i64)),2,16⟩,
 ⟨119,(.pair (.int .i64) (.int .i64)),2,16⟩]
set_option maxRecDepth 100000 in
theorem tabok : okB Tryz.prog tab = true := by kernel_rfl
end Go.Ev.Tryz

namespace Go.Pl
abbrev YA : Type := ByteArray × Int × Int × Int × Int × Int × Int × Int × Int
abbrev YB : Type := Int × Int × ByteArray × Int
abbrev YC : Type := Int × Int
abbrev YD : Type := Int × ByteArray × Int
abbrev YE : Type := Bool × Bool × Bool × Bool × Bool × Int
abbrev YF : Type := List YC
abbrev YG : Type := List YA
abbrev YH : Type := YF × YG × List YB
abbrev YI : Type := YH × List Int × Int × Int
abbrev YJ : Type := YH × Int
abbrev YK : Type := List Int × Int × Int
abbrev YL : Type := List YD
abbrev YM : Type := List YB
abbrev YN : Type := YF → YG → YM → YF → YG → YM → Option YJ
abbrev YO : Type := Int → YK → Int → Int → ByteArray → Int → YF → YG → YM → YF → YG → YM → Option YI
abbrev YP : Type := YH → YB → YF → YG → YM → Option YJ
abbrev YQ : Type := List Int
abbrev YR : Type := List Int → YL → List ByteArray → Int → List Int → YF → Int → Int → YE → List Int → Option YQ
abbrev YS : Type := List Int → YL → List ByteArray → Int → List Int → YF → Int → Int → YE → List Int → List Int → YF → Int → Int → YE → List Int → Option YQ
abbrev YT : Type := YL × List Int × Int × Int
abbrev YU : Type := Int × List Int × Int × Int
abbrev YV : Type := YF × List Int × Int × Int
abbrev YW : Type := YE × Int
abbrev YX : Type := Int → Bool → Bool → Bool → Bool → Bool → Int → YF → Int → Int → Bool → Bool → Bool → Bool → Bool → Int → List Int → Bool → Bool → Bool → Bool → Bool → Int → YF → Int → Int → YE → List Int → Option YW
abbrev YY : Type := Int → Bool → Bool → Bool → Bool → Bool → Int → YF → Int → Int → YE → List Int → Bool → Bool → Bool → Bool → Bool → Int → YF → Int → Int → YE → List Int → Option YW
abbrev YZ : Type := Int → Bool → Bool → Bool → Bool → Bool → Int → YF → Int → Int → YE → List Int → Option YW
abbrev YAA : Type := Int → YK → YF → YG → YM → YF → YG → YM → Option YI
abbrev YAB : Type := Int → YL → List Int → Int → Int → Int → YH → List YQ → List YQ → YL → YL → Option Bool
abbrev YAC : Type := YL × YH × List Int
abbrev YAD : Type := YL × Int
abbrev YAE : Type := YG × List Int × Int × Int
abbrev YAF : Type := YK → YB → YF → YG → YM → YF → YG → YM → Option YI
abbrev YAG : Type := List YQ
abbrev YAH : Type := Int → YK → YH → YL → YF → YG → YM → Option YAC
abbrev YAI : Type := Int → YK → YL → List ByteArray → Option YT
abbrev YAJ : Type := ByteArray × List Int × Int × Int
abbrev YAK : Type := List Int × List Int × Int × Int
abbrev YAL : Type := Int → Int → YH → YB → YA → List YQ → Option YAG
abbrev YAM : Type := YE × List Int
abbrev YAN : Type := YF → Int → Int → Int → Bool → Bool → Bool → Bool → Bool → Int → YE → List Int → Option YAM
abbrev YAO : Type := List Int → YF → YL → List ByteArray → Int → List Int → Option YQ
abbrev YAP : Type := Int → Int → YK → YF → YG → YM → YF → YG → YM → Option YI
abbrev YAQ : Type := Int → YK → YH → YL → List Int → YF → YG → YM → Option YAC
abbrev YAR : Type := List Int → YF → YL → List ByteArray → Int → Int → YL → List Int → Int → Int → List Int → YH → List YQ → List YQ → YL → YL → Option Bool
abbrev YAS : Type := Int → Bool → Bool → Bool → Bool → Bool → Int → YF → Int → Int → Bool → Bool → Bool → Bool → Bool → Int → List Int → Option YW
abbrev YAT : Type := YL → ByteArray → Int → Int → Int → Option Int
end Go.Pl

namespace Go.Pl
open Go.Ev
set_option linter.unusedVariables false
noncomputable section
def QT.g4 (L4 : ByteArray → Int → Option Bool) (s0 : ByteArray) (i3 : Int) : Option Bool :=
 if (decide ((i3 : Int) < (s0.size : Int))) = true then
 if (0 : Int) ≤ i3 ∧ (i3 : Int) < s0.size then
 if (decide (((bt s0 i3) : Int) < 97)) = false then
 if (0 : Int) ≤ i3 ∧ (i3 : Int) < s0.size then
 if (decide ((122 : Int) < (bt s0 i3))) = true then
 some false
 else
 L4 s0 (IntKind.i64.wrap (i3 + 1))
 else
 none
 else
 some false
 else
 none
 else
 some true
def QT.l4 (n : Nat) : Nat → ByteArray → Int → Option Bool
 | 0 => fun _ _ => none
 | k + 1 => QT.g4 (QT.l4 n k)
def QT.top (I4 : ByteArray → Int → Option Bool) (s0 : ByteArray) : Option Bool :=
 if (decide (((s0.size : Int) : Int) < 1)) = false then
 if (decide ((16 : Int) < (s0.size : Int))) = true then
 some false
 else
 I4 s0 0
 else
 some false
def QT.fn (n : Nat) (s0 : ByteArray) : Option Bool := QT.top (QT.l4 n n) s0
def QT.f (s0 : ByteArray) : Option Bool := QT.fn NN s0
end
end Go.Pl

namespace Go.Pl
open Go.Ev
set_option linter.unusedVariables false
noncomputable section
def Q2.top (n0 : Int) (q : Int) (p : Int) : Option Bool :=
 if (decide ((q : Int) ≤ n0)) = true then
 some (decide ((n0 : Int) ≤ p))
 else
 some false
def Q2.fn (n : Nat) (n0 : Int) (q : Int) (p : Int) : Option Bool := Q2.top n0 q p
def Q2.f (n0 : Int) (q : Int) (p : Int) : Option Bool := Q2.fn NN n0 q p
end
end Go.Pl

namespace Go.Pl
open Go.Ev
set_option linter.unusedVariables false
noncomputable section
def QaI.top (t0 : Int) : Option Bool :=
 (Q2.f t0 0 10000000).bind fun r1 =>
 some r1
def QaI.fn (n : Nat) (t0 : Int) : Option Bool := QaI.top t0
def QaI.f (t0 : Int) : Option Bool := QaI.fn NN t0
end
end Go.Pl

namespace Go.Pl
open Go.Ev
set_option linter.unusedVariables false
noncomputable section
def QC.g3 (L3 : ByteArray → Int → Int → YL → Int → Int → Option Int) (p : ByteArray) (t2 : Int) (r : Int) (v10 : List YD) (v11 : Int) (v12 : Int) : Option Int :=
 if (decide ((v12 : Int) < v11)) = true then
 if (0 : Int) ≤ v12 ∧ (v12 : Int) < v10.length then
 if ((((v10.getD (v12 : Int).toNat (0,(ByteArray.empty,0))).2).1).toList == p.toList) = true then
 if (decide ((((v10.getD (v12 : Int).toNat (0,(ByteArray.empty,0))).1) : Int) ≤ t2)) = true then
 L3 p t2 (IntKind.i64.wrap (r + (((v10.getD (v12 : Int).toNat (0,(ByteArray.empty,0))).2).2))) v10 v11 (IntKind.i64.wrap (v12 + 1))
 else
 L3 p t2 r v10 v11 (IntKind.i64.wrap (v12 + 1))
 else
 L3 p t2 r v10 v11 (IntKind.i64.wrap (v12 + 1))
 else
 none
 else
 some r
def QC.l3 (n : Nat) : Nat → ByteArray → Int → Int → YL → Int → Int → Option Int
 | 0 => fun _ _ _ _ _ _ => none
 | k + 1 => QC.g3 (QC.l3 n k)
def QC.top (I3 : ByteArray → Int → Int → YL → Int → Int → Option Int) (q : List YD) (p : ByteArray) (t2 : Int) : Option Int :=
 I3 p t2 0 q (q.length : Int) 0
def QC.fn (n : Nat) (q : List YD) (p : ByteArray) (t2 : Int) : Option Int := QC.top (QC.l3 n n) q p t2
def QC.f (q : List YD) (p : ByteArray) (t2 : Int) : Option Int := QC.fn NN q p t2
end
end Go.Pl

namespace Go.Pl
open Go.Ev
set_option linter.unusedVariables false
noncomputable section
def QG.g4 (L4 : YL → YL → Int → Int → Option Bool) (p : List YD) (v8 : List YD) (v9 : Int) (v10 : Int) : Option Bool :=
 if (decide ((v10 : Int) < v9)) = true then
 if (0 : Int) ≤ v10 ∧ (v10 : Int) < v8.length then
 (QaI.f ((v8.getD (v10 : Int).toNat (0,(ByteArray.empty,0))).1)).bind fun r1 =>
 if (!r1) = false then
 (QT.f (((v8.getD (v10 : Int).toNat (0,(ByteArray.empty,0))).2).1)).bind fun r2 =>
 if (!r2) = false then
 (Q2.f (((v8.getD (v10 : Int).toNat (0,(ByteArray.empty,0))).2).2) (-1000) 1000).bind fun r3 =>
 if (!r3) = false then
 if (((((v8.getD (v10 : Int).toNat (0,(ByteArray.empty,0))).2).2) : Int) == 0) = false then
 if (decide ((0 : Int) < v10)) = true then
 if (0 : Int) ≤ (IntKind.i64.wrap (v10 - 1)) ∧ ((IntKind.i64.wrap (v10 - 1)) : Int) < p.length then
 if (decide ((((v8.getD (v10 : Int).toNat (0,(ByteArray.empty,0))).1) : Int) < ((p.getD ((IntKind.i64.wrap (v10 - 1)) : Int).toNat (0,(ByteArray.empty,0))).1))) = true then
 some false
 else if (0 : Int) ≤ (IntKind.i64.wrap (v10 + 1)) ∧ ((IntKind.i64.wrap (v10 + 1)) : Int) ≤ p.length then
 (QC.f (p.take ((IntKind.i64.wrap (v10 + 1)) : Int).toNat) (((v8.getD (v10 : Int).toNat (0,(ByteArray.empty,0))).2).1) ((v8.getD (v10 : Int).toNat (0,(ByteArray.empty,0))).1)).bind fun r4 =>
 if (decide ((r4 : Int) < 0)) = true then
 some false
 else
 L4 p v8 v9 (IntKind.i64.wrap (v10 + 1))
 else
 none
 else
 none
 else if (0 : Int) ≤ (IntKind.i64.wrap (v10 + 1)) ∧ ((IntKind.i64.wrap (v10 + 1)) : Int) ≤ p.length then
 (QC.f (p.take ((IntKind.i64.wrap (v10 + 1)) : Int).toNat) (((v8.getD (v10 : Int).toNat (0,(ByteArray.empty,0))).2).1) ((v8.getD (v10 : Int).toNat (0,(ByteArray.empty,0))).1)).bind fun r5 =>
 if (decide ((r5 : Int) < 0)) = true then
 some false
 else
 L4 p v8 v9 (IntKind.i64.wrap (v10 + 1))
 else
 none
 else
 some false
 else
 some false
 else
 some false
 else
 some false
 else
 none
 else
 some true
def QG.l4 (n : Nat) : Nat → YL → YL → Int → Int → Option Bool
 | 0 => fun _ _ _ _ => none
 | k + 1 => QG.g4 (QG.l4 n k)
def QG.top (I4 : YL → YL → Int → Int → Option Bool) (p : List YD) : Option Bool :=
 if (decide ((40 : Int) < (p.length : Int))) = true then
 some false
 else
 I4 p p (p.length : Int) 0
def QG.fn (n : Nat) (p : List YD) : Option Bool := QG.top (QG.l4 n n) p
def QG.f (p : List YD) : Option Bool := QG.fn NN p
end
end Go.Pl

namespace Go.Pl
open Go.Ev
set_option linter.unusedVariables false
noncomputable section
def Q5.g2 (L2 : YL → ByteArray → Int → YL → Int → Int → Option Bool) (p : List YD) (q : ByteArray) (t2 : Int) (v9 : List YD) (v10 : Int) (v11 : Int) : Option Bool :=
 if (decide ((v11 : Int) < v10)) = true then
 if (0 : Int) ≤ v11 ∧ (v11 : Int) < v9.length then
 if ((((v9.getD (v11 : Int).toNat (0,(ByteArray.empty,0))).2).1).toList == q.toList) = true then
 if (decide ((((v9.getD (v11 : Int).toNat (0,(ByteArray.empty,0))).1) : Int) ≤ t2)) = true then
 if (decide (((IntKind.i64.wrap (t2 - ((v9.getD (v11 : Int).toNat (0,(ByteArray.empty,0))).1))) : Int) < 30000)) = true then
 some false
 else
 L2 p q t2 v9 v10 (IntKind.i64.wrap (v11 + 1))
 else
 L2 p q t2 v9 v10 (IntKind.i64.wrap (v11 + 1))
 else
 L2 p q t2 v9 v10 (IntKind.i64.wrap (v11 + 1))
 else
 none
 else
 (QC.f p q t2).bind fun r1 =>
 some ((r1 : Int) == 0)
def Q5.l2 (n : Nat) : Nat → YL → ByteArray → Int → YL → Int → Int → Option Bool
 | 0 => fun _ _ _ _ _ _ => none
 | k + 1 => Q5.g2 (Q5.l2 n k)
def Q5.top (I2 : YL → ByteArray → Int → YL → Int → Int → Option Bool) (p : List YD) (q : ByteArray) (t2 : Int) : Option Bool :=
 I2 p q t2 p (p.length : Int) 0
def Q5.fn (n : Nat) (p : List YD) (q : ByteArray) (t2 : Int) : Option Bool := Q5.top (Q5.l2 n n) p q t2
def Q5.f (p : List YD) (q : ByteArray) (t2 : Int) : Option Bool := Q5.fn NN p q t2
end
end Go.Pl

namespace Go.Pl
open Go.Ev
set_option linter.unusedVariables false
noncomputable section
def Qt.g2 (L2 : YL → Int → List ByteArray → Int → Int → Option Bool) (p : List YD) (t2 : Int) (v9 : List ByteArray) (v10 : Int) (v11 : Int) : Option Bool :=
 if (decide ((v11 : Int) < v10)) = true then
 if (0 : Int) ≤ v11 ∧ (v11 : Int) < v9.length then
 (Q5.f p (v9.getD (v11 : Int).toNat ByteArray.empty) t2).bind fun r1 =>
 if (!r1) = true then
 some false
 else
 L2 p t2 v9 v10 (IntKind.i64.wrap (v11 + 1))
 else
 none
 else
 some true
def Qt.l2 (n : Nat) : Nat → YL → Int → List ByteArray → Int → Int → Option Bool
 | 0 => fun _ _ _ _ _ => none
 | k + 1 => Qt.g2 (Qt.l2 n k)
def Qt.top (I2 : YL → Int → List ByteArray → Int → Int → Option Bool) (p : List YD) (q : List ByteArray) (t2 : Int) : Option Bool :=
 I2 p t2 q (q.length : Int) 0
def Qt.fn (n : Nat) (p : List YD) (q : List ByteArray) (t2 : Int) : Option Bool := Qt.top (Qt.l2 n n) p q t2
def Qt.f (p : List YD) (q : List ByteArray) (t2 : Int) : Option Bool := Qt.fn NN p q t2
end
end Go.Pl

namespace Go.Pl
open Go.Ev
set_option linter.unusedVariables false
noncomputable section
def QJ.g4 (L4 : List ByteArray → Int → Int → Option Bool) (v8 : List ByteArray) (v9 : Int) (v10 : Int) : Option Bool :=
 if (decide ((v10 : Int) < v9)) = true then
 if (0 : Int) ≤ v10 ∧ (v10 : Int) < v8.length then
 (QT.f (v8.getD (v10 : Int).toNat ByteArray.empty)).bind fun r1 =>
 if (!r1) = true then
 some false
 else
 L4 v8 v9 (IntKind.i64.wrap (v10 + 1))
 else
 none
 else
 some true
def QJ.l4 (n : Nat) : Nat → List ByteArray → Int → Int → Option Bool
 | 0 => fun _ _ _ => none
 | k + 1 => QJ.g4 (QJ.l4 n k)
def QJ.top (I4 : List ByteArray → Int → Int → Option Bool) (p : List ByteArray) : Option Bool :=
 if (decide ((60 : Int) < (p.length : Int))) = true then
 some false
 else
 I4 p (p.length : Int) 0
def QJ.fn (n : Nat) (p : List ByteArray) : Option Bool := QJ.top (QJ.l4 n n) p
def QJ.f (p : List ByteArray) : Option Bool := QJ.fn NN p
end
end Go.Pl

namespace Go.Pl
open Go.Ev
set_option linter.unusedVariables false
noncomputable section
def Qal.top (q : List YD) (p : List ByteArray) (t2 : Int) : Option (Bool × Int) :=
 (QG.f q).bind fun r1 =>
 if (!r1) = false then
 (QJ.f p).bind fun r2 =>
 if (!r2) = true then
 some (false,1)
 else
 (QaI.f t2).bind fun r3 =>
 if (!r3) = true then
 some (false,2)
 else
 (Qt.f q p t2).bind fun r4 =>
 some (r4,0)
 else
 some (false,1)
def Qal.fn (n : Nat) (q : List YD) (p : List ByteArray) (t2 : Int) : Option (Bool × Int) := Qal.top q p t2
def Qal.f (q : List YD) (p : List ByteArray) (t2 : Int) : Option (Bool × Int) := Qal.fn NN q p t2
end
end Go.Pl

namespace Go.Pl
open Go.Ev
set_option linter.unusedVariables false
noncomputable section
def QX.g4 (L4 : YF → Int → Int → Option Bool) (v13 : List YC) (v14 : Int) (v15 : Int) : Option Bool :=
 if (decide ((v15 : Int) < v14)) = true then
 if (0 : Int) ≤ v15 ∧ (v15 : Int) < v13.length then
 (Q2.f ((v13.getD (v15 : Int).toNat (0,0)).1) 1 16).bind fun r1 =>
 if (!r1) = false then
 (Q2.f ((v13.getD (v15 : Int).toNat (0,0)).2) 100 5000).bind fun r2 =>
 if (!r2) = true then
 some false
 else
 L4 v13 v14 (IntKind.i64.wrap (v15 + 1))
 else
 some false
 else
 none
 else
 some true
def QX.l4 (n : Nat) : Nat → YF → Int → Int → Option Bool
 | 0 => fun _ _ _ => none
 | k + 1 => QX.g4 (QX.l4 n k)
def QX.top (I4 : YF → Int → Int → Option Bool) (p : List YC) : Option Bool :=
 if (decide (((p.length : Int) : Int) < 1)) = false then
 if (decide ((20 : Int) < (p.length : Int))) = true then
 some false
 else
 I4 p (p.length : Int) 0
 else
 some false
def QX.fn (n : Nat) (p : List YC) : Option Bool := QX.top (QX.l4 n n) p
def QX.f (p : List YC) : Option Bool := QX.fn NN p
end
end Go.Pl

namespace Go.Pl
open Go.Ev
set_option linter.unusedVariables false
noncomputable section
def QK.g3 (L3 : YF → Int → Int → Int → YF → Int → Int → Option Int) (p : List YC) (q : Int) (r : Int) (t7 : Int) (v12 : List YC) (v13 : Int) (v14 : Int) : Option Int :=
 if (decide ((v14 : Int) < v13)) = true then
 if (0 : Int) ≤ v14 ∧ (v14 : Int) < v12.length then
 L3 p q r (IntKind.i64.wrap (t7 + (IntKind.i64.wrap (((v12.getD (v14 : Int).toNat (0,0)).1) * ((v12.getD (v14 : Int).toNat (0,0)).2))))) v12 v13 (IntKind.i64.wrap (v14 + 1))
 else
 none
 else if (decide ((0 : Int) < r)) = true then
 if (0 : Int) ≤ q ∧ (q : Int) < p.length then
 some (IntKind.i64.wrap (t7 + (IntKind.i64.wrap (r * ((p.getD (q : Int).toNat (0,0)).2)))))
 else
 none
 else
 some t7
def QK.l3 (n : Nat) : Nat → YF → Int → Int → Int → YF → Int → Int → Option Int
 | 0 => fun _ _ _ _ _ _ _ => none
 | k + 1 => QK.g3 (QK.l3 n k)
def QK.top (I3 : YF → Int → Int → Int → YF → Int → Int → Option Int) (p : List YC) (q : Int) (r : Int) : Option Int :=
 if (0 : Int) ≤ q ∧ (q : Int) ≤ p.length then
 I3 p q r 0 (p.take (q : Int).toNat) ((p.take (q : Int).toNat).length : Int) 0
 else
 none
def QK.fn (n : Nat) (p : List YC) (q : Int) (r : Int) : Option Int := QK.top (QK.l3 n n) p q r
def QK.f (p : List YC) (q : Int) (r : Int) : Option Int := QK.fn NN p q r
end
end Go.Pl

namespace Go.Pl
open Go.Ev
set_option linter.unusedVariables false
noncomputable section
def QaC.top (i0 : Int) (n1 : Int) : Option Bool :=
 (Q2.f i0 0 (IntKind.i64.wrap (n1 - 1))).bind fun r1 =>
 some r1
def QaC.fn (n : Nat) (i0 : Int) (n1 : Int) : Option Bool := QaC.top i0 n1
def QaC.f (i0 : Int) (n1 : Int) : Option Bool := QaC.fn NN i0 n1
end
end Go.Pl

namespace Go.Pl
open Go.Ev
set_option linter.unusedVariables false
noncomputable section
def QaJ.top (p : List YC) (q : Int) (r : Int) : Option Bool :=
 (QaC.f q (p.length : Int)).bind fun r1 =>
 if r1 = true then
 if (0 : Int) ≤ q ∧ (q : Int) < p.length then
 (Q2.f r 0 (IntKind.i64.wrap (((p.getD (q : Int).toNat (0,0)).1) - 1))).bind fun r2 =>
 some r2
 else
 none
 else
 some false
def QaJ.fn (n : Nat) (p : List YC) (q : Int) (r : Int) : Option Bool := QaJ.top p q r
def QaJ.f (p : List YC) (q : Int) (r : Int) : Option Bool := QaJ.fn NN p q r
end
end Go.Pl

namespace Go.Pl
open Go.Ev
set_option linter.unusedVariables false
noncomputable section
def QaG.top (p : List YC) (r : Int) (q : Int) : Option YC :=
 (QX.f p).bind fun r1 =>
 if (!r1) = true then
 some (0,1)
 else
 (QaJ.f p r q).bind fun r2 =>
 if (!r2) = true then
 some (0,2)
 else
 (QK.f p r q).bind fun r3 =>
 some (r3,0)
def QaG.fn (n : Nat) (p : List YC) (r : Int) (q : Int) : Option YC := QaG.top p r q
def QaG.f (p : List YC) (r : Int) (q : Int) : Option YC := QaG.fn NN p r q
end
end Go.Pl

namespace Go.Pl
open Go.Ev
set_option linter.unusedVariables false
noncomputable section
def QO.g3 (L3 : ByteArray → YL → Int → Int → List Int → Option YQ) (p : ByteArray) (v9 : List YD) (v10 : Int) (v11 : Int) (r : List Int) : Option YQ :=
 if (decide ((v11 : Int) < v10)) = true then
 if (0 : Int) ≤ v11 ∧ (v11 : Int) < v9.length then
 if ((((v9.getD (v11 : Int).toNat (0,(ByteArray.empty,0))).2).1).toList == p.toList) = true then
 if (0 : Int) ≤ ((v9.getD (v11 : Int).toNat (0,(ByteArray.empty,0))).1) ∧ (((v9.getD (v11 : Int).toNat (0,(ByteArray.empty,0))).1) : Int) < r.length then
 if (0 : Int) ≤ ((v9.getD (v11 : Int).toNat (0,(ByteArray.empty,0))).1) ∧ (((v9.getD (v11 : Int).toNat (0,(ByteArray.empty,0))).1) : Int) < r.length then
 L3 p v9 v10 (IntKind.i64.wrap (v11 + 1)) (r.set (((v9.getD (v11 : Int).toNat (0,(ByteArray.empty,0))).1) : Int).toNat (IntKind.i64.wrap ((r.getD (((v9.getD (v11 : Int).toNat (0,(ByteArray.empty,0))).1) : Int).toNat 0) + (((v9.getD (v11 : Int).toNat (0,(ByteArray.empty,0))).2).2))))
 else
 none
 else
 none
 else
 L3 p v9 v10 (IntKind.i64.wrap (v11 + 1)) r
 else
 none
 else
 some r
def QO.l3 (n : Nat) : Nat → ByteArray → YL → Int → Int → List Int → Option YQ
 | 0 => fun _ _ _ _ _ => none
 | k + 1 => QO.g3 (QO.l3 n k)
def QO.top (I3 : ByteArray → YL → Int → Int → List Int → Option YQ) (q : List YD) (p : ByteArray) : Option YQ :=
 @ite _ ((0 : Int) ≤ 4 ∧ (4 : Int) < room 8 ∧ (4 : Int) = 4) (Classical.propDecidable _) (
 I3 p q (q.length : Int) 0 (List.replicate (4 : Int).toNat 0)
 ) (
 none
 )
def QO.fn (n : Nat) (q : List YD) (p : ByteArray) : Option YQ := QO.top (QO.l3 n n) q p
def QO.f (q : List YD) (p : ByteArray) : Option YQ := QO.fn NN q p
end
end Go.Pl

namespace Go.Pl
open Go.Ev
set_option linter.unusedVariables false
noncomputable section
def Qaq.top (q : List YD) (p : ByteArray) : Option Int :=
 (QO.f q p).bind fun r1 =>
 if (0 : Int) ≤ 0 ∧ (0 : Int) < r1.length then
 if (0 : Int) ≤ 1 ∧ (1 : Int) < r1.length then
 if (0 : Int) ≤ 2 ∧ (2 : Int) < r1.length then
 if (0 : Int) ≤ 3 ∧ (3 : Int) < r1.length then
 some (IntKind.i64.wrap ((IntKind.i64.wrap ((IntKind.i64.wrap ((r1.getD (0 : Int).toNat 0) - (r1.getD (1 : Int).toNat 0))) - (r1.getD (2 : Int).toNat 0))) - (r1.getD (3 : Int).toNat 0)))
 else
 none
 else
 none
 else
 none
 else
 none
def Qaq.fn (n : Nat) (q : List YD) (p : ByteArray) : Option Int := Qaq.top q p
def Qaq.f (q : List YD) (p : ByteArray) : Option Int := Qaq.fn NN q p
end
end Go.Pl

namespace Go.Pl
open Go.Ev
set_option linter.unusedVariables false
noncomputable section
def Qu.g4 (L4 : YL → YL → Int → Int → Option Bool) (p : List YD) (v8 : List YD) (v9 : Int) (v10 : Int) : Option Bool :=
 if (decide ((v10 : Int) < v9)) = true then
 if (0 : Int) ≤ v10 ∧ (v10 : Int) < v8.length then
 (Q2.f ((v8.getD (v10 : Int).toNat (0,(ByteArray.empty,0))).1) 0 3).bind fun r1 =>
 if (!r1) = false then
 (QT.f (((v8.getD (v10 : Int).toNat (0,(ByteArray.empty,0))).2).1)).bind fun r2 =>
 if (!r2) = false then
 (Q2.f (((v8.getD (v10 : Int).toNat (0,(ByteArray.empty,0))).2).2) 1 1000).bind fun r3 =>
 if (!r3) = false then
 if (0 : Int) ≤ (IntKind.i64.wrap (v10 + 1)) ∧ ((IntKind.i64.wrap (v10 + 1)) : Int) ≤ p.length then
 (Qaq.f (p.take ((IntKind.i64.wrap (v10 + 1)) : Int).toNat) (((v8.getD (v10 : Int).toNat (0,(ByteArray.empty,0))).2).1)).bind fun r4 =>
 if (decide ((r4 : Int) < 0)) = true then
 some false
 else
 L4 p v8 v9 (IntKind.i64.wrap (v10 + 1))
 else
 none
 else
 some false
 else
 some false
 else
 some false
 else
 none
 else
 some true
def Qu.l4 (n : Nat) : Nat → YL → YL → Int → Int → Option Bool
 | 0 => fun _ _ _ _ => none
 | k + 1 => Qu.g4 (Qu.l4 n k)
def Qu.top (I4 : YL → YL → Int → Int → Option Bool) (p : List YD) : Option Bool :=
 if (decide ((60 : Int) < (p.length : Int))) = true then
 some false
 else
 I4 p p (p.length : Int) 0
def Qu.fn (n : Nat) (p : List YD) : Option Bool := Qu.top (Qu.l4 n n) p
def Qu.f (p : List YD) : Option Bool := Qu.fn NN p
end
end Go.Pl

namespace Go.Pl
open Go.Ev
set_option linter.unusedVariables false
noncomputable section
def Qau.top (a0 : ByteArray × Int × Int × Int × Int × Int × Int × Int × Int) : Option Bool :=
 (QT.f a0.1).bind fun r1 =>
 if r1 = true then
 (Q2.f a0.2.1 0 3).bind fun r2 =>
 if r2 = true then
 (Q2.f a0.2.2.1 20 300).bind fun r3 =>
 if r3 = true then
 (Q2.f a0.2.2.2.1 0 10000).bind fun r4 =>
 if r4 = true then
 (Q2.f a0.2.2.2.2.1 0 a0.2.2.2.1).bind fun r5 =>
 if r5 = true then
 (Q2.f a0.2.2.2.2.2.1 1 50).bind fun r6 =>
 if r6 = true then
 (Q2.f a0.2.2.2.2.2.2.1 0 10000).bind fun r7 =>
 if r7 = true then
 (Q2.f a0.2.2.2.2.2.2.2.1 1 100000).bind fun r8 =>
 if r8 = true then
 (Q2.f a0.2.2.2.2.2.2.2.2 0 3).bind fun r9 =>
 some r9
 else
 some false
 else
 some false
 else
 some false
 else
 some false
 else
 some false
 else
 some false
 else
 some false
 else
 some false
def Qau.fn (n : Nat) (a0 : ByteArray × Int × Int × Int × Int × Int × Int × Int × Int) : Option Bool := Qau.top a0
def Qau.f (a0 : ByteArray × Int × Int × Int × Int × Int × Int × Int × Int) : Option Bool := Qau.fn NN a0
end
end Go.Pl

namespace Go.Pl
open Go.Ev
set_option linter.unusedVariables false
noncomputable section
def Qo.g4 (L4 : YG → YG → Int → Int → Option Bool) (p : List YA) (v8 : List YA) (v9 : Int) (v10 : Int) : Option Bool :=
 if (decide ((v10 : Int) < v9)) = true then
 if (0 : Int) ≤ v10 ∧ (v10 : Int) < v8.length then
 (Qau.f (v8.getD (v10 : Int).toNat (ByteArray.empty,(0,(0,(0,(0,(0,(0,(0,0)))))))))).bind fun r1 =>
 if (!r1) = false then
 if (decide ((0 : Int) < v10)) = true then
 if (0 : Int) ≤ (IntKind.i64.wrap (v10 - 1)) ∧ ((IntKind.i64.wrap (v10 - 1)) : Int) < p.length then
 if (!(Op.bytesLess ((p.getD ((IntKind.i64.wrap (v10 - 1)) : Int).toNat (ByteArray.empty,(0,(0,(0,(0,(0,(0,(0,0))))))))).1).toList ((v8.getD (v10 : Int).toNat (ByteArray.empty,(0,(0,(0,(0,(0,(0,(0,0))))))))).1).toList)) = true then
 some false
 else
 L4 p v8 v9 (IntKind.i64.wrap (v10 + 1))
 else
 none
 else
 L4 p v8 v9 (IntKind.i64.wrap (v10 + 1))
 else
 some false
 else
 none
 else
 some true
def Qo.l4 (n : Nat) : Nat → YG → YG → Int → Int → Option Bool
 | 0 => fun _ _ _ _ => none
 | k + 1 => Qo.g4 (Qo.l4 n k)
def Qo.top (I4 : YG → YG → Int → Int → Option Bool) (p : List YA) : Option Bool :=
 if (decide ((12 : Int) < (p.length : Int))) = true then
 some false
 else
 I4 p p (p.length : Int) 0
def Qo.fn (n : Nat) (p : List YA) : Option Bool := Qo.top (Qo.l4 n n) p
def Qo.f (p : List YA) : Option Bool := Qo.fn NN p
end
end Go.Pl

namespace Go.Pl
open Go.Ev
set_option linter.unusedVariables false
noncomputable section
def QA.g2 (L2 : ByteArray → YG → Int → Int → Option Int) (p : ByteArray) (v7 : List YA) (v8 : Int) (v9 : Int) : Option Int :=
 if (decide ((v9 : Int) < v8)) = true then
 if (0 : Int) ≤ v9 ∧ (v9 : Int) < v7.length then
 if (((v7.getD (v9 : Int).toNat (ByteArray.empty,(0,(0,(0,(0,(0,(0,(0,0))))))))).1).toList == p.toList) = true then
 some v9
 else
 L2 p v7 v8 (IntKind.i64.wrap (v9 + 1))
 else
 none
 else
 some (-1)
def QA.l2 (n : Nat) : Nat → ByteArray → YG → Int → Int → Option Int
 | 0 => fun _ _ _ _ => none
 | k + 1 => QA.g2 (QA.l2 n k)
def QA.top (I2 : ByteArray → YG → Int → Int → Option Int) (q : List YA) (p : ByteArray) : Option Int :=
 I2 p q (q.length : Int) 0
def QA.fn (n : Nat) (q : List YA) (p : ByteArray) : Option Int := QA.top (QA.l2 n n) q p
def QA.f (q : List YA) (p : ByteArray) : Option Int := QA.fn NN q p
end
end Go.Pl

namespace Go.Pl
open Go.Ev
set_option linter.unusedVariables false
noncomputable section
def QaD.top (x0 : YF × YG × List YB) (c1 : Int × Int × ByteArray × Int) : Option Int :=
 (QA.f x0.2.1 c1.2.2.1).bind fun r1 =>
 if (decide ((r1 : Int) < 0)) = false then
 (QaJ.f x0.1 c1.1 c1.2.1).bind fun r2 =>
 if (!r2) = true then
 some (-1)
 else if (0 : Int) ≤ r1 ∧ (r1 : Int) < x0.2.1.length then
 (QK.f x0.1 c1.1 c1.2.1).bind fun r3 =>
 some (if (IntKind.i64.wrap (r3 - (((((x0.2.1.getD (r1 : Int).toNat (ByteArray.empty,(0,(0,(0,(0,(0,(0,(0,0))))))))).2).2).2).1))) > (-1) then (IntKind.i64.wrap (r3 - (((((x0.2.1.getD (r1 : Int).toNat (ByteArray.empty,(0,(0,(0,(0,(0,(0,(0,0))))))))).2).2).2).1))) else (-1))
 else
 none
 else
 some (-1)
def QaD.fn (n : Nat) (x0 : YF × YG × List YB) (c1 : Int × Int × ByteArray × Int) : Option Int := QaD.top x0 c1
def QaD.f (x0 : YF × YG × List YB) (c1 : Int × Int × ByteArray × Int) : Option Int := QaD.fn NN x0 c1
end
end Go.Pl

namespace Go.Pl
open Go.Ev
set_option linter.unusedVariables false
noncomputable section
def Qab.g4 (L4 : YM → Int → Int → YH → Option Bool) (v22 : List YB) (v23 : Int) (v24 : Int) (x1 : YF × YG × List YB) : Option Bool :=
 if (decide ((v24 : Int) < v23)) = true then
 if (0 : Int) ≤ v24 ∧ (v24 : Int) < v22.length then
 (Q2.f ((((v22.getD (v24 : Int).toNat (0,(0,(ByteArray.empty,0)))).2).2).2) 0 11).bind fun r3 =>
 if (!r3) = false then
 (QaD.f x1 (v22.getD (v24 : Int).toNat (0,(0,(ByteArray.empty,0))))).bind fun r4 =>
 if (decide ((r4 : Int) < 0)) = true then
 some false
 else
 L4 v22 v23 (IntKind.i64.wrap (v24 + 1)) x1
 else
 some false
 else
 none
 else
 some true
def Qab.l4 (n : Nat) : Nat → YM → Int → Int → YH → Option Bool
 | 0 => fun _ _ _ _ => none
 | k + 1 => Qab.g4 (Qab.l4 n k)
def Qab.top (I4 : YM → Int → Int → YH → Option Bool) (x0 : YF × YG × List YB) : Option Bool :=
 (QX.f x0.1).bind fun r1 =>
 if (!r1) = false then
 (Qo.f x0.2.1).bind fun r2 =>
 if (!r2) = false then
 if (decide ((20 : Int) < (x0.2.2.length : Int))) = true then
 some false
 else
 I4 x0.2.2 (x0.2.2.length : Int) 0 x0
 else
 some false
 else
 some false
def Qab.fn (n : Nat) (x0 : YF × YG × List YB) : Option Bool := Qab.top (Qab.l4 n n) x0
def Qab.f (x0 : YF × YG × List YB) : Option Bool := Qab.fn NN x0
end
end Go.Pl

namespace Go.Pl
open Go.Ev
set_option linter.unusedVariables false
noncomputable section
def Qj.g13 (L13 : Int → Int → YH → YL → List Int → Option YAD) (v71 : Int) (v72 : Int) (x4 : YF × YG × List YB) (s : List YD) (v70 : List Int) : Option YAD :=
 if (decide ((v72 : Int) < v71)) = true then
 if (0 : Int) ≤ v72 ∧ (v72 : Int) < v70.length then
 if (decide ((0 : Int) < (v70.getD (v72 : Int).toNat 0))) = true then
 if (0 : Int) ≤ v72 ∧ (v72 : Int) < x4.2.1.length then
 if s.length + ([(1,((x4.2.1.getD (v72 : Int).toNat (ByteArray.empty,(0,(0,(0,(0,(0,(0,(0,0))))))))).1,v70.getD (v72 : Int).toNat 0))]).length < room 32 then
 L13 v71 (IntKind.i64.wrap (v72 + 1)) x4 (s ++ ([(1,((x4.2.1.getD (v72 : Int).toNat (ByteArray.empty,(0,(0,(0,(0,(0,(0,(0,0))))))))).1,v70.getD (v72 : Int).toNat 0))])) v70
 else
 none
 else
 none
 else
 L13 v71 (IntKind.i64.wrap (v72 + 1)) x4 s v70
 else
 none
 else if (decide ((60 : Int) < (s.length : Int))) = true then
 some ([],3)
 else
 (Qu.f s).bind fun r6 =>
 if (!r6) = true then
 some ([],5)
 else
 some (s,0)
def Qj.l13 (n : Nat) : Nat → Int → Int → YH → YL → List Int → Option YAD
 | 0 => fun _ _ _ _ _ => none
 | k + 1 => Qj.g13 (Qj.l13 n k)
def Qj.g5 (I13 : Int → Int → YH → YL → List Int → Option YAD) (L5 : YL → List Int → List Int → Int → Int → YH → List Int → Option YAD) (r : List YD) (p : List Int) (v26 : List Int) (v27 : Int) (v28 : Int) (x4 : YF × YG × List YB) (q : List Int) : Option YAD :=
 if (decide ((v28 : Int) < v27)) = true then
 if (0 : Int) ≤ v28 ∧ (v28 : Int) < v26.length then
 (QaC.f (v26.getD (v28 : Int).toNat 0) (x4.2.2.length : Int)).bind fun r3 =>
 if (!r3) = false then
 if (decide ((0 : Int) < v28)) = true then
 if (0 : Int) ≤ (IntKind.i64.wrap (v28 - 1)) ∧ ((IntKind.i64.wrap (v28 - 1)) : Int) < p.length then
 if (decide (((v26.getD (v28 : Int).toNat 0) : Int) ≤ (p.getD ((IntKind.i64.wrap (v28 - 1)) : Int).toNat 0))) = true then
 some ([],2)
 else if (0 : Int) ≤ (v26.getD (v28 : Int).toNat 0) ∧ ((v26.getD (v28 : Int).toNat 0) : Int) < x4.2.2.length then
 (QA.f x4.2.1 ((((x4.2.2.getD ((v26.getD (v28 : Int).toNat 0) : Int).toNat (0,(0,(ByteArray.empty,0)))).2).2).1)).bind fun r4 =>
 if (0 : Int) ≤ r4 ∧ (r4 : Int) < q.length then
 if (0 : Int) ≤ r4 ∧ (r4 : Int) < q.length then
 L5 r p v26 v27 (IntKind.i64.wrap (v28 + 1)) x4 (q.set (r4 : Int).toNat (IntKind.i64.wrap ((q.getD (r4 : Int).toNat 0) + 1)))
 else
 none
 else
 none
 else
 none
 else
 none
 else if (0 : Int) ≤ (v26.getD (v28 : Int).toNat 0) ∧ ((v26.getD (v28 : Int).toNat 0) : Int) < x4.2.2.length then
 (QA.f x4.2.1 ((((x4.2.2.getD ((v26.getD (v28 : Int).toNat 0) : Int).toNat (0,(0,(ByteArray.empty,0)))).2).2).1)).bind fun r5 =>
 if (0 : Int) ≤ r5 ∧ (r5 : Int) < q.length then
 if (0 : Int) ≤ r5 ∧ (r5 : Int) < q.length then
 L5 r p v26 v27 (IntKind.i64.wrap (v28 + 1)) x4 (q.set (r5 : Int).toNat (IntKind.i64.wrap ((q.getD (r5 : Int).toNat 0) + 1)))
 else
 none
 else
 none
 else
 none
 else
 some ([],2)
 else
 none
 else if ([] : List YD).length + r.length < room 32 then
 I13 (q.length : Int) 0 x4 (([] : List YD) ++ r) q
 else
 none
def Qj.l5 (n : Nat) : Nat → YL → List Int → List Int → Int → Int → YH → List Int → Option YAD
 | 0 => fun _ _ _ _ _ _ _ => none
 | k + 1 => Qj.g5 (Qj.l13 n n) (Qj.l5 n k)
def Qj.top (I5 : YL → List Int → List Int → Int → Int → YH → List Int → Option YAD) (r : List YD) (x1 : YF × YG × List YB) (p : List Int) : Option YAD :=
 (Qu.f r).bind fun r1 =>
 if (!r1) = false then
 (Qab.f x1).bind fun r2 =>
 if (!r2) = true then
 some ([],1)
 else
 @ite _ ((0 : Int) ≤ (x1.2.1.length : Int) ∧ ((x1.2.1.length : Int) : Int) < room 8 ∧ ((x1.2.1.length : Int) : Int) = (x1.2.1.length : Int)) (Classical.propDecidable _) (
 I5 r p p (p.length : Int) 0 x1 (List.replicate ((x1.2.1.length : Int) : Int).toNat 0)
 ) (
 none
 )
 else
 some ([],1)
def Qj.fn (n : Nat) (r : List YD) (x1 : YF × YG × List YB) (p : List Int) : Option YAD := Qj.top (Qj.l5 n n) r x1 p
def Qj.f (r : List YD) (x1 : YF × YG × List YB) (p : List Int) : Option YAD := Qj.fn NN r x1 p
end
end Go.Pl

namespace Go.Pl
open Go.Ev
set_option linter.unusedVariables false
noncomputable section
def QaK.top (p : Int) : Option Bool :=
 (Q2.f p 0 100000).bind fun r1 =>
 some r1
def QaK.fn (n : Nat) (p : Int) : Option Bool := QaK.top p
def QaK.f (p : Int) : Option Bool := QaK.fn NN p
end
end Go.Pl

namespace Go.Pl
open Go.Ev
set_option linter.unusedVariables false
noncomputable section
def Qw.g4 (L4 : YF → YF → Int → Int → Option Bool) (p : List YC) (v8 : List YC) (v9 : Int) (v10 : Int) : Option Bool :=
 if (decide ((v10 : Int) < v9)) = true then
 if (0 : Int) ≤ v10 ∧ (v10 : Int) < v8.length then
 (QaK.f ((v8.getD (v10 : Int).toNat (0,0)).1)).bind fun r1 =>
 if (!r1) = false then
 (Q2.f ((v8.getD (v10 : Int).toNat (0,0)).2) 0 9).bind fun r2 =>
 if (!r2) = false then
 if ((((v8.getD (v10 : Int).toNat (0,0)).2) : Int) == 8) = false then
 if (decide ((0 : Int) < v10)) = true then
 if (0 : Int) ≤ (IntKind.i64.wrap (v10 - 1)) ∧ ((IntKind.i64.wrap (v10 - 1)) : Int) < p.length then
 if (decide ((((v8.getD (v10 : Int).toNat (0,0)).1) : Int) < ((p.getD ((IntKind.i64.wrap (v10 - 1)) : Int).toNat (0,0)).1))) = true then
 some false
 else
 L4 p v8 v9 (IntKind.i64.wrap (v10 + 1))
 else
 none
 else
 L4 p v8 v9 (IntKind.i64.wrap (v10 + 1))
 else
 some false
 else
 some false
 else
 some false
 else
 none
 else
 some true
def Qw.l4 (n : Nat) : Nat → YF → YF → Int → Int → Option Bool
 | 0 => fun _ _ _ _ => none
 | k + 1 => Qw.g4 (Qw.l4 n k)
def Qw.top (I4 : YF → YF → Int → Int → Option Bool) (p : List YC) : Option Bool :=
 if (decide ((40 : Int) < (p.length : Int))) = true then
 some false
 else
 I4 p p (p.length : Int) 0
def Qw.fn (n : Nat) (p : List YC) : Option Bool := Qw.top (Qw.l4 n n) p
def Qw.f (p : List YC) : Option Bool := Qw.fn NN p
end
end Go.Pl

namespace Go.Pl
open Go.Ev
set_option linter.unusedVariables false
noncomputable section
def QaR.top (c0 : Bool × Bool × Bool × Bool × Bool × Int) : Option YE :=
 some (c0.1,(c0.2.1,(false,(false,c0.2.2.2.2))))
def QaR.fn (n : Nat) (c0 : Bool × Bool × Bool × Bool × Bool × Int) : Option YE := QaR.top c0
def QaR.f (c0 : Bool × Bool × Bool × Bool × Bool × Int) : Option YE := QaR.fn NN c0
end
end Go.Pl

namespace Go.Pl
open Go.Ev
set_option linter.unusedVariables false
noncomputable section
def Qaj.top (c0 : Bool × Bool × Bool × Bool × Bool × Int) (p : Int) : Option YW :=
 if ((p : Int) == 0) = true then
 if (!(!c0.1)) = true then
 (QaR.f (!c0.1,c0.2)).bind fun r1 =>
 some (r1,0)
 else
 some ((!c0.1,c0.2),0)
 else if ((p : Int) == 1) = true then
 if (!(!c0.2.1)) = true then
 (QaR.f (c0.1,(!c0.2.1,c0.2.2))).bind fun r2 =>
 some (r2,0)
 else
 some ((c0.1,(!c0.2.1,c0.2.2)),0)
 else if ((p : Int) == 2) = true then
 if (!c0.1) = false then
 if (!c0.2.1) = false then
 if c0.2.2.2.2.1 = true then
 some ((false,(false,(false,(false,(false,0))))),5)
 else
 some ((c0.1,(c0.2.1,(true,(false,(c0.2.2.2.2.1,0))))),0)
 else
 some ((false,(false,(false,(false,(false,0))))),5)
 else
 some ((false,(false,(false,(false,(false,0))))),5)
 else if ((p : Int) == 3) = true then
 (QaR.f c0).bind fun r3 =>
 some (r3,0)
 else if ((p : Int) == 4) = true then
 if (!c0.2.2.1) = false then
 if c0.2.2.2.1 = true then
 some ((false,(false,(false,(false,(false,0))))),5)
 else
 some ((c0.1,(c0.2.1,(c0.2.2.1,(true,c0.2.2.2.2)))),0)
 else
 some ((false,(false,(false,(false,(false,0))))),5)
 else if ((p : Int) == 5) = true then
 if (!c0.2.2.2.1) = true then
 some ((false,(false,(false,(false,(false,0))))),5)
 else
 some ((c0.1,(c0.2.1,(c0.2.2.1,(false,c0.2.2.2.2)))),0)
 else if ((p : Int) == 6) = true then
 (QaR.f c0).bind fun r4 =>
 some ((r4.1,(r4.2.1,(r4.2.2.1,(r4.2.2.2.1,(true,r4.2.2.2.2.2))))),0)
 else if ((p : Int) == 7) = true then
 some ((c0.1,(c0.2.1,(c0.2.2.1,(c0.2.2.2.1,(c0.2.2.2.2.1,0))))),0)
 else if ((p : Int) == 8) = true then
 if (decide ((3 : Int) < (if 4 < (IntKind.i64.wrap (c0.2.2.2.2.2 + 1)) then 4 else (IntKind.i64.wrap (c0.2.2.2.2.2 + 1))))) = true then
 (QaR.f (c0.1,(c0.2.1,(c0.2.2.1,(c0.2.2.2.1,(c0.2.2.2.2.1,(if 4 < (IntKind.i64.wrap (c0.2.2.2.2.2 + 1)) then 4 else (IntKind.i64.wrap (c0.2.2.2.2.2 + 1))))))))).bind fun r5 =>
 some (r5,0)
 else
 some ((c0.1,(c0.2.1,(c0.2.2.1,(c0.2.2.2.1,(c0.2.2.2.2.1,(if 4 < (IntKind.i64.wrap (c0.2.2.2.2.2 + 1)) then 4 else (IntKind.i64.wrap (c0.2.2.2.2.2 + 1)))))))),0)
 else if ((p : Int) == 9) = true then
 if (!c0.2.2.2.2.1) = false then
 if c0.1 = false then
 if c0.2.1 = true then
 some ((false,(false,(false,(false,(false,0))))),5)
 else
 some ((c0.1,(c0.2.1,(c0.2.2.1,(c0.2.2.2.1,(false,c0.2.2.2.2.2))))),0)
 else
 some ((false,(false,(false,(false,(false,0))))),5)
 else
 some ((false,(false,(false,(false,(false,0))))),5)
 else
 some ((false,(false,(false,(false,(false,0))))),2)
def Qaj.fn (n : Nat) (c0 : Bool × Bool × Bool × Bool × Bool × Int) (p : Int) : Option YW := Qaj.top c0 p
def Qaj.f (c0 : Bool × Bool × Bool × Bool × Bool × Int) (p : Int) : Option YW := Qaj.fn NN c0 p
end
end Go.Pl

namespace Go.Pl
open Go.Ev
set_option linter.unusedVariables false
noncomputable section
def Qb.gk0001 (L7 : YZ) (Lk0001 : YY) (p : Int) (v4a : Bool) (y : Bool) (v : Bool) (t : Bool) (q : Bool) (r : Int) (d6a : List YC) (z : Int) (u : Int) (w : Bool × Bool × Bool × Bool × Bool × Int) (w2 : List Int) (w0a : Bool) (Q : Bool) (m : Bool) (e : Bool) (a : Bool) (b : Int) (d0a : List YC) (s : Int) (g : Int) (i : Bool × Bool × Bool × Bool × Bool × Int) (w2' : List Int) : Option YW :=
 if (decide ((s : Int) < (d0a.length : Int))) = true then
 if (0 : Int) ≤ s ∧ (s : Int) < d0a.length then
 if ((((d0a.getD (s : Int).toNat (0,0)).1) : Int) == g) = true then
 if (0 : Int) ≤ s ∧ (s : Int) < d0a.length then
 (Qaj.f i ((d0a.getD (s : Int).toNat (0,0)).2)).bind fun r5 =>
 if ((r5.2 : Int) == 0) = true then
 Lk0001 p v4a y v t q r d6a z u w w2 w0a Q m e a b d0a (IntKind.i64.wrap (s + 1)) g r5.1 w2'
 else if w2'.length + ([s]).length < room 8 then
 Lk0001 p v4a y v t q r d6a z u w w2 w0a Q m e a b d0a (IntKind.i64.wrap (s + 1)) g i (w2' ++ ([s]))
 else
 none
 else
 none
 else
 L7 p w0a Q m e a b d0a s g i w2'
 else
 none
 else
 L7 p w0a Q m e a b d0a s g i w2'
def Qb.lk0001 (n : Nat) (L7 : YZ) : Nat → Int → Bool → Bool → Bool → Bool → Bool → Int → YF → Int → Int → YE → List Int → Bool → Bool → Bool → Bool → Bool → Int → YF → Int → Int → YE → List Int → Option YW
 | 0 => fun _ _ _ _ _ _ _ _ _ _ _ _ _ _ _ _ _ _ _ _ _ _ _ => none
 | k + 1 => Qb.gk0001 L7 (Qb.lk0001 n L7 k)
def Qb.gk09 (Ik0001 : YY) (L7 : YZ) (Lk09 : YZ) (p : Int) (v4a : Bool) (y : Bool) (v : Bool) (t : Bool) (q : Bool) (r : Int) (d6a : List YC) (z : Int) (u : Int) (w : Bool × Bool × Bool × Bool × Bool × Int) (w2 : List Int) : Option YW :=
 Ik0001 p v4a y v t q r d6a z u w w2 v4a y v t q r d6a z u w w2
def Qb.lk09 (n : Nat) (L7 : YZ) : Nat → Int → Bool → Bool → Bool → Bool → Bool → Int → YF → Int → Int → YE → List Int → Option YW
 | 0 => fun _ _ _ _ _ _ _ _ _ _ _ _ => none
 | k + 1 => Qb.gk09 (Qb.lk0001 n L7 n) L7 (Qb.lk09 n L7 k)
theorem Qb.ck09 {n : Nat} (h : 0 < n) (L7 : YZ) : Qb.lk09 n L7 n = Qb.gk09 (Qb.lk0001 n L7 n) L7 (Qb.lk09 n L7 (n - 1)) := by
  cases n with
  | zero => exact absurd h (Nat.lt_irrefl 0)
  | succ n => rfl
def Qb.gk08 (Ik09 : YZ) (L7 : YZ) (Lk08 : YZ) (p : Int) (v4a : Bool) (y : Bool) (v : Bool) (t : Bool) (q : Bool) (r : Int) (d6a : List YC) (z : Int) (u : Int) (w : Bool × Bool × Bool × Bool × Bool × Int) (w2 : List Int) : Option YW :=
 (Qaj.f w 8).bind fun r4 =>
 Ik09 p v4a y v t q r d6a z (IntKind.i64.wrap (u + 1)) r4.1 w2
def Qb.lk08 (n : Nat) (L7 : YZ) : Nat → Int → Bool → Bool → Bool → Bool → Bool → Int → YF → Int → Int → YE → List Int → Option YW
 | 0 => fun _ _ _ _ _ _ _ _ _ _ _ _ => none
 | k + 1 => Qb.gk08 (Qb.lk09 n L7 n) L7 (Qb.lk08 n L7 k)
theorem Qb.ck08 {n : Nat} (h : 0 < n) (L7 : YZ) : Qb.lk08 n L7 n = Qb.gk08 (Qb.lk09 n L7 n) L7 (Qb.lk08 n L7 (n - 1)) := by
  cases n with
  | zero => exact absurd h (Nat.lt_irrefl 0)
  | succ n => rfl
def Qb.g7 (Ik08 : YZ) (L7 : YZ) (p : Int) (v4a : Bool) (y : Bool) (v : Bool) (t : Bool) (q : Bool) (r : Int) (d6a : List YC) (z : Int) (u : Int) (w : Bool × Bool × Bool × Bool × Bool × Int) (w2 : List Int) : Option YW :=
 if (decide ((u : Int) < p)) = true then
 Ik08 p v4a y v t q r d6a z u w w2
 else
 some (w,0)
def Qb.l7 (n : Nat) : Nat → Int → Bool → Bool → Bool → Bool → Bool → Int → YF → Int → Int → YE → List Int → Option YW
 | 0 => fun _ _ _ _ _ _ _ _ _ _ _ _ => none
 | k + 1 => Qb.g7 (Qb.lk08 n (Qb.l7 n k) n) (Qb.l7 n k)
def Qb.gk07 (I7 : YZ) (Lk07 : YZ) (p : Int) (v4a : Bool) (y : Bool) (v : Bool) (t : Bool) (q : Bool) (r : Int) (d6a : List YC) (z : Int) (u : Int) (w : Bool × Bool × Bool × Bool × Bool × Int) (w2 : List Int) : Option YW :=
 I7 p v4a y v t q r d6a z u w w2
def Qb.lk07 (n : Nat) : Nat → Int → Bool → Bool → Bool → Bool → Bool → Int → YF → Int → Int → YE → List Int → Option YW
 | 0 => fun _ _ _ _ _ _ _ _ _ _ _ _ => none
 | k + 1 => Qb.gk07 (Qb.l7 n n) (Qb.lk07 n k)
theorem Qb.ck07 {n : Nat} (h : 0 < n) : Qb.lk07 n n = Qb.gk07 (Qb.l7 n n) (Qb.lk07 n (n - 1)) := by
  cases n with
  | zero => exact absurd h (Nat.lt_irrefl 0)
  | succ n => rfl
def Qb.g70000001 (Ik07 : YZ) (L70000001 : YX) (p : Int) (v4a : Bool) (y : Bool) (v : Bool) (t : Bool) (q : Bool) (r : Int) (d6a : List YC) (z : Int) (u : Int) (K : Bool) (o : Bool) (l : Bool) (j : Bool) (c : Bool) (d : Int) (w2 : List Int) (w0a : Bool) (Q : Bool) (m : Bool) (e : Bool) (a : Bool) (b : Int) (d0a : List YC) (s : Int) (g : Int) (i : Bool × Bool × Bool × Bool × Bool × Int) (w2' : List Int) : Option YW :=
 if (decide ((s : Int) < (d0a.length : Int))) = true then
 if (0 : Int) ≤ s ∧ (s : Int) < d0a.length then
 if ((((d0a.getD (s : Int).toNat (0,0)).1) : Int) == g) = true then
 if (0 : Int) ≤ s ∧ (s : Int) < d0a.length then
 (Qaj.f i ((d0a.getD (s : Int).toNat (0,0)).2)).bind fun r3 =>
 if ((r3.2 : Int) == 0) = true then
 L70000001 p v4a y v t q r d6a z u K o l j c d w2 w0a Q m e a b d0a (IntKind.i64.wrap (s + 1)) g r3.1 w2'
 else if w2'.length + ([s]).length < room 8 then
 L70000001 p v4a y v t q r d6a z u K o l j c d w2 w0a Q m e a b d0a (IntKind.i64.wrap (s + 1)) g i (w2' ++ ([s]))
 else
 none
 else
 none
 else
 Ik07 p w0a Q m e a b d0a s g i w2'
 else
 none
 else
 Ik07 p w0a Q m e a b d0a s g i w2'
def Qb.l70000001 (n : Nat) : Nat → Int → Bool → Bool → Bool → Bool → Bool → Int → YF → Int → Int → Bool → Bool → Bool → Bool → Bool → Int → List Int → Bool → Bool → Bool → Bool → Bool → Int → YF → Int → Int → YE → List Int → Option YW
 | 0 => fun _ _ _ _ _ _ _ _ _ _ _ _ _ _ _ _ _ _ _ _ _ _ _ _ _ _ _ _ => none
 | k + 1 => Qb.g70000001 (Qb.lk07 n n) (Qb.l70000001 n k)
def Qb.gk06 (I70000001 : YX) (Lk06 : YAS) (p : Int) (v4a : Bool) (y : Bool) (v : Bool) (t : Bool) (q : Bool) (r : Int) (d6a : List YC) (z : Int) (u : Int) (K : Bool) (o : Bool) (l : Bool) (j : Bool) (c : Bool) (d : Int) (w2 : List Int) : Option YW :=
 I70000001 p v4a y v t q r d6a z u K o l j c d w2 v4a y v t q r d6a z u (K,(o,(l,(j,(c,d))))) w2
def Qb.lk06 (n : Nat) : Nat → Int → Bool → Bool → Bool → Bool → Bool → Int → YF → Int → Int → Bool → Bool → Bool → Bool → Bool → Int → List Int → Option YW
 | 0 => fun _ _ _ _ _ _ _ _ _ _ _ _ _ _ _ _ _ => none
 | k + 1 => Qb.gk06 (Qb.l70000001 n n) (Qb.lk06 n k)
theorem Qb.ck06 {n : Nat} (h : 0 < n) : Qb.lk06 n n = Qb.gk06 (Qb.l70000001 n n) (Qb.lk06 n (n - 1)) := by
  cases n with
  | zero => exact absurd h (Nat.lt_irrefl 0)
  | succ n => rfl
def Qb.top (Ik06 : YAS) (R : List YC) (p : Int) : Option YW :=
 (Qw.f R).bind fun r1 =>
 if (!r1) = true then
 some ((false,(false,(false,(false,(false,0))))),1)
 else
 (QaK.f p).bind fun r2 =>
 if (!r2) = true then
 some ((false,(false,(false,(false,(false,0))))),2)
 else
 Ik06 p false false false false false 0 R 0 0 false false false false false 0 []
def Qb.fn (n : Nat) (R : List YC) (p : Int) : Option YW := Qb.top (Qb.lk06 n n) R p
def Qb.f (R : List YC) (p : Int) : Option YW := Qb.fn NN R p
end
end Go.Pl

namespace Go.Pl
open Go.Ev
set_option linter.unusedVariables false
noncomputable section
def QH.g2 (L2 : Int → Int → List Int → Int → Int → Option Bool) (q : Int) (p : Int) (v9 : List Int) (v10 : Int) (v11 : Int) : Option Bool :=
 if (decide ((v11 : Int) < v10)) = true then
 if (0 : Int) ≤ v11 ∧ (v11 : Int) < v9.length then
 (Q2.f (v9.getD (v11 : Int).toNat 0) q p).bind fun r1 =>
 if (!r1) = true then
 some false
 else
 L2 q p v9 v10 (IntKind.i64.wrap (v11 + 1))
 else
 none
 else
 some true
def QH.l2 (n : Nat) : Nat → Int → Int → List Int → Int → Int → Option Bool
 | 0 => fun _ _ _ _ _ => none
 | k + 1 => QH.g2 (QH.l2 n k)
def QH.top (I2 : Int → Int → List Int → Int → Int → Option Bool) (r : List Int) (q : Int) (p : Int) : Option Bool :=
 I2 q p r (r.length : Int) 0
def QH.fn (n : Nat) (r : List Int) (q : Int) (p : Int) : Option Bool := QH.top (QH.l2 n n) r q p
def QH.f (r : List Int) (q : Int) (p : Int) : Option Bool := QH.fn NN r q p
end
end Go.Pl

namespace Go.Pl
open Go.Ev
set_option linter.unusedVariables false
noncomputable section
def Qao.top (p : List Int) : Option Bool :=
 if (decide (((p.length : Int) : Int) ≤ 20)) = true then
 (QH.f p 0 10000000).bind fun r1 =>
 some r1
 else
 some false
def Qao.fn (n : Nat) (p : List Int) : Option Bool := Qao.top p
def Qao.f (p : List Int) : Option Bool := Qao.fn NN p
end
end Go.Pl

namespace Go.Pl
open Go.Ev
set_option linter.unusedVariables false
noncomputable section
def QaH.top (p : List Int) (s : List YC) (q : List YD) (r : List ByteArray) : Option Bool :=
 (Qao.f p).bind fun r1 =>
 if r1 = true then
 (Qw.f s).bind fun r2 =>
 if r2 = true then
 (QG.f q).bind fun r3 =>
 if r3 = true then
 (QJ.f r).bind fun r4 =>
 some r4
 else
 some false
 else
 some false
 else
 some false
def QaH.fn (n : Nat) (p : List Int) (s : List YC) (q : List YD) (r : List ByteArray) : Option Bool := QaH.top p s q r
def QaH.f (p : List Int) (s : List YC) (q : List YD) (r : List ByteArray) : Option Bool := QaH.fn NN p s q r
end
end Go.Pl

namespace Go.Pl
open Go.Ev
set_option linter.unusedVariables false
noncomputable section
def QaL.top (c0 : Bool × Bool × Bool × Bool × Bool × Int) : Option Bool :=
 if c0.2.2.1 = true then
 some (!c0.2.2.2.1)
 else
 some false
def QaL.fn (n : Nat) (c0 : Bool × Bool × Bool × Bool × Bool × Int) : Option Bool := QaL.top c0
def QaL.f (c0 : Bool × Bool × Bool × Bool × Bool × Int) : Option Bool := QaL.fn NN c0
end
end Go.Pl

namespace Go.Pl
open Go.Ev
set_option linter.unusedVariables false
noncomputable section
def Qc.gk19 (L10 : YR) (Lk19 : YR) (p : List Int) (q : List YD) (r : List ByteArray) (s : Int) (v : List Int) (y : List YC) (w : Int) (u : Int) (t : Bool × Bool × Bool × Bool × Bool × Int) (w2 : List Int) : Option YQ :=
 (Qaj.f t 8).bind fun r4 =>
 L10 p q r s v y w (IntKind.i64.wrap (u + 1)) r4.1 w2
def Qc.lk19 (n : Nat) (L10 : YR) : Nat → List Int → YL → List ByteArray → Int → List Int → YF → Int → Int → YE → List Int → Option YQ
 | 0 => fun _ _ _ _ _ _ _ _ _ _ => none
 | k + 1 => Qc.gk19 L10 (Qc.lk19 n L10 k)
theorem Qc.ck19 {n : Nat} (h : 0 < n) (L10 : YR) : Qc.lk19 n L10 n = Qc.gk19 L10 (Qc.lk19 n L10 (n - 1)) := by
  cases n with
  | zero => exact absurd h (Nat.lt_irrefl 0)
  | succ n => rfl
def Qc.g14 (Ik19 : YR) (L10 : YR) (L14 : List Int → YL → List ByteArray → Int → List Int → Int → Int → List Int → YF → Int → Int → YE → List Int → Option YQ) (p : List Int) (q : List YD) (r : List ByteArray) (s : Int) (v50 : List Int) (v51 : Int) (v52 : Int) (v : List Int) (y : List YC) (w : Int) (u : Int) (t : Bool × Bool × Bool × Bool × Bool × Int) (w2 : List Int) : Option YQ :=
 if (decide ((v52 : Int) < v51)) = true then
 if (0 : Int) ≤ v52 ∧ (v52 : Int) < v50.length then
 if (((IntKind.i64.wrap (Int.tdiv (v50.getD (v52 : Int).toNat 0) 100)) : Int) == u) = true then
 (Qt.f q r (IntKind.i64.wrap (u * 100))).bind fun r3 =>
 if r3 = true then
 if (0 : Int) ≤ v52 ∧ (v52 : Int) < v.length then
 L14 p q r s v50 v51 (IntKind.i64.wrap (v52 + 1)) (v.set (v52 : Int).toNat u) y w u t w2
 else
 none
 else
 L14 p q r s v50 v51 (IntKind.i64.wrap (v52 + 1)) v y w u t w2
 else
 L14 p q r s v50 v51 (IntKind.i64.wrap (v52 + 1)) v y w u t w2
 else
 none
 else
 Ik19 p q r s v y w u t w2
def Qc.l14 (n : Nat) (L10 : YR) : Nat → List Int → YL → List ByteArray → Int → List Int → Int → Int → List Int → YF → Int → Int → YE → List Int → Option YQ
 | 0 => fun _ _ _ _ _ _ _ _ _ _ _ _ _ => none
 | k + 1 => Qc.g14 (Qc.lk19 n L10 n) L10 (Qc.l14 n L10 k)
def Qc.gk12 (I14 : List Int → YL → List ByteArray → Int → List Int → Int → Int → List Int → YF → Int → Int → YE → List Int → Option YQ) (Ik19 : YR) (L10 : YR) (Lk12 : YR) (p : List Int) (q : List YD) (r : List ByteArray) (s : Int) (v : List Int) (y : List YC) (w : Int) (u : Int) (t : Bool × Bool × Bool × Bool × Bool × Int) (w2 : List Int) : Option YQ :=
 (QaL.f t).bind fun r2 =>
 if r2 = true then
 I14 p q r s p (p.length : Int) 0 v y w u t w2
 else
 Ik19 p q r s v y w u t w2
def Qc.lk12 (n : Nat) (L10 : YR) : Nat → List Int → YL → List ByteArray → Int → List Int → YF → Int → Int → YE → List Int → Option YQ
 | 0 => fun _ _ _ _ _ _ _ _ _ _ => none
 | k + 1 => Qc.gk12 (Qc.l14 n L10 n) (Qc.lk19 n L10 n) L10 (Qc.lk12 n L10 k)
theorem Qc.ck12 {n : Nat} (h : 0 < n) (L10 : YR) : Qc.lk12 n L10 n = Qc.gk12 (Qc.l14 n L10 n) (Qc.lk19 n L10 n) L10 (Qc.lk12 n L10 (n - 1)) := by
  cases n with
  | zero => exact absurd h (Nat.lt_irrefl 0)
  | succ n => rfl
def Qc.g120000001 (Ik12 : YR) (L10 : YR) (L120000001 : YS) (p : List Int) (q : List YD) (r : List ByteArray) (s : Int) (v : List Int) (y : List YC) (w : Int) (u : Int) (t : Bool × Bool × Bool × Bool × Bool × Int) (w2 : List Int) (w0 : List Int) (d0a : List YC) (z : Int) (b : Int) (c : Bool × Bool × Bool × Bool × Bool × Int) (w2' : List Int) : Option YQ :=
 if (decide ((z : Int) < (d0a.length : Int))) = true then
 if (0 : Int) ≤ z ∧ (z : Int) < d0a.length then
 if ((((d0a.getD (z : Int).toNat (0,0)).1) : Int) == b) = true then
 if (0 : Int) ≤ z ∧ (z : Int) < d0a.length then
 (Qaj.f c ((d0a.getD (z : Int).toNat (0,0)).2)).bind fun r1 =>
 if ((r1.2 : Int) == 0) = true then
 L120000001 p q r s v y w u t w2 w0 d0a (IntKind.i64.wrap (z + 1)) b r1.1 w2'
 else if w2'.length + ([z]).length < room 8 then
 L120000001 p q r s v y w u t w2 w0 d0a (IntKind.i64.wrap (z + 1)) b c (w2' ++ ([z]))
 else
 none
 else
 none
 else
 Ik12 p q r s w0 d0a z b c w2'
 else
 none
 else
 Ik12 p q r s w0 d0a z b c w2'
def Qc.l120000001 (n : Nat) (L10 : YR) : Nat → List Int → YL → List ByteArray → Int → List Int → YF → Int → Int → YE → List Int → List Int → YF → Int → Int → YE → List Int → Option YQ
 | 0 => fun _ _ _ _ _ _ _ _ _ _ _ _ _ _ _ _ => none
 | k + 1 => Qc.g120000001 (Qc.lk12 n L10 n) L10 (Qc.l120000001 n L10 k)
def Qc.gk11 (I120000001 : YS) (L10 : YR) (Lk11 : YR) (p : List Int) (q : List YD) (r : List ByteArray) (s : Int) (v : List Int) (y : List YC) (w : Int) (u : Int) (t : Bool × Bool × Bool × Bool × Bool × Int) (w2 : List Int) : Option YQ :=
 I120000001 p q r s v y w u t w2 v y w u t w2
def Qc.lk11 (n : Nat) (L10 : YR) : Nat → List Int → YL → List ByteArray → Int → List Int → YF → Int → Int → YE → List Int → Option YQ
 | 0 => fun _ _ _ _ _ _ _ _ _ _ => none
 | k + 1 => Qc.gk11 (Qc.l120000001 n L10 n) L10 (Qc.lk11 n L10 k)
theorem Qc.ck11 {n : Nat} (h : 0 < n) (L10 : YR) : Qc.lk11 n L10 n = Qc.gk11 (Qc.l120000001 n L10 n) L10 (Qc.lk11 n L10 (n - 1)) := by
  cases n with
  | zero => exact absurd h (Nat.lt_irrefl 0)
  | succ n => rfl
def Qc.g10 (Ik11 : YR) (L10 : YR) (p : List Int) (q : List YD) (r : List ByteArray) (s : Int) (v : List Int) (y : List YC) (w : Int) (u : Int) (t : Bool × Bool × Bool × Bool × Bool × Int) (w2 : List Int) : Option YQ :=
 if (decide ((u : Int) ≤ s)) = true then
 Ik11 p q r s v y w u t w2
 else
 some v
def Qc.l10 (n : Nat) : Nat → List Int → YL → List ByteArray → Int → List Int → YF → Int → Int → YE → List Int → Option YQ
 | 0 => fun _ _ _ _ _ _ _ _ _ _ => none
 | k + 1 => Qc.g10 (Qc.lk11 n (Qc.l10 n k) n) (Qc.l10 n k)
def Qc.g4 (I10 : YR) (L4 : List Int → YF → YL → List ByteArray → Int → List Int → Int → Int → List Int → Option YQ) (p : List Int) (a : List YC) (q : List YD) (r : List ByteArray) (s : Int) (v19 : List Int) (v20 : Int) (v21 : Int) (v : List Int) : Option YQ :=
 if (decide ((v21 : Int) < v20)) = true then
 if (0 : Int) ≤ v21 ∧ (v21 : Int) < v19.length then
 if (0 : Int) ≤ v21 ∧ (v21 : Int) < v.length then
 L4 p a q r (if (IntKind.i64.wrap (Int.tdiv (v19.getD (v21 : Int).toNat 0) 100)) > s then (IntKind.i64.wrap (Int.tdiv (v19.getD (v21 : Int).toNat 0) 100)) else s) v19 v20 (IntKind.i64.wrap (v21 + 1)) (v.set (v21 : Int).toNat (-1))
 else
 none
 else
 none
 else
 I10 p q r s v a 0 0 (false,(false,(false,(false,(false,0))))) []
def Qc.l4 (n : Nat) : Nat → List Int → YF → YL → List ByteArray → Int → List Int → Int → Int → List Int → Option YQ
 | 0 => fun _ _ _ _ _ _ _ _ _ => none
 | k + 1 => Qc.g4 (Qc.l10 n n) (Qc.l4 n k)
def Qc.top (I4 : List Int → YF → YL → List ByteArray → Int → List Int → Int → Int → List Int → Option YQ) (p : List Int) (a : List YC) (q : List YD) (r : List ByteArray) : Option YQ :=
 @ite _ ((0 : Int) ≤ (p.length : Int) ∧ ((p.length : Int) : Int) < room 8 ∧ ((p.length : Int) : Int) = (p.length : Int)) (Classical.propDecidable _) (
 I4 p a q r 0 p (p.length : Int) 0 (List.replicate ((p.length : Int) : Int).toNat 0)
 ) (
 none
 )
def Qc.fn (n : Nat) (p : List Int) (a : List YC) (q : List YD) (r : List ByteArray) : Option YQ := Qc.top (Qc.l4 n n) p a q r
def Qc.f (p : List Int) (a : List YC) (q : List YD) (r : List ByteArray) : Option YQ := Qc.fn NN p a q r
end
end Go.Pl

namespace Go.Pl
open Go.Ev
set_option linter.unusedVariables false
noncomputable section
def Qam.top (p : List Int) (s : List YC) (q : List YD) (r : List ByteArray) : Option (List Int × Int) :=
 (QaH.f p s q r).bind fun r1 =>
 if (!r1) = true then
 some ([],1)
 else
 (Qc.f p s q r).bind fun r2 =>
 some (r2,0)
def Qam.fn (n : Nat) (p : List Int) (s : List YC) (q : List YD) (r : List ByteArray) : Option (List Int × Int) := Qam.top p s q r
def Qam.f (p : List Int) (s : List YC) (q : List YD) (r : List ByteArray) : Option (List Int × Int) := Qam.fn NN p s q r
end
end Go.Pl

namespace Go.Pl
open Go.Ev
set_option linter.unusedVariables false
noncomputable section
def QaM.top (c0 : Bool × Bool × Bool × Bool × Bool × Int) : Option Bool :=
 (Q2.f c0.2.2.2.2.2 0 4).bind fun r1 =>
 if (!r1) = false then
 if c0.2.2.2.1 = true then
 if (!c0.2.2.1) = true then
 some false
 else if (!c0.2.2.1) = false then
 if c0.1 = true then
 if c0.2.1 = true then
 if (!c0.2.2.2.2.1) = true then
 some (decide ((c0.2.2.2.2.2 : Int) ≤ 3))
 else
 some false
 else
 some false
 else
 some false
 else
 some true
 else if (!c0.2.2.1) = false then
 if c0.1 = true then
 if c0.2.1 = true then
 if (!c0.2.2.2.2.1) = true then
 some (decide ((c0.2.2.2.2.2 : Int) ≤ 3))
 else
 some false
 else
 some false
 else
 some false
 else
 some true
 else
 some false
def QaM.fn (n : Nat) (c0 : Bool × Bool × Bool × Bool × Bool × Int) : Option Bool := QaM.top c0
def QaM.f (c0 : Bool × Bool × Bool × Bool × Bool × Int) : Option Bool := QaM.fn NN c0
end
end Go.Pl

namespace Go.Pl
open Go.Ev
set_option linter.unusedVariables false
noncomputable section
def QaN.top (c0 : Bool × Bool × Bool × Bool × Bool × Int) : Option (Bool × Int) :=
 (QaM.f c0).bind fun r1 =>
 if (!r1) = true then
 some (false,1)
 else
 (QaL.f c0).bind fun r2 =>
 some (r2,0)
def QaN.fn (n : Nat) (c0 : Bool × Bool × Bool × Bool × Bool × Int) : Option (Bool × Int) := QaN.top c0
def QaN.f (c0 : Bool × Bool × Bool × Bool × Bool × Int) : Option (Bool × Int) := QaN.fn NN c0
end
end Go.Pl

namespace Go.Pl
open Go.Ev
set_option linter.unusedVariables false
noncomputable section
def Qas.top (x0 : YF × YG × List YB) (c1 : Int × Int × ByteArray × Int) : Option YA :=
 (QA.f x0.2.1 c1.2.2.1).bind fun r1 =>
 if (0 : Int) ≤ r1 ∧ (r1 : Int) < x0.2.1.length then
 some (x0.2.1.getD (r1 : Int).toNat (ByteArray.empty,(0,(0,(0,(0,(0,(0,(0,0)))))))))
 else
 none
def Qas.fn (n : Nat) (x0 : YF × YG × List YB) (c1 : Int × Int × ByteArray × Int) : Option YA := Qas.top x0 c1
def Qas.f (x0 : YF × YG × List YB) (c1 : Int × Int × ByteArray × Int) : Option YA := Qas.fn NN x0 c1
end
end Go.Pl

namespace Go.Pl
open Go.Ev
set_option linter.unusedVariables false
noncomputable section
def Qx.g3 (L3 : Int → Int → YA → List YQ → Option YAG) (p : Int) (k6 : Int) (a2 : ByteArray × Int × Int × Int × Int × Int × Int × Int × Int) (q : List YQ) : Option YAG :=
 if (decide ((k6 : Int) < a2.2.2.2.2.2.1)) = true then
 if q.length + ([[IntKind.i64.wrap ((IntKind.i64.wrap ((IntKind.i64.wrap (p + a2.2.2.2.1)) + (IntKind.i64.wrap (k6 * a2.2.2.2.2.2.2.1)))) - a2.2.2.2.2.1),IntKind.i64.wrap ((IntKind.i64.wrap ((IntKind.i64.wrap (p + a2.2.2.2.1)) + (IntKind.i64.wrap (k6 * a2.2.2.2.2.2.2.1)))) + a2.2.2.2.2.1)]]).length < room 24 then
 L3 p (IntKind.i64.wrap (k6 + 1)) a2 (q ++ ([[IntKind.i64.wrap ((IntKind.i64.wrap ((IntKind.i64.wrap (p + a2.2.2.2.1)) + (IntKind.i64.wrap (k6 * a2.2.2.2.2.2.2.1)))) - a2.2.2.2.2.1),IntKind.i64.wrap ((IntKind.i64.wrap ((IntKind.i64.wrap (p + a2.2.2.2.1)) + (IntKind.i64.wrap (k6 * a2.2.2.2.2.2.2.1)))) + a2.2.2.2.2.1)]]))
 else
 none
 else
 some q
def Qx.l3 (n : Nat) : Nat → Int → Int → YA → List YQ → Option YAG
 | 0 => fun _ _ _ _ => none
 | k + 1 => Qx.g3 (Qx.l3 n k)
def Qx.top (I3 : Int → Int → YA → List YQ → Option YAG) (a0 : ByteArray × Int × Int × Int × Int × Int × Int × Int × Int) (p : Int) : Option YAG :=
 I3 p 0 a0 []
def Qx.fn (n : Nat) (a0 : ByteArray × Int × Int × Int × Int × Int × Int × Int × Int) (p : Int) : Option YAG := Qx.top (Qx.l3 n n) a0 p
def Qx.f (a0 : ByteArray × Int × Int × Int × Int × Int × Int × Int × Int) (p : Int) : Option YAG := Qx.fn NN a0 p
end
end Go.Pl

namespace Go.Pl
open Go.Ev
set_option linter.unusedVariables false
noncomputable section
def Qak.top (x0 : YF × YG × List YB) (c1 : Int × Int × ByteArray × Int) : Option YAG :=
 (Qas.f x0 c1).bind fun r1 =>
 (QaD.f x0 c1).bind fun r2 =>
 (Qx.f r1 r2).bind fun r3 =>
 some r3
def Qak.fn (n : Nat) (x0 : YF × YG × List YB) (c1 : Int × Int × ByteArray × Int) : Option YAG := Qak.top x0 c1
def Qak.f (x0 : YF × YG × List YB) (c1 : Int × Int × ByteArray × Int) : Option YAG := Qak.fn NN x0 c1
end
end Go.Pl

namespace Go.Pl
open Go.Ev
set_option linter.unusedVariables false
noncomputable section
def Qi.g6 (L3 : YM → Int → Int → YH → List YQ → Option YAG) (L6 : Int → YM → Int → Int → Int → Int → YH → List YQ → List YQ → Option YAG) (i4 : Int) (v9 : List YB) (v10 : Int) (v11 : Int) (v19 : Int) (v20 : Int) (x1 : YF × YG × List YB) (p : List YQ) (v18 : List YQ) : Option YAG :=
 if (decide ((v20 : Int) < v19)) = true then
 if (0 : Int) ≤ v20 ∧ (v20 : Int) < v18.length then
 if (0 : Int) ≤ 0 ∧ (0 : Int) < (v18.getD (v20 : Int).toNat []).length then
 if (0 : Int) ≤ 1 ∧ (1 : Int) < (v18.getD (v20 : Int).toNat []).length then
 if p.length + ([[(v18.getD (v20 : Int).toNat []).getD (0 : Int).toNat 0,(v18.getD (v20 : Int).toNat []).getD (1 : Int).toNat 0,i4]]).length < room 24 then
 L6 i4 v9 v10 v11 v19 (IntKind.i64.wrap (v20 + 1)) x1 (p ++ ([[(v18.getD (v20 : Int).toNat []).getD (0 : Int).toNat 0,(v18.getD (v20 : Int).toNat []).getD (1 : Int).toNat 0,i4]])) v18
 else
 none
 else
 none
 else
 none
 else
 none
 else
 L3 v9 v10 (IntKind.i64.wrap (v11 + 1)) x1 p
def Qi.l6 (n : Nat) (L3 : YM → Int → Int → YH → List YQ → Option YAG) : Nat → Int → YM → Int → Int → Int → Int → YH → List YQ → List YQ → Option YAG
 | 0 => fun _ _ _ _ _ _ _ _ _ => none
 | k + 1 => Qi.g6 L3 (Qi.l6 n L3 k)
def Qi.g3 (I6 : Int → YM → Int → Int → Int → Int → YH → List YQ → List YQ → Option YAG) (L3 : YM → Int → Int → YH → List YQ → Option YAG) (v9 : List YB) (v10 : Int) (v11 : Int) (x1 : YF × YG × List YB) (p : List YQ) : Option YAG :=
 if (decide ((v11 : Int) < v10)) = true then
 if (0 : Int) ≤ v11 ∧ (v11 : Int) < v9.length then
 (Qak.f x1 (v9.getD (v11 : Int).toNat (0,(0,(ByteArray.empty,0))))).bind fun r1 =>
 I6 v11 v9 v10 v11 (r1.length : Int) 0 x1 p r1
 else
 none
 else
 some p
def Qi.l3 (n : Nat) : Nat → YM → Int → Int → YH → List YQ → Option YAG
 | 0 => fun _ _ _ _ _ => none
 | k + 1 => Qi.g3 (Qi.l6 n (Qi.l3 n k) n) (Qi.l3 n k)
def Qi.top (I3 : YM → Int → Int → YH → List YQ → Option YAG) (x0 : YF × YG × List YB) : Option YAG :=
 I3 x0.2.2 (x0.2.2.length : Int) 0 x0 []
def Qi.fn (n : Nat) (x0 : YF × YG × List YB) : Option YAG := Qi.top (Qi.l3 n n) x0
def Qi.f (x0 : YF × YG × List YB) : Option YAG := Qi.fn NN x0
end
end Go.Pl

namespace Go.Pl
open Go.Ev
set_option linter.unusedVariables false
noncomputable section
def Qav.top (x0 : YF × YG × List YB) : Option (List YQ × Int) :=
 (Qab.f x0).bind fun r1 =>
 if (!r1) = true then
 some ([],1)
 else
 (Qi.f x0).bind fun r2 =>
 some (r2,0)
def Qav.fn (n : Nat) (x0 : YF × YG × List YB) : Option (List YQ × Int) := Qav.top x0
def Qav.f (x0 : YF × YG × List YB) : Option (List YQ × Int) := Qav.fn NN x0
end
end Go.Pl

namespace Go.Pl
open Go.Ev
set_option linter.unusedVariables false
noncomputable section
def QaS.top (p : List Int) : Option Bool :=
 some (decide ((4096 : Int) < (p.length : Int)))
def QaS.fn (n : Nat) (p : List Int) : Option Bool := QaS.top p
def QaS.f (p : List Int) : Option Bool := QaS.fn NN p
end
end Go.Pl

namespace Go.Pl
open Go.Ev
set_option linter.unusedVariables false
noncomputable section
def Qr.g4 (L4 : YL → YL → Int → Option Bool) (a0 : List YD) (b1 : List YD) (i5 : Int) : Option Bool :=
 if (decide ((i5 : Int) < (a0.length : Int))) = true then
 if (0 : Int) ≤ i5 ∧ (i5 : Int) < a0.length then
 if (0 : Int) ≤ i5 ∧ (i5 : Int) < b1.length then
 if (!(((((a0.getD (i5 : Int).toNat (0,(ByteArray.empty,0))).1) : Int) == ((b1.getD (i5 : Int).toNat (0,(ByteArray.empty,0))).1)) && (((((a0.getD (i5 : Int).toNat (0,(ByteArray.empty,0))).2).1).toList == (((b1.getD (i5 : Int).toNat (0,(ByteArray.empty,0))).2).1).toList) && (((((a0.getD (i5 : Int).toNat (0,(ByteArray.empty,0))).2).2) : Int) == (((b1.getD (i5 : Int).toNat (0,(ByteArray.empty,0))).2).2))))) = true then
 some false
 else
 L4 a0 b1 (IntKind.i64.wrap (i5 + 1))
 else
 none
 else
 none
 else
 some true
def Qr.l4 (n : Nat) : Nat → YL → YL → Int → Option Bool
 | 0 => fun _ _ _ => none
 | k + 1 => Qr.g4 (Qr.l4 n k)
def Qr.top (I4 : YL → YL → Int → Option Bool) (a0 : List YD) (b1 : List YD) : Option Bool :=
 if (((a0.length : Int) : Int) != (b1.length : Int)) = true then
 some false
 else
 I4 a0 b1 0
def Qr.fn (n : Nat) (a0 : List YD) (b1 : List YD) : Option Bool := Qr.top (Qr.l4 n n) a0 b1
def Qr.f (a0 : List YD) (b1 : List YD) : Option Bool := Qr.fn NN a0 b1
end
end Go.Pl

namespace Go.Pl
open Go.Ev
set_option linter.unusedVariables false
noncomputable section
def QL.g4 (L4 : List Int → List Int → Int → Option Bool) (a0 : List Int) (b1 : List Int) (i5 : Int) : Option Bool :=
 if (decide ((i5 : Int) < (a0.length : Int))) = true then
 if (0 : Int) ≤ i5 ∧ (i5 : Int) < a0.length then
 if (0 : Int) ≤ i5 ∧ (i5 : Int) < b1.length then
 if (((a0.getD (i5 : Int).toNat 0) : Int) != (b1.getD (i5 : Int).toNat 0)) = true then
 some false
 else
 L4 a0 b1 (IntKind.i64.wrap (i5 + 1))
 else
 none
 else
 none
 else
 some true
def QL.l4 (n : Nat) : Nat → List Int → List Int → Int → Option Bool
 | 0 => fun _ _ _ => none
 | k + 1 => QL.g4 (QL.l4 n k)
def QL.top (I4 : List Int → List Int → Int → Option Bool) (a0 : List Int) (b1 : List Int) : Option Bool :=
 if (((a0.length : Int) : Int) != (b1.length : Int)) = true then
 some false
 else
 I4 a0 b1 0
def QL.fn (n : Nat) (a0 : List Int) (b1 : List Int) : Option Bool := QL.top (QL.l4 n n) a0 b1
def QL.f (a0 : List Int) (b1 : List Int) : Option Bool := QL.fn NN a0 b1
end
end Go.Pl

namespace Go.Pl
open Go.Ev
set_option linter.unusedVariables false
noncomputable section
def QP.g4 (L4 : List YQ → List YQ → Int → Option Bool) (a0 : List YQ) (b1 : List YQ) (i5 : Int) : Option Bool :=
 if (decide ((i5 : Int) < (a0.length : Int))) = true then
 if (0 : Int) ≤ i5 ∧ (i5 : Int) < a0.length then
 if (0 : Int) ≤ i5 ∧ (i5 : Int) < b1.length then
 (QL.f (a0.getD (i5 : Int).toNat []) (b1.getD (i5 : Int).toNat [])).bind fun r1 =>
 if (!r1) = true then
 some false
 else
 L4 a0 b1 (IntKind.i64.wrap (i5 + 1))
 else
 none
 else
 none
 else
 some true
def QP.l4 (n : Nat) : Nat → List YQ → List YQ → Int → Option Bool
 | 0 => fun _ _ _ => none
 | k + 1 => QP.g4 (QP.l4 n k)
def QP.top (I4 : List YQ → List YQ → Int → Option Bool) (a0 : List YQ) (b1 : List YQ) : Option Bool :=
 if (((a0.length : Int) : Int) != (b1.length : Int)) = true then
 some false
 else
 I4 a0 b1 0
def QP.fn (n : Nat) (a0 : List YQ) (b1 : List YQ) : Option Bool := QP.top (QP.l4 n n) a0 b1
def QP.f (a0 : List YQ) (b1 : List YQ) : Option Bool := QP.fn NN a0 b1
end
end Go.Pl

namespace Go.Pl
open Go.Ev
set_option linter.unusedVariables false
noncomputable section
def Qae.top (n0 : Int) (q : Int) (p : Int) : Option Bool :=
 if (decide ((q : Int) ≤ n0)) = true then
 some (decide ((n0 : Int) ≤ p))
 else
 some false
def Qae.fn (n : Nat) (n0 : Int) (q : Int) (p : Int) : Option Bool := Qae.top n0 q p
def Qae.f (n0 : Int) (q : Int) (p : Int) : Option Bool := Qae.fn NN n0 q p
end
end Go.Pl

namespace Go.Pl
open Go.Ev
set_option linter.unusedVariables false
noncomputable section
def QU.g2 (L2 : ByteArray → Int → Option Bool) (s0 : ByteArray) (i3 : Int) : Option Bool :=
 if (decide ((i3 : Int) < (s0.size : Int))) = true then
 if (0 : Int) ≤ i3 ∧ (i3 : Int) < s0.size then
 if (decide (((bt s0 i3) : Int) < 97)) = false then
 if (0 : Int) ≤ i3 ∧ (i3 : Int) < s0.size then
 if (decide ((122 : Int) < (bt s0 i3))) = true then
 some false
 else
 L2 s0 (IntKind.i64.wrap (i3 + 1))
 else
 none
 else
 some false
 else
 none
 else
 (Qae.f (s0.size : Int) 1 16).bind fun r1 =>
 some r1
def QU.l2 (n : Nat) : Nat → ByteArray → Int → Option Bool
 | 0 => fun _ _ => none
 | k + 1 => QU.g2 (QU.l2 n k)
def QU.top (I2 : ByteArray → Int → Option Bool) (s0 : ByteArray) : Option Bool :=
 I2 s0 0
def QU.fn (n : Nat) (s0 : ByteArray) : Option Bool := QU.top (QU.l2 n n) s0
def QU.f (s0 : ByteArray) : Option Bool := QU.fn NN s0
end
end Go.Pl

namespace Go.Pl
open Go.Ev
set_option linter.unusedVariables false
noncomputable section
def Q0.g3 (L3 : YAT) (p : List YD) (q : ByteArray) (n2 : Int) (r : Int) (i8 : Int) : Option Int :=
 if (decide ((i8 : Int) < n2)) = true then
 if (0 : Int) ≤ i8 ∧ (i8 : Int) < p.length then
 if (!((((p.getD (i8 : Int).toNat (0,(ByteArray.empty,0))).2).1).toList == q.toList)) = true then
 L3 p q n2 r (IntKind.i64.wrap (i8 + 1))
 else if (0 : Int) ≤ i8 ∧ (i8 : Int) < p.length then
 if ((((p.getD (i8 : Int).toNat (0,(ByteArray.empty,0))).1) : Int) == 0) = true then
 if (0 : Int) ≤ i8 ∧ (i8 : Int) < p.length then
 L3 p q n2 (IntKind.i64.wrap (r + (((p.getD (i8 : Int).toNat (0,(ByteArray.empty,0))).2).2))) (IntKind.i64.wrap (i8 + 1))
 else
 none
 else if (0 : Int) ≤ i8 ∧ (i8 : Int) < p.length then
 L3 p q n2 (IntKind.i64.wrap (r - (((p.getD (i8 : Int).toNat (0,(ByteArray.empty,0))).2).2))) (IntKind.i64.wrap (i8 + 1))
 else
 none
 else
 none
 else
 none
 else
 some r
def Q0.l3 (n : Nat) : Nat → YL → ByteArray → Int → Int → Int → Option Int
 | 0 => fun _ _ _ _ _ => none
 | k + 1 => Q0.g3 (Q0.l3 n k)
def Q0.top (I3 : YAT) (p : List YD) (q : ByteArray) (n2 : Int) : Option Int :=
 I3 p q n2 0 0
def Q0.fn (n : Nat) (p : List YD) (q : ByteArray) (n2 : Int) : Option Int := Q0.top (Q0.l3 n n) p q n2
def Q0.f (p : List YD) (q : ByteArray) (n2 : Int) : Option Int := Q0.fn NN p q n2
end
end Go.Pl

namespace Go.Pl
open Go.Ev
set_option linter.unusedVariables false
noncomputable section
def Qm.g2 (L2 : YL → Int → Option Bool) (p : List YD) (i3 : Int) : Option Bool :=
 if (decide ((i3 : Int) < (p.length : Int))) = true then
 if (0 : Int) ≤ i3 ∧ (i3 : Int) < p.length then
 (Qae.f ((p.getD (i3 : Int).toNat (0,(ByteArray.empty,0))).1) 0 3).bind fun r1 =>
 if (!r1) = false then
 (QU.f (((p.getD (i3 : Int).toNat (0,(ByteArray.empty,0))).2).1)).bind fun r2 =>
 if (!r2) = false then
 (Qae.f (((p.getD (i3 : Int).toNat (0,(ByteArray.empty,0))).2).2) 1 1000).bind fun r3 =>
 if (!r3) = false then
 (Q0.f p (((p.getD (i3 : Int).toNat (0,(ByteArray.empty,0))).2).1) (IntKind.i64.wrap (i3 + 1))).bind fun r4 =>
 if (decide ((r4 : Int) < 0)) = true then
 some false
 else
 L2 p (IntKind.i64.wrap (i3 + 1))
 else
 some false
 else
 some false
 else
 some false
 else
 none
 else
 some (decide (((p.length : Int) : Int) ≤ 60))
def Qm.l2 (n : Nat) : Nat → YL → Int → Option Bool
 | 0 => fun _ _ => none
 | k + 1 => Qm.g2 (Qm.l2 n k)
def Qm.top (I2 : YL → Int → Option Bool) (p : List YD) : Option Bool :=
 I2 p 0
def Qm.fn (n : Nat) (p : List YD) : Option Bool := Qm.top (Qm.l2 n n) p
def Qm.f (p : List YD) : Option Bool := Qm.fn NN p
end
end Go.Pl

namespace Go.Pl
open Go.Ev
set_option linter.unusedVariables false
noncomputable section
def Qaw.top (a0 : ByteArray × Int × Int × Int × Int × Int × Int × Int × Int) : Option Bool :=
 (QU.f a0.1).bind fun r1 =>
 if r1 = true then
 (Qae.f a0.2.1 0 3).bind fun r2 =>
 if r2 = true then
 (Qae.f a0.2.2.1 20 300).bind fun r3 =>
 if r3 = true then
 (Qae.f a0.2.2.2.1 0 10000).bind fun r4 =>
 if r4 = true then
 (Qae.f a0.2.2.2.2.1 0 a0.2.2.2.1).bind fun r5 =>
 if r5 = true then
 (Qae.f a0.2.2.2.2.2.1 1 50).bind fun r6 =>
 if r6 = true then
 (Qae.f a0.2.2.2.2.2.2.1 0 10000).bind fun r7 =>
 if r7 = true then
 (Qae.f a0.2.2.2.2.2.2.2.1 1 100000).bind fun r8 =>
 if r8 = true then
 (Qae.f a0.2.2.2.2.2.2.2.2 0 3).bind fun r9 =>
 some r9
 else
 some false
 else
 some false
 else
 some false
 else
 some false
 else
 some false
 else
 some false
 else
 some false
 else
 some false
def Qaw.fn (n : Nat) (a0 : ByteArray × Int × Int × Int × Int × Int × Int × Int × Int) : Option Bool := Qaw.top a0
def Qaw.f (a0 : ByteArray × Int × Int × Int × Int × Int × Int × Int × Int) : Option Bool := Qaw.fn NN a0
end
end Go.Pl

namespace Go.Pl
open Go.Ev
set_option linter.unusedVariables false
noncomputable section
def Qp.g2 (L2 : YG → Int → Option Bool) (p : List YA) (i3 : Int) : Option Bool :=
 if (decide ((i3 : Int) < (p.length : Int))) = true then
 if (0 : Int) ≤ i3 ∧ (i3 : Int) < p.length then
 (Qaw.f (p.getD (i3 : Int).toNat (ByteArray.empty,(0,(0,(0,(0,(0,(0,(0,0)))))))))).bind fun r1 =>
 if (!r1) = false then
 if (decide ((0 : Int) < i3)) = true then
 if (0 : Int) ≤ (IntKind.i64.wrap (i3 - 1)) ∧ ((IntKind.i64.wrap (i3 - 1)) : Int) < p.length then
 if (0 : Int) ≤ i3 ∧ (i3 : Int) < p.length then
 if (!(Op.bytesLess ((p.getD ((IntKind.i64.wrap (i3 - 1)) : Int).toNat (ByteArray.empty,(0,(0,(0,(0,(0,(0,(0,0))))))))).1).toList ((p.getD (i3 : Int).toNat (ByteArray.empty,(0,(0,(0,(0,(0,(0,(0,0))))))))).1).toList)) = true then
 some false
 else
 L2 p (IntKind.i64.wrap (i3 + 1))
 else
 none
 else
 none
 else
 L2 p (IntKind.i64.wrap (i3 + 1))
 else
 some false
 else
 none
 else
 some (decide (((p.length : Int) : Int) ≤ 12))
def Qp.l2 (n : Nat) : Nat → YG → Int → Option Bool
 | 0 => fun _ _ => none
 | k + 1 => Qp.g2 (Qp.l2 n k)
def Qp.top (I2 : YG → Int → Option Bool) (p : List YA) : Option Bool :=
 I2 p 0
def Qp.fn (n : Nat) (p : List YA) : Option Bool := Qp.top (Qp.l2 n n) p
def Qp.f (p : List YA) : Option Bool := Qp.fn NN p
end
end Go.Pl

namespace Go.Pl
open Go.Ev
set_option linter.unusedVariables false
noncomputable section
def Q6.g2 (L2 : YF → Int → Option Bool) (p : List YC) (i3 : Int) : Option Bool :=
 if (decide ((i3 : Int) < (p.length : Int))) = true then
 if (0 : Int) ≤ i3 ∧ (i3 : Int) < p.length then
 (Qae.f ((p.getD (i3 : Int).toNat (0,0)).1) 1 16).bind fun r1 =>
 if (!r1) = false then
 if (0 : Int) ≤ i3 ∧ (i3 : Int) < p.length then
 (Qae.f ((p.getD (i3 : Int).toNat (0,0)).2) 100 5000).bind fun r2 =>
 if (!r2) = true then
 some false
 else
 L2 p (IntKind.i64.wrap (i3 + 1))
 else
 none
 else
 some false
 else
 none
 else
 (Qae.f (p.length : Int) 1 20).bind fun r3 =>
 some r3
def Q6.l2 (n : Nat) : Nat → YF → Int → Option Bool
 | 0 => fun _ _ => none
 | k + 1 => Q6.g2 (Q6.l2 n k)
def Q6.top (I2 : YF → Int → Option Bool) (p : List YC) : Option Bool :=
 I2 p 0
def Q6.fn (n : Nat) (p : List YC) : Option Bool := Q6.top (Q6.l2 n n) p
def Q6.f (p : List YC) : Option Bool := Q6.fn NN p
end
end Go.Pl

namespace Go.Pl
open Go.Ev
set_option linter.unusedVariables false
noncomputable section
def QW.g2 (L2 : YG → ByteArray → Int → Option Int) (p : List YA) (q : ByteArray) (i5 : Int) : Option Int :=
 if (decide ((i5 : Int) < (p.length : Int))) = true then
 if (0 : Int) ≤ i5 ∧ (i5 : Int) < p.length then
 if (((p.getD (i5 : Int).toNat (ByteArray.empty,(0,(0,(0,(0,(0,(0,(0,0))))))))).1).toList == q.toList) = true then
 some i5
 else
 L2 p q (IntKind.i64.wrap (i5 + 1))
 else
 none
 else
 some (-1)
def QW.l2 (n : Nat) : Nat → YG → ByteArray → Int → Option Int
 | 0 => fun _ _ _ => none
 | k + 1 => QW.g2 (QW.l2 n k)
def QW.top (I2 : YG → ByteArray → Int → Option Int) (p : List YA) (q : ByteArray) : Option Int :=
 I2 p q 0
def QW.fn (n : Nat) (p : List YA) (q : ByteArray) : Option Int := QW.top (QW.l2 n n) p q
def QW.f (p : List YA) (q : ByteArray) : Option Int := QW.fn NN p q
end
end Go.Pl

namespace Go.Pl
open Go.Ev
set_option linter.unusedVariables false
noncomputable section
def QaQ.top (p : List YC) (q : Int) (r : Int) : Option Bool :=
 (Qae.f q 0 (IntKind.i64.wrap ((p.length : Int) - 1))).bind fun r1 =>
 if r1 = true then
 if (0 : Int) ≤ q ∧ (q : Int) < p.length then
 (Qae.f r 0 (IntKind.i64.wrap (((p.getD (q : Int).toNat (0,0)).1) - 1))).bind fun r2 =>
 some r2
 else
 none
 else
 some false
def QaQ.fn (n : Nat) (p : List YC) (q : Int) (r : Int) : Option Bool := QaQ.top p q r
def QaQ.f (p : List YC) (q : Int) (r : Int) : Option Bool := QaQ.fn NN p q r
end
end Go.Pl

namespace Go.Pl
open Go.Ev
set_option linter.unusedVariables false
noncomputable section
def Q7.g3 (L3 : YF → Int → Int → Int → Int → Option Int) (p : List YC) (q : Int) (r : Int) (t7 : Int) (i8 : Int) : Option Int :=
 if (decide ((i8 : Int) < q)) = true then
 if (0 : Int) ≤ i8 ∧ (i8 : Int) < p.length then
 if (0 : Int) ≤ i8 ∧ (i8 : Int) < p.length then
 L3 p q r (IntKind.i64.wrap (t7 + (IntKind.i64.wrap (((p.getD (i8 : Int).toNat (0,0)).1) * ((p.getD (i8 : Int).toNat (0,0)).2))))) (IntKind.i64.wrap (i8 + 1))
 else
 none
 else
 none
 else if (0 : Int) ≤ q ∧ (q : Int) < p.length then
 some (IntKind.i64.wrap (t7 + (IntKind.i64.wrap (r * ((p.getD (q : Int).toNat (0,0)).2)))))
 else
 none
def Q7.l3 (n : Nat) : Nat → YF → Int → Int → Int → Int → Option Int
 | 0 => fun _ _ _ _ _ => none
 | k + 1 => Q7.g3 (Q7.l3 n k)
def Q7.top (I3 : YF → Int → Int → Int → Int → Option Int) (p : List YC) (q : Int) (r : Int) : Option Int :=
 I3 p q r 0 0
def Q7.fn (n : Nat) (p : List YC) (q : Int) (r : Int) : Option Int := Q7.top (Q7.l3 n n) p q r
def Q7.f (p : List YC) (q : Int) (r : Int) : Option Int := Q7.fn NN p q r
end
end Go.Pl

namespace Go.Pl
open Go.Ev
set_option linter.unusedVariables false
noncomputable section
def QaE.top (x0 : YF × YG × List YB) (c1 : Int × Int × ByteArray × Int) : Option Int :=
 (Q7.f x0.1 c1.1 c1.2.1).bind fun r1 =>
 (QW.f x0.2.1 c1.2.2.1).bind fun r2 =>
 if (0 : Int) ≤ r2 ∧ (r2 : Int) < x0.2.1.length then
 some (IntKind.i64.wrap (r1 - (((((x0.2.1.getD (r2 : Int).toNat (ByteArray.empty,(0,(0,(0,(0,(0,(0,(0,0))))))))).2).2).2).1)))
 else
 none
def QaE.fn (n : Nat) (x0 : YF × YG × List YB) (c1 : Int × Int × ByteArray × Int) : Option Int := QaE.top x0 c1
def QaE.f (x0 : YF × YG × List YB) (c1 : Int × Int × ByteArray × Int) : Option Int := QaE.fn NN x0 c1
end
end Go.Pl

namespace Go.Pl
open Go.Ev
set_option linter.unusedVariables false
noncomputable section
def Q4.g4 (L4 : Int → YH → Option Bool) (i3 : Int) (x1 : YF × YG × List YB) : Option Bool :=
 if (decide ((i3 : Int) < (x1.2.2.length : Int))) = true then
 if (0 : Int) ≤ i3 ∧ (i3 : Int) < x1.2.2.length then
 (QaQ.f x1.1 ((x1.2.2.getD (i3 : Int).toNat (0,(0,(ByteArray.empty,0)))).1) (((x1.2.2.getD (i3 : Int).toNat (0,(0,(ByteArray.empty,0)))).2).1)).bind fun r3 =>
 if (!r3) = false then
 (QW.f x1.2.1 ((((x1.2.2.getD (i3 : Int).toNat (0,(0,(ByteArray.empty,0)))).2).2).1)).bind fun r4 =>
 if (decide ((r4 : Int) < 0)) = false then
 (Qae.f ((((x1.2.2.getD (i3 : Int).toNat (0,(0,(ByteArray.empty,0)))).2).2).2) 0 11).bind fun r5 =>
 if (!r5) = false then
 (QaE.f x1 (x1.2.2.getD (i3 : Int).toNat (0,(0,(ByteArray.empty,0))))).bind fun r6 =>
 if (decide ((r6 : Int) < 0)) = true then
 some false
 else
 L4 (IntKind.i64.wrap (i3 + 1)) x1
 else
 some false
 else
 some false
 else
 some false
 else
 none
 else
 some true
def Q4.l4 (n : Nat) : Nat → Int → YH → Option Bool
 | 0 => fun _ _ => none
 | k + 1 => Q4.g4 (Q4.l4 n k)
def Q4.top (I4 : Int → YH → Option Bool) (x0 : YF × YG × List YB) : Option Bool :=
 (Q6.f x0.1).bind fun r1 =>
 if (!r1) = false then
 (Qp.f x0.2.1).bind fun r2 =>
 if (!r2) = false then
 if (decide ((20 : Int) < (x0.2.2.length : Int))) = true then
 some false
 else
 I4 0 x0
 else
 some false
 else
 some false
def Q4.fn (n : Nat) (x0 : YF × YG × List YB) : Option Bool := Q4.top (Q4.l4 n n) x0
def Q4.f (x0 : YF × YG × List YB) : Option Bool := Q4.fn NN x0
end
end Go.Pl

namespace Go.Pl
open Go.Ev
set_option linter.unusedVariables false
noncomputable section
def QD.g2 (L2 : List Int → Int → Int → Option Bool) (p : List Int) (n1 : Int) (i5 : Int) : Option Bool :=
 if (decide ((i5 : Int) < (p.length : Int))) = true then
 if (0 : Int) ≤ i5 ∧ (i5 : Int) < p.length then
 (Qae.f (p.getD (i5 : Int).toNat 0) 0 (IntKind.i64.wrap (n1 - 1))).bind fun r1 =>
 if (!r1) = false then
 if (decide ((0 : Int) < i5)) = true then
 if (0 : Int) ≤ i5 ∧ (i5 : Int) < p.length then
 if (0 : Int) ≤ (IntKind.i64.wrap (i5 - 1)) ∧ ((IntKind.i64.wrap (i5 - 1)) : Int) < p.length then
 if (decide (((p.getD (i5 : Int).toNat 0) : Int) ≤ (p.getD ((IntKind.i64.wrap (i5 - 1)) : Int).toNat 0))) = true then
 some false
 else
 L2 p n1 (IntKind.i64.wrap (i5 + 1))
 else
 none
 else
 none
 else
 L2 p n1 (IntKind.i64.wrap (i5 + 1))
 else
 some false
 else
 none
 else
 some true
def QD.l2 (n : Nat) : Nat → List Int → Int → Int → Option Bool
 | 0 => fun _ _ _ => none
 | k + 1 => QD.g2 (QD.l2 n k)
def QD.top (I2 : List Int → Int → Int → Option Bool) (p : List Int) (n1 : Int) : Option Bool :=
 I2 p n1 0
def QD.fn (n : Nat) (p : List Int) (n1 : Int) : Option Bool := QD.top (QD.l2 n n) p n1
def QD.f (p : List Int) (n1 : Int) : Option Bool := QD.fn NN p n1
end
end Go.Pl

namespace Go.Pl
open Go.Ev
set_option linter.unusedVariables false
noncomputable section
def Qaz.top (p : List YD) : Option Int :=
 if (decide ((60 : Int) < (p.length : Int))) = true then
 some 3
 else
 (Qm.f p).bind fun r1 =>
 if (!r1) = true then
 some 5
 else
 some 0
def Qaz.fn (n : Nat) (p : List YD) : Option Int := Qaz.top p
def Qaz.f (p : List YD) : Option Int := Qaz.fn NN p
end
end Go.Pl

namespace Go.Pl
open Go.Ev
set_option linter.unusedVariables false
noncomputable section
def Qk.g11 (L7 : List Int → Int → YH → YL → Option YAD) (L11 : List Int → Int → Int → Int → YH → YL → Option YAD) (p : List Int) (k9 : Int) (n10 : Int) (i11 : Int) (x4 : YF × YG × List YB) (q : List YD) : Option YAD :=
 if (decide ((i11 : Int) < (p.length : Int))) = true then
 if (0 : Int) ≤ i11 ∧ (i11 : Int) < p.length then
 if (0 : Int) ≤ (p.getD (i11 : Int).toNat 0) ∧ ((p.getD (i11 : Int).toNat 0) : Int) < x4.2.2.length then
 if (0 : Int) ≤ k9 ∧ (k9 : Int) < x4.2.1.length then
 if (((((x4.2.2.getD ((p.getD (i11 : Int).toNat 0) : Int).toNat (0,(0,(ByteArray.empty,0)))).2).2).1).toList == ((x4.2.1.getD (k9 : Int).toNat (ByteArray.empty,(0,(0,(0,(0,(0,(0,(0,0))))))))).1).toList) = true then
 L11 p k9 (IntKind.i64.wrap (n10 + 1)) (IntKind.i64.wrap (i11 + 1)) x4 q
 else
 L11 p k9 n10 (IntKind.i64.wrap (i11 + 1)) x4 q
 else
 none
 else
 none
 else
 none
 else if (decide ((0 : Int) < n10)) = true then
 if (0 : Int) ≤ k9 ∧ (k9 : Int) < x4.2.1.length then
 if q.length + ([(1,((x4.2.1.getD (k9 : Int).toNat (ByteArray.empty,(0,(0,(0,(0,(0,(0,(0,0))))))))).1,n10))]).length < room 32 then
 L7 p (IntKind.i64.wrap (k9 + 1)) x4 (q ++ ([(1,((x4.2.1.getD (k9 : Int).toNat (ByteArray.empty,(0,(0,(0,(0,(0,(0,(0,0))))))))).1,n10))]))
 else
 none
 else
 none
 else
 L7 p (IntKind.i64.wrap (k9 + 1)) x4 q
def Qk.l11 (n : Nat) (L7 : List Int → Int → YH → YL → Option YAD) : Nat → List Int → Int → Int → Int → YH → YL → Option YAD
 | 0 => fun _ _ _ _ _ _ => none
 | k + 1 => Qk.g11 L7 (Qk.l11 n L7 k)
def Qk.g7 (I11 : List Int → Int → Int → Int → YH → YL → Option YAD) (L7 : List Int → Int → YH → YL → Option YAD) (p : List Int) (k9 : Int) (x4 : YF × YG × List YB) (q : List YD) : Option YAD :=
 if (decide ((k9 : Int) < (x4.2.1.length : Int))) = true then
 I11 p k9 0 0 x4 q
 else
 (Qaz.f q).bind fun r4 =>
 if ((r4 : Int) != 0) = true then
 some ([],r4)
 else
 some (q,0)
def Qk.l7 (n : Nat) : Nat → List Int → Int → YH → YL → Option YAD
 | 0 => fun _ _ _ _ => none
 | k + 1 => Qk.g7 (Qk.l11 n (Qk.l7 n k) n) (Qk.l7 n k)
def Qk.top (I7 : List Int → Int → YH → YL → Option YAD) (r : List YD) (x1 : YF × YG × List YB) (p : List Int) : Option YAD :=
 (Qm.f r).bind fun r1 =>
 if (!r1) = false then
 (Q4.f x1).bind fun r2 =>
 if (!r2) = true then
 some ([],1)
 else
 (QD.f p (x1.2.2.length : Int)).bind fun r3 =>
 if (!r3) = true then
 some ([],2)
 else if ([] : List YD).length + r.length < room 32 then
 I7 p 0 x1 (([] : List YD) ++ r)
 else
 none
 else
 some ([],1)
def Qk.fn (n : Nat) (r : List YD) (x1 : YF × YG × List YB) (p : List Int) : Option YAD := Qk.top (Qk.l7 n n) r x1 p
def Qk.f (r : List YD) (x1 : YF × YG × List YB) (p : List Int) : Option YAD := Qk.fn NN r x1 p
end
end Go.Pl

namespace Go.Pl
open Go.Ev
set_option linter.unusedVariables false
noncomputable section
def QS.g3 (L3 : List Int → Int → List Int → Int → Int → Option YK) (p : List Int) (i4 : Int) (s3a : List Int) (q : Int) (r : Int) : Option YK :=
 if (decide ((i4 : Int) < (p.length : Int))) = true then
 if (decide ((i4 : Int) < 64)) = true then
 if (0 : Int) ≤ i4 ∧ (i4 : Int) < p.length then
 L3 p (IntKind.i64.wrap (i4 + 1)) s3a q (Int.tmod (IntKind.i64.wrap ((IntKind.i64.wrap (r * 83)) + (IntKind.i64.wrap (p.getD (i4 : Int).toNat 0)))) 2147483647)
 else
 none
 else
 some (s3a,(q,r))
 else
 some (s3a,(q,r))
def QS.l3 (n : Nat) : Nat → List Int → Int → List Int → Int → Int → Option YK
 | 0 => fun _ _ _ _ _ => none
 | k + 1 => QS.g3 (QS.l3 n k)
def QS.top (I3 : List Int → Int → List Int → Int → Int → Option YK) (p : List Int) : Option YK :=
 I3 p 0 p 0 61043
def QS.fn (n : Nat) (p : List Int) : Option YK := QS.top (QS.l3 n n) p
def QS.f (p : List Int) : Option YK := QS.fn NN p
end
end Go.Pl

namespace Go.Pl
open Go.Ev
set_option linter.unusedVariables false
noncomputable section
def Qd.top (s0 : List Int × Int × Int) (n1 : Int) : Option YU :=
 if (decide ((n1 : Int) ≤ 1)) = true then
 some (0,s0)
 else if (decide ((s0.2.1 : Int) < (s0.1.length : Int))) = true then
 if (0 : Int) ≤ s0.2.1 ∧ (s0.2.1 : Int) < s0.1.length then
 if (decide ((n1 : Int) ≤ 256)) = true then
 if (((Int.tmod (IntKind.i64.wrap (s0.2.1 + 1)) 2) : Int) == 0) = true then
 if (0 : Int) ≤ (IntKind.i64.wrap ((IntKind.i64.wrap (s0.2.1 + 1)) - 1)) ∧ ((IntKind.i64.wrap ((IntKind.i64.wrap (s0.2.1 + 1)) - 1)) : Int) < s0.1.length then
 if n1 = 0 then
 none
 else
 some (Int.tmod (IntKind.i64.wrap (s0.1.getD ((IntKind.i64.wrap ((IntKind.i64.wrap (s0.2.1 + 1)) - 1)) : Int).toNat 0)) n1,(s0.1,(IntKind.i64.wrap (s0.2.1 + 1),Int.tmod (IntKind.i64.wrap ((IntKind.i64.wrap (s0.2.2 * 48271)) + 29)) 2147483647)))
 else
 none
 else if n1 = 0 then
 none
 else
 some (Int.tmod (IntKind.i64.wrap ((IntKind.i64.wrap (Int.tdiv (Int.tmod (IntKind.i64.wrap ((IntKind.i64.wrap (s0.2.2 * 48271)) + 29)) 2147483647) 31)) + (IntKind.i64.wrap (s0.1.getD (s0.2.1 : Int).toNat 0)))) n1,(s0.1,(IntKind.i64.wrap (s0.2.1 + 1),Int.tmod (IntKind.i64.wrap ((IntKind.i64.wrap (s0.2.2 * 48271)) + 29)) 2147483647)))
 else if n1 = 0 then
 none
 else
 some (Int.tmod (IntKind.i64.wrap ((IntKind.i64.wrap (Int.tdiv (Int.tmod (IntKind.i64.wrap ((IntKind.i64.wrap (s0.2.2 * 48271)) + 29)) 2147483647) 31)) + (IntKind.i64.wrap (s0.1.getD (s0.2.1 : Int).toNat 0)))) n1,(s0.1,(IntKind.i64.wrap (s0.2.1 + 1),Int.tmod (IntKind.i64.wrap ((IntKind.i64.wrap (s0.2.2 * 48271)) + 29)) 2147483647)))
 else
 none
 else if n1 = 0 then
 none
 else
 some (Int.tmod (IntKind.i64.wrap (Int.tdiv (Int.tmod (IntKind.i64.wrap ((IntKind.i64.wrap (s0.2.2 * 48271)) + 29)) 2147483647) 31)) n1,(s0.1,(s0.2.1,Int.tmod (IntKind.i64.wrap ((IntKind.i64.wrap (s0.2.2 * 48271)) + 29)) 2147483647)))
def Qd.fn (n : Nat) (s0 : List Int × Int × Int) (n1 : Int) : Option YU := Qd.top s0 n1
def Qd.f (s0 : List Int × Int × Int) (n1 : Int) : Option YU := Qd.fn NN s0 n1
end
end Go.Pl

namespace Go.Pl
open Go.Ev
set_option linter.unusedVariables false
noncomputable section
def QaA.top (s0 : List Int × Int × Int) : Option YAJ :=
 (Qd.f s0 12).bind fun r1 =>
 if (0 : Int) ≤ r1.1 ∧ (r1.1 : Int) < ([(⟨#[97,100,97]⟩ : ByteArray),(⟨#[98,114,117,110,111]⟩ : ByteArray),(⟨#[99,108,97,114,97]⟩ : ByteArray),(⟨#[100,111,114,97]⟩ : ByteArray),(⟨#[101,109,105,108]⟩ : ByteArray),(⟨#[102,114,105,100,97]⟩ : ByteArray),(⟨#[103,117,115,116,97,118]⟩ : ByteArray),(⟨#[104,97,110,110,97]⟩ : ByteArray),(⟨#[105,118,97,110]⟩ : ByteArray),(⟨#[106,97,110,97]⟩ : ByteArray),(⟨#[107,97,114,108]⟩ : ByteArray),(⟨#[108,101,110,97]⟩ : ByteArray)]).length then
 some (([(⟨#[97,100,97]⟩ : ByteArray),(⟨#[98,114,117,110,111]⟩ : ByteArray),(⟨#[99,108,97,114,97]⟩ : ByteArray),(⟨#[100,111,114,97]⟩ : ByteArray),(⟨#[101,109,105,108]⟩ : ByteArray),(⟨#[102,114,105,100,97]⟩ : ByteArray),(⟨#[103,117,115,116,97,118]⟩ : ByteArray),(⟨#[104,97,110,110,97]⟩ : ByteArray),(⟨#[105,118,97,110]⟩ : ByteArray),(⟨#[106,97,110,97]⟩ : ByteArray),(⟨#[107,97,114,108]⟩ : ByteArray),(⟨#[108,101,110,97]⟩ : ByteArray)]).getD (r1.1 : Int).toNat ByteArray.empty,r1.2)
 else
 none
def QaA.fn (n : Nat) (s0 : List Int × Int × Int) : Option YAJ := QaA.top s0
def QaA.f (s0 : List Int × Int × Int) : Option YAJ := QaA.fn NN s0
end
end Go.Pl

namespace Go.Pl
open Go.Ev
set_option linter.unusedVariables false
noncomputable section
def Qad.top (s0 : List Int × Int × Int) : Option YAJ :=
 (Qd.f s0 24).bind fun r1 =>
 if ((r1.1 : Int) == 0) = true then
 (Qd.f r1.2 6).bind fun r2 =>
 if (0 : Int) ≤ r2.1 ∧ (r2.1 : Int) < ([(⟨#[]⟩ : ByteArray),(⟨#[65,100,97]⟩ : ByteArray),(⟨#[97,49]⟩ : ByteArray),(⟨#[97,98,99,100,101,102,103,104,105,106,107,108,109,110,111,112]⟩ : ByteArray),(⟨#[97,98,99,100,101,102,103,104,105,106,107,108,109,110,111,112,113]⟩ : ByteArray),(⟨#[97,32,98]⟩ : ByteArray)]).length then
 some (([(⟨#[]⟩ : ByteArray),(⟨#[65,100,97]⟩ : ByteArray),(⟨#[97,49]⟩ : ByteArray),(⟨#[97,98,99,100,101,102,103,104,105,106,107,108,109,110,111,112]⟩ : ByteArray),(⟨#[97,98,99,100,101,102,103,104,105,106,107,108,109,110,111,112,113]⟩ : ByteArray),(⟨#[97,32,98]⟩ : ByteArray)]).getD (r2.1 : Int).toNat ByteArray.empty,r2.2)
 else
 none
 else
 (QaA.f r1.2).bind fun r3 =>
 some (r3.1,r3.2)
def Qad.fn (n : Nat) (s0 : List Int × Int × Int) : Option YAJ := Qad.top s0
def Qad.f (s0 : List Int × Int × Int) : Option YAJ := Qad.fn NN s0
end
end Go.Pl

namespace Go.Pl
open Go.Ev
set_option linter.unusedVariables false
noncomputable section
def QM.top (s0 : List Int × Int × Int) (p : List Int) : Option YU :=
 (Qd.f s0 (p.length : Int)).bind fun r1 =>
 if (0 : Int) ≤ r1.1 ∧ (r1.1 : Int) < p.length then
 some (p.getD (r1.1 : Int).toNat 0,r1.2)
 else
 none
def QM.fn (n : Nat) (s0 : List Int × Int × Int) (p : List Int) : Option YU := QM.top s0 p
def QM.f (s0 : List Int × Int × Int) (p : List Int) : Option YU := QM.fn NN s0 p
end
end Go.Pl

namespace Go.Pl
open Go.Ev
set_option linter.unusedVariables false
noncomputable section
def Qat.top (s0 : List Int × Int × Int) (p : ByteArray) : Option (YA × List Int × Int × Int) :=
 (Qd.f s0 4).bind fun r1 =>
 (Qd.f r1.2 281).bind fun r2 =>
 (QM.f r2.2 ([50,75,100,150,IntKind.i64.wrap (20 + r2.1)])).bind fun r3 =>
 (Qd.f r3.2 5000).bind fun r4 =>
 (Qd.f r4.2 300).bind fun r5 =>
 (Qd.f r5.2 2000).bind fun r6 =>
 (Qd.f r6.2 4).bind fun r7 =>
 if ((r1.1 : Int) == 1) = true then
 (Qd.f r7.2 8).bind fun r8 =>
 (Qd.f r8.2 2000).bind fun r9 =>
 if ((r1.1 : Int) == 2) = true then
 some ((p,(r1.1,(r3.1,(0,(0,(IntKind.i64.wrap (1 + r8.1),(IntKind.i64.wrap (500 + r9.1),(IntKind.i64.wrap (50 + r6.1),r7.1)))))))),r9.2)
 else
 some ((p,(r1.1,(r3.1,(IntKind.i64.wrap (1000 + r4.1),(r5.1,(IntKind.i64.wrap (1 + r8.1),(IntKind.i64.wrap (500 + r9.1),(IntKind.i64.wrap (50 + r6.1),r7.1)))))))),r9.2)
 else if ((r1.1 : Int) == 2) = true then
 some ((p,(r1.1,(r3.1,(0,(0,(1,(0,(IntKind.i64.wrap (50 + r6.1),r7.1)))))))),r7.2)
 else
 some ((p,(r1.1,(r3.1,(IntKind.i64.wrap (1000 + r4.1),(r5.1,(1,(0,(IntKind.i64.wrap (50 + r6.1),r7.1)))))))),r7.2)
def Qat.fn (n : Nat) (s0 : List Int × Int × Int) (p : ByteArray) : Option (YA × List Int × Int × Int) := Qat.top s0 p
def Qat.f (s0 : List Int × Int × Int) (p : ByteArray) : Option (YA × List Int × Int × Int) := Qat.fn NN s0 p
end
end Go.Pl

namespace Go.Pl
open Go.Ev
set_option linter.unusedVariables false
noncomputable section
def QaO.top (s0 : List Int × Int × Int) (p : ByteArray) : Option (YA × List Int × Int × Int) :=
 (Qat.f s0 p).bind fun r1 =>
 (Qd.f r1.2 60).bind fun r2 =>
 if ((r2.1 : Int) == 0) = true then
 (QM.f r2.2 ([19,20,300,301])).bind fun r3 =>
 some ((r1.1.1,(r1.1.2.1,(r3.1,r1.1.2.2.2))),r3.2)
 else if ((r2.1 : Int) == 1) = true then
 (QM.f r2.2 ([r1.1.2.2.2.1,IntKind.i64.wrap (r1.1.2.2.2.1 + 1),(-1)])).bind fun r4 =>
 some ((r1.1.1,(r1.1.2.1,(r1.1.2.2.1,(r1.1.2.2.2.1,(r4.1,r1.1.2.2.2.2.2))))),r4.2)
 else if ((r2.1 : Int) == 2) = true then
 (QM.f r2.2 ([0,50,51])).bind fun r5 =>
 some ((r1.1.1,(r1.1.2.1,(r1.1.2.2.1,(r1.1.2.2.2.1,(r1.1.2.2.2.2.1,(r5.1,r1.1.2.2.2.2.2.2)))))),r5.2)
 else if ((r2.1 : Int) == 3) = true then
 (Qad.f r2.2).bind fun r6 =>
 some ((r6.1,r1.1.2),r6.2)
 else if ((r2.1 : Int) == 4) = true then
 (QM.f r2.2 ([0,100000,100001])).bind fun r7 =>
 some ((r1.1.1,(r1.1.2.1,(r1.1.2.2.1,(r1.1.2.2.2.1,(r1.1.2.2.2.2.1,(r1.1.2.2.2.2.2.1,(r1.1.2.2.2.2.2.2.1,(r7.1,r1.1.2.2.2.2.2.2.2.2)))))))),r7.2)
 else
 some (r1.1,r2.2)
def QaO.fn (n : Nat) (s0 : List Int × Int × Int) (p : ByteArray) : Option (YA × List Int × Int × Int) := QaO.top s0 p
def QaO.f (s0 : List Int × Int × Int) (p : ByteArray) : Option (YA × List Int × Int × Int) := QaO.fn NN s0 p
end
end Go.Pl

namespace Go.Pl
open Go.Ev
set_option linter.unusedVariables false
noncomputable section
def Qar.top  : Option (List ByteArray) :=
 some ([(⟨#[97,115,116,101,114]⟩ : ByteArray),(⟨#[99,111,109,101,116]⟩ : ByteArray),(⟨#[100,97,104,108,105,97]⟩ : ByteArray),(⟨#[112,97,108,109]⟩ : ByteArray),(⟨#[112,101,111,110,121]⟩ : ByteArray),(⟨#[119,105,108,108,111,119]⟩ : ByteArray)])
def Qar.fn (n : Nat)  : Option (List ByteArray) := Qar.top 
def Qar.f  : Option (List ByteArray) := Qar.fn NN 
end
end Go.Pl

namespace Go.Pl
open Go.Ev
set_option linter.unusedVariables false
noncomputable section
def Qn.g13 (L13 : Int → YK → YG → Option YAE) (k6 : Int) (s0 : List Int × Int × Int) (p : List YA) : Option YAE :=
 (Qd.f s0 2).bind fun r6 =>
 if (decide (((p.length : Int) : Int) < (IntKind.i64.wrap (12 + r6.1)))) = true then
 if (decide ((k6 : Int) < 14)) = true then
 if (0 : Int) ≤ k6 ∧ (k6 : Int) ≤ (IntKind.i64.wrap (k6 + 1)) ∧ ((IntKind.i64.wrap (k6 + 1)) : Int) ≤ (⟨#[97,98,99,100,101,102,103,104,105,106,107,108,109,110]⟩ : ByteArray).size then
 if (⟨#[120]⟩ : ByteArray).size + ((⟨#[97,98,99,100,101,102,103,104,105,106,107,108,109,110]⟩ : ByteArray).extract (k6 : Int).toNat ((IntKind.i64.wrap (k6 + 1)) : Int).toNat).size ≤ 9223372036854775807 then
 (Qat.f r6.2 ((⟨#[120]⟩ : ByteArray) ++ ((⟨#[97,98,99,100,101,102,103,104,105,106,107,108,109,110]⟩ : ByteArray).extract (k6 : Int).toNat ((IntKind.i64.wrap (k6 + 1)) : Int).toNat))).bind fun r7 =>
 if p.length + ([r7.1]).length < room 80 then
 L13 (IntKind.i64.wrap (k6 + 1)) r7.2 (p ++ ([r7.1]))
 else
 none
 else
 none
 else
 none
 else
 some (p,r6.2)
 else
 some (p,r6.2)
def Qn.l13 (n : Nat) : Nat → Int → YK → YG → Option YAE
 | 0 => fun _ _ _ => none
 | k + 1 => Qn.g13 (Qn.l13 n k)
def Qn.g4 (I13 : Int → YK → YG → Option YAE) (L4 : Int → YK → YG → List ByteArray → Option YAE) (i5 : Int) (s0 : List Int × Int × Int) (p : List YA) (q : List ByteArray) : Option YAE :=
 if (decide ((i5 : Int) < (q.length : Int))) = true then
 (Qd.f s0 3).bind fun r2 =>
 if (decide ((0 : Int) < r2.1)) = true then
 if (0 : Int) ≤ i5 ∧ (i5 : Int) < q.length then
 (QaO.f r2.2 (q.getD (i5 : Int).toNat ByteArray.empty)).bind fun r3 =>
 if p.length + ([r3.1]).length < room 80 then
 L4 (IntKind.i64.wrap (i5 + 1)) r3.2 (p ++ ([r3.1])) q
 else
 none
 else
 none
 else
 L4 (IntKind.i64.wrap (i5 + 1)) r2.2 p q
 else
 (Qd.f s0 30).bind fun r4 =>
 if ((r4.1 : Int) == 0) = true then
 (Qat.f r4.2 (⟨#[97,115,116,101,114]⟩ : ByteArray)).bind fun r5 =>
 if p.length + ([r5.1]).length < room 80 then
 some (p ++ ([r5.1]),r5.2)
 else
 none
 else if ((r4.1 : Int) == 1) = true then
 I13 0 r4.2 p
 else
 some (p,r4.2)
def Qn.l4 (n : Nat) : Nat → Int → YK → YG → List ByteArray → Option YAE
 | 0 => fun _ _ _ _ => none
 | k + 1 => Qn.g4 (Qn.l13 n n) (Qn.l4 n k)
def Qn.top (I4 : Int → YK → YG → List ByteArray → Option YAE) (s0 : List Int × Int × Int) : Option YAE :=
 (Qar.f).bind fun r1 =>
 I4 0 s0 [] r1
def Qn.fn (n : Nat) (s0 : List Int × Int × Int) : Option YAE := Qn.top (Qn.l4 n n) s0
def Qn.f (s0 : List Int × Int × Int) : Option YAE := Qn.fn NN s0
end
end Go.Pl

namespace Go.Pl
open Go.Ev
set_option linter.unusedVariables false
noncomputable section
def QY.g3 (L3 : Int → YK → YF → Option YV) (n4 : Int) (s0 : List Int × Int × Int) (p : List YC) : Option YV :=
 if (decide ((0 : Int) < n4)) = true then
 (Qd.f s0 4).bind fun r2 =>
 (Qd.f r2.2 600).bind fun r3 =>
 if p.length + ([(IntKind.i64.wrap (2 + r2.1),IntKind.i64.wrap (400 + r3.1))]).length < room 16 then
 L3 (IntKind.i64.wrap (n4 - 1)) r3.2 (p ++ ([(IntKind.i64.wrap (2 + r2.1),IntKind.i64.wrap (400 + r3.1))]))
 else
 none
 else
 some (p,s0)
def QY.l3 (n : Nat) : Nat → Int → YK → YF → Option YV
 | 0 => fun _ _ _ => none
 | k + 1 => QY.g3 (QY.l3 n k)
def QY.top (I3 : Int → YK → YF → Option YV) (s0 : List Int × Int × Int) : Option YV :=
 (Qd.f s0 6).bind fun r1 =>
 I3 (IntKind.i64.wrap (1 + r1.1)) r1.2 []
def QY.fn (n : Nat) (s0 : List Int × Int × Int) : Option YV := QY.top (QY.l3 n n) s0
def QY.f (s0 : List Int × Int × Int) : Option YV := QY.fn NN s0
end
end Go.Pl

namespace Go.Pl
open Go.Ev
set_option linter.unusedVariables false
noncomputable section
def Q3.g8 (L8 : YK → YF → Option YV) (s0 : List Int × Int × Int) (p : List YC) : Option YV :=
 (Qd.f s0 2).bind fun r7 =>
 if (decide (((p.length : Int) : Int) < (IntKind.i64.wrap (20 + r7.1)))) = true then
 if p.length + ([(4,500)]).length < room 16 then
 L8 r7.2 (p ++ ([(4,500)]))
 else
 none
 else
 some (p,r7.2)
def Q3.l8 (n : Nat) : Nat → YK → YF → Option YV
 | 0 => fun _ _ => none
 | k + 1 => Q3.g8 (Q3.l8 n k)
def Q3.top (I8 : YK → YF → Option YV) (s0 : List Int × Int × Int) : Option YV :=
 (QY.f s0).bind fun r1 =>
 (Qd.f r1.2 40).bind fun r2 =>
 if ((r2.1 : Int) == 0) = true then
 (QM.f r2.2 ([0,1,16,17])).bind fun r3 =>
 if (0 : Int) ≤ 0 ∧ (0 : Int) < r1.1.length then
 (some (r1.1.set (0 : Int).toNat (r3.1,(r1.1.getD (0 : Int).toNat (0,0)).2))).bind fun r4 =>
 some (r4,r3.2)
 else
 none
 else if ((r2.1 : Int) == 1) = true then
 (QM.f r2.2 ([99,100,5000,5001])).bind fun r5 =>
 if (0 : Int) ≤ 0 ∧ (0 : Int) < r1.1.length then
 (some (r1.1.set (0 : Int).toNat ((r1.1.getD (0 : Int).toNat (0,0)).1,r5.1))).bind fun r6 =>
 some (r6,r5.2)
 else
 none
 else if ((r2.1 : Int) == 2) = true then
 I8 r2.2 r1.1
 else if ((r2.1 : Int) == 3) = true then
 if (0 : Int) ≤ 0 ∧ (0 : Int) ≤ r1.1.length then
 some (r1.1.take (0 : Int).toNat,r2.2)
 else
 none
 else
 some (r1.1,r2.2)
def Q3.fn (n : Nat) (s0 : List Int × Int × Int) : Option YV := Q3.top (Q3.l8 n n) s0
def Q3.f (s0 : List Int × Int × Int) : Option YV := Q3.fn NN s0
end
end Go.Pl

namespace Go.Pl
open Go.Ev
set_option linter.unusedVariables false
noncomputable section
def Qh.top (x0 : YF × YG × List YB) (p : List YB) : Option YH :=
 if ([] : List YC).length + x0.1.length < room 16 then
 if ([] : List YA).length + x0.2.1.length < room 80 then
 if ([] : List YB).length + p.length < room 40 then
 some (([] : List YC) ++ x0.1,(([] : List YA) ++ x0.2.1,([] : List YB) ++ p))
 else
 none
 else
 none
 else
 none
def Qh.fn (n : Nat) (x0 : YF × YG × List YB) (p : List YB) : Option YH := Qh.top x0 p
def Qh.f (x0 : YF × YG × List YB) (p : List YB) : Option YH := Qh.fn NN x0 p
end
end Go.Pl

namespace Go.Pl
open Go.Ev
set_option linter.unusedVariables false
noncomputable section
def Qa.gk06 (Lk06 : YN) (w2 : List YC) (w3 : List YA) (w4 : List YB) (w5 : List YC) (w6 : List YA) (w7 : List YB) : Option YJ :=
 (Q4.f (w5,(w6,w7))).bind fun r3 =>
 if (!r3) = true then
 some (([],([],[])),5)
 else
 some ((w5,(w6,w7)),0)
def Qa.lk06 (n : Nat) : Nat → YF → YG → YM → YF → YG → YM → Option YJ
 | 0 => fun _ _ _ _ _ _ => none
 | k + 1 => Qa.gk06 (Qa.lk06 n k)
theorem Qa.ck06 {n : Nat} (h : 0 < n) : Qa.lk06 n n = Qa.gk06 (Qa.lk06 n (n - 1)) := by
  cases n with
  | zero => exact absurd h (Nat.lt_irrefl 0)
  | succ n => rfl
def Qa.gk05 (Ik06 : YN) (Lk05 : YP) (x2 : YF × YG × List YB) (c3 : Int × Int × ByteArray × Int) (w3 : List YC) (w4 : List YA) (w5 : List YB) : Option YJ :=
 if ([] : List YB).length + x2.2.2.length < room 40 then
 if (([] : List YB) ++ x2.2.2).length + ([c3]).length < room 40 then
 (Qh.f x2 ((([] : List YB) ++ x2.2.2) ++ ([c3]))).bind fun r2 =>
 Ik06 w3 w4 w5 r2.1 r2.2.1 r2.2.2
 else
 none
 else
 none
def Qa.lk05 (n : Nat) : Nat → YH → YB → YF → YG → YM → Option YJ
 | 0 => fun _ _ _ _ _ => none
 | k + 1 => Qa.gk05 (Qa.lk06 n n) (Qa.lk05 n k)
theorem Qa.ck05 {n : Nat} (h : 0 < n) : Qa.lk05 n n = Qa.gk05 (Qa.lk06 n n) (Qa.lk05 n (n - 1)) := by
  cases n with
  | zero => exact absurd h (Nat.lt_irrefl 0)
  | succ n => rfl
def Qa.gk03 (Ik05 : YP) (Lk03 : YP) (x2 : YF × YG × List YB) (c3 : Int × Int × ByteArray × Int) (w3 : List YC) (w4 : List YA) (w5 : List YB) : Option YJ :=
 if (((x2.2.2.length : Int) : Int) == 20) = true then
 some (([],([],[])),3)
 else
 Ik05 x2 c3 w3 w4 w5
def Qa.lk03 (n : Nat) : Nat → YH → YB → YF → YG → YM → Option YJ
 | 0 => fun _ _ _ _ _ => none
 | k + 1 => Qa.gk03 (Qa.lk05 n n) (Qa.lk03 n k)
theorem Qa.ck03 {n : Nat} (h : 0 < n) : Qa.lk03 n n = Qa.gk03 (Qa.lk05 n n) (Qa.lk03 n (n - 1)) := by
  cases n with
  | zero => exact absurd h (Nat.lt_irrefl 0)
  | succ n => rfl
def Qa.gk01 (Ik03 : YP) (Lk01 : YP) (x2 : YF × YG × List YB) (c3 : Int × Int × ByteArray × Int) (w3 : List YC) (w4 : List YA) (w5 : List YB) : Option YJ :=
 (Q4.f x2).bind fun r1 =>
 if (!r1) = true then
 some (([],([],[])),1)
 else
 Ik03 x2 c3 w3 w4 w5
def Qa.lk01 (n : Nat) : Nat → YH → YB → YF → YG → YM → Option YJ
 | 0 => fun _ _ _ _ _ => none
 | k + 1 => Qa.gk01 (Qa.lk03 n n) (Qa.lk01 n k)
theorem Qa.ck01 {n : Nat} (h : 0 < n) : Qa.lk01 n n = Qa.gk01 (Qa.lk03 n n) (Qa.lk01 n (n - 1)) := by
  cases n with
  | zero => exact absurd h (Nat.lt_irrefl 0)
  | succ n => rfl
def Qa.top (Ik01 : YP) (x0 : YF × YG × List YB) (c1 : Int × Int × ByteArray × Int) : Option YJ :=
 Ik01 x0 c1 [] [] []
def Qa.fn (n : Nat) (x0 : YF × YG × List YB) (c1 : Int × Int × ByteArray × Int) : Option YJ := Qa.top (Qa.lk01 n n) x0 c1
def Qa.f (x0 : YF × YG × List YB) (c1 : Int × Int × ByteArray × Int) : Option YJ := Qa.fn NN x0 c1
end
end Go.Pl
