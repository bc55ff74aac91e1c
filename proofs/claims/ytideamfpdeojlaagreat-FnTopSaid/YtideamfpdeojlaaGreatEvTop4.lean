/- Part 4 of what the law FnTop stands on: an evaluator of the model's code, proved sound; the functions as plain texts; their contracts. -/
import Derived.Test.YtideamfpdeojlaaGreatEvTop3
namespace Go.Ev.Tryz
open Go.Proofs Go.Pl
set_option linter.unusedVariables false
noncomputable section
def Qb.stk0001 (w0a : Bool) (V : Bool) (K : Bool) (g : Bool) (v : Bool) (w : Int) (d0a : List YC) (o : Int) (m : Int) (j : Bool × Bool × Bool × Bool × Bool × Int) (w2' : List Int) : St := ⟨[.ptr 1 [], .gone, .gone, .gone, .gone, .gone, .gone, .gone, .gone, .gone, .gone, .gone, .gone, .gone, .gone, .gone, .gone, .gone, .gone, .gone, .gone, .gone, .gone, .gone, .gone, .gone, .gone, .gone, .gone, .gone, .gone, .gone, .gone, .gone, .gone, .gone, .gone, .gone, .gone, .gone, .gone, .gone, .gone, .gone, .gone, .gone, .gone, .gone, .gone, .gone, .gone, .gone, .gone, .gone, .gone, .gone, .gone, .gone, .gone, .gone, .gone, .gone, .gone, .gone, .gone, .gone, .gone, .gone, .gone, .gone, .gone, .gone, .gone, .gone, .gone, .gone, .gone], [.box 50 (.pair .bool (.pair .bool (.pair .bool (.pair .bool (.pair .bool (.int .i64)))))) (.pr (.dat .bool w0a) (.pr (.dat .bool V) (.pr (.dat .bool K) (.pr (.dat .bool g) (.pr (.dat .bool v) (.dat (.int .i64) w)))))), .box 89 (.pair (.sl 101 (.pair (.int .i64) (.int .i64))) (.pair (.int .i64) (.pair (.int .i64) (.pair (.pair .bool (.pair .bool (.pair .bool (.pair .bool (.pair .bool (.int .i64)))))) (.sl 2 (.int .i64)))))) (.pr (.dat (.sl 101 (.pair (.int .i64) (.int .i64))) d0a) (.pr (.dat (.int .i64) o) (.pr (.dat (.int .i64) m) (.pr (.dat (.pair .bool (.pair .bool (.pair .bool (.pair .bool (.pair .bool (.int .i64)))))) j) (.ref 2))))), .row 2 (.int .i64) w2' none]⟩
def Qb.tr0 (Lk0001 : YY) (s : Int) (v4a : Bool) (a : Bool) (t : Bool) (r : Bool) (p : Bool) (q : Int) (d6a : List YC) (b : Int) (u : Int) (c : Bool × Bool × Bool × Bool × Bool × Int) (w2 : List Int) (w0a : Bool) (V : Bool) (K : Bool) (g : Bool) (v : Bool) (w : Int) (d0a : List YC) (o : Int) (m : Int) (j : Bool × Bool × Bool × Bool × Bool × Int) (w2' : List Int) : Option YW :=
 if w2'.length + ([o]).length < room 8 then
  Lk0001 s v4a a t r p q d6a b u c w2 w0a V K g v w d0a (IntKind.i64.wrap (o + 1)) m j (w2' ++ ([o]))
 else
  none
def Qb.tr1 (Lk0001 : YY) (s : Int) (v4a : Bool) (a : Bool) (t : Bool) (r : Bool) (p : Bool) (q : Int) (d6a : List YC) (b : Int) (u : Int) (c : Bool × Bool × Bool × Bool × Bool × Int) (w2 : List Int) (w0a : Bool) (V : Bool) (K : Bool) (g : Bool) (v : Bool) (w : Int) (d0a : List YC) (o : Int) (m : Int) (j : Bool × Bool × Bool × Bool × Bool × Int) (w2' : List Int) : Option YW :=
 (Qaj.f j ((d0a.getD (o : Int).toNat (0, 0)).2)).bind fun r5 =>
 if ((r5.2 : Int) == 0) = true then
  Lk0001 s v4a a t r p q d6a b u c w2 w0a V K g v w d0a (IntKind.i64.wrap (o + 1)) m r5.1 w2'
 else
  agree (
   Qb.tr0 Lk0001 s v4a a t r p q d6a b u c w2 w0a V K g v w d0a o m j w2'
  ) (
   agree (
    Qb.tr0 Lk0001 s v4a a t r p q d6a b u c w2 w0a V K g v w d0a o m j w2'
   ) (
    Qb.tr0 Lk0001 s v4a a t r p q d6a b u c w2 w0a V K g v w d0a o m j w2'
   )
  )
def Qb.tr2 (Lk0001 : YY) (s : Int) (v4a : Bool) (a : Bool) (t : Bool) (r : Bool) (p : Bool) (q : Int) (d6a : List YC) (b : Int) (u : Int) (c : Bool × Bool × Bool × Bool × Bool × Int) (w2 : List Int) (w0a : Bool) (V : Bool) (K : Bool) (g : Bool) (v : Bool) (w : Int) (d0a : List YC) (o : Int) (m : Int) (j : Bool × Bool × Bool × Bool × Bool × Int) (w2' : List Int) : Option YW :=
 agree (
  Qb.tr1 Lk0001 s v4a a t r p q d6a b u c w2 w0a V K g v w d0a o m j w2'
 ) (
  Qb.tr1 Lk0001 s v4a a t r p q d6a b u c w2 w0a V K g v w d0a o m j w2'
 )
def Qb.tr3 (Lk0001 : YY) (s : Int) (v4a : Bool) (a : Bool) (t : Bool) (r : Bool) (p : Bool) (q : Int) (d6a : List YC) (b : Int) (u : Int) (c : Bool × Bool × Bool × Bool × Bool × Int) (w2 : List Int) (w0a : Bool) (V : Bool) (K : Bool) (g : Bool) (v : Bool) (w : Int) (d0a : List YC) (o : Int) (m : Int) (j : Bool × Bool × Bool × Bool × Bool × Int) (w2' : List Int) : Option YW :=
 agree (
  Qb.tr2 Lk0001 s v4a a t r p q d6a b u c w2 w0a V K g v w d0a o m j w2'
 ) (
  Qb.tr1 Lk0001 s v4a a t r p q d6a b u c w2 w0a V K g v w d0a o m j w2'
 )
def Qb.tr4 (Lk0001 : YY) (s : Int) (v4a : Bool) (a : Bool) (t : Bool) (r : Bool) (p : Bool) (q : Int) (d6a : List YC) (b : Int) (u : Int) (c : Bool × Bool × Bool × Bool × Bool × Int) (w2 : List Int) (w0a : Bool) (V : Bool) (K : Bool) (g : Bool) (v : Bool) (w : Int) (d0a : List YC) (o : Int) (m : Int) (j : Bool × Bool × Bool × Bool × Bool × Int) (w2' : List Int) : Option YW :=
 if (0 : Int) ≤ o ∧ (o : Int) < d0a.length then
  Qb.tr1 Lk0001 s v4a a t r p q d6a b u c w2 w0a V K g v w d0a o m j w2'
 else
  none
def Qb.tr5 (Lk0001 : YY) (s : Int) (v4a : Bool) (a : Bool) (t : Bool) (r : Bool) (p : Bool) (q : Int) (d6a : List YC) (b : Int) (u : Int) (c : Bool × Bool × Bool × Bool × Bool × Int) (w2 : List Int) (w0a : Bool) (V : Bool) (K : Bool) (g : Bool) (v : Bool) (w : Int) (d0a : List YC) (o : Int) (m : Int) (j : Bool × Bool × Bool × Bool × Bool × Int) (w2' : List Int) : Option YW :=
 agree (
  if (0 : Int) ≤ o ∧ (o : Int) < d0a.length then
   Qb.tr3 Lk0001 s v4a a t r p q d6a b u c w2 w0a V K g v w d0a o m j w2'
  else
   none
 ) (
  Qb.tr4 Lk0001 s v4a a t r p q d6a b u c w2 w0a V K g v w d0a o m j w2'
 )
def Qb.tr6 (Lk0001 : YY) (s : Int) (v4a : Bool) (a : Bool) (t : Bool) (r : Bool) (p : Bool) (q : Int) (d6a : List YC) (b : Int) (u : Int) (c : Bool × Bool × Bool × Bool × Bool × Int) (w2 : List Int) (w0a : Bool) (V : Bool) (K : Bool) (g : Bool) (v : Bool) (w : Int) (d0a : List YC) (o : Int) (m : Int) (j : Bool × Bool × Bool × Bool × Bool × Int) (w2' : List Int) : Option YW :=
 agree (
  Qb.tr4 Lk0001 s v4a a t r p q d6a b u c w2 w0a V K g v w d0a o m j w2'
 ) (
  Qb.tr4 Lk0001 s v4a a t r p q d6a b u c w2 w0a V K g v w d0a o m j w2'
 )
def Qb.tr7 (Lk0001 : YY) (s : Int) (v4a : Bool) (a : Bool) (t : Bool) (r : Bool) (p : Bool) (q : Int) (d6a : List YC) (b : Int) (u : Int) (c : Bool × Bool × Bool × Bool × Bool × Int) (w2 : List Int) (w0a : Bool) (V : Bool) (K : Bool) (g : Bool) (v : Bool) (w : Int) (d0a : List YC) (o : Int) (m : Int) (j : Bool × Bool × Bool × Bool × Bool × Int) (w2' : List Int) : Option YW :=
 agree (
  Qb.tr4 Lk0001 s v4a a t r p q d6a b u c w2 w0a V K g v w d0a o m j w2'
 ) (
  if (0 : Int) ≤ o ∧ (o : Int) < d0a.length then
   Qb.tr2 Lk0001 s v4a a t r p q d6a b u c w2 w0a V K g v w d0a o m j w2'
  else
   none
 )
def Qb.tr8 (Lk0001 : YY) (s : Int) (v4a : Bool) (a : Bool) (t : Bool) (r : Bool) (p : Bool) (q : Int) (d6a : List YC) (b : Int) (u : Int) (c : Bool × Bool × Bool × Bool × Bool × Int) (w2 : List Int) (w0a : Bool) (V : Bool) (K : Bool) (g : Bool) (v : Bool) (w : Int) (d0a : List YC) (o : Int) (m : Int) (j : Bool × Bool × Bool × Bool × Bool × Int) (w2' : List Int) : Option YW :=
 agree (
  Qb.tr5 Lk0001 s v4a a t r p q d6a b u c w2 w0a V K g v w d0a o m j w2'
 ) (
  agree (
   if (0 : Int) ≤ o ∧ (o : Int) < d0a.length then
    agree (
     Qb.tr3 Lk0001 s v4a a t r p q d6a b u c w2 w0a V K g v w d0a o m j w2'
    ) (
     agree (
      Qb.tr3 Lk0001 s v4a a t r p q d6a b u c w2 w0a V K g v w d0a o m j w2'
     ) (
      Qb.tr2 Lk0001 s v4a a t r p q d6a b u c w2 w0a V K g v w d0a o m j w2'
     )
    )
   else
    none
  ) (
   Qb.tr7 Lk0001 s v4a a t r p q d6a b u c w2 w0a V K g v w d0a o m j w2'
  )
 )
def Qb.gk0001raw (L7 : YZ) (Lk0001 : YY) (s : Int) (v4a : Bool) (a : Bool) (t : Bool) (r : Bool) (p : Bool) (q : Int) (d6a : List YC) (b : Int) (u : Int) (c : Bool × Bool × Bool × Bool × Bool × Int) (w2 : List Int) (w0a : Bool) (V : Bool) (K : Bool) (g : Bool) (v : Bool) (w : Int) (d0a : List YC) (o : Int) (m : Int) (j : Bool × Bool × Bool × Bool × Bool × Int) (w2' : List Int) : Option YW :=
 if (decide ((o : Int) < (d0a.length : Int))) = true then
  if (0 : Int) ≤ o ∧ (o : Int) < d0a.length then
   if ((((d0a.getD (o : Int).toNat (0, 0)).1) : Int) == m) = true then
    agree (
     agree (
      Qb.tr5 Lk0001 s v4a a t r p q d6a b u c w2 w0a V K g v w d0a o m j w2'
     ) (
      agree (
       Qb.tr5 Lk0001 s v4a a t r p q d6a b u c w2 w0a V K g v w d0a o m j w2'
      ) (
       Qb.tr6 Lk0001 s v4a a t r p q d6a b u c w2 w0a V K g v w d0a o m j w2'
      )
     )
    ) (
     agree (
      Qb.tr8 Lk0001 s v4a a t r p q d6a b u c w2 w0a V K g v w d0a o m j w2'
     ) (
      agree (
       Qb.tr8 Lk0001 s v4a a t r p q d6a b u c w2 w0a V K g v w d0a o m j w2'
      ) (
       agree (
        Qb.tr6 Lk0001 s v4a a t r p q d6a b u c w2 w0a V K g v w d0a o m j w2'
       ) (
        agree (
         Qb.tr7 Lk0001 s v4a a t r p q d6a b u c w2 w0a V K g v w d0a o m j w2'
        ) (
         Qb.tr7 Lk0001 s v4a a t r p q d6a b u c w2 w0a V K g v w d0a o m j w2'
        )
       )
      )
     )
    )
   else
    L7 s w0a V K g v w d0a o m j w2'
  else
   none
 else
  L7 s w0a V K g v w d0a o m j w2'
theorem Qb.gk0001raw_eq (L7 : YZ) (Lk0001 : YY) (s : Int) (v4a : Bool) (a : Bool) (t : Bool) (r : Bool) (p : Bool) (q : Int) (d6a : List YC) (b : Int) (u : Int) (c : Bool × Bool × Bool × Bool × Bool × Int) (w2 : List Int) (w0a : Bool) (V : Bool) (K : Bool) (g : Bool) (v : Bool) (w : Int) (d0a : List YC) (o : Int) (m : Int) (j : Bool × Bool × Bool × Bool × Bool × Int) (w2' : List Int) : Qb.gk0001raw L7 Lk0001 s v4a a t r p q d6a b u c w2 w0a V K g v w d0a o m j w2' = Qb.gk0001 L7 Lk0001 s v4a a t r p q d6a b u c w2 w0a V K g v w d0a o m j w2' := by
 unfold Qb.gk0001raw Qb.gk0001
 simp only [Vi, Qb.tr0, Qb.tr1, Qb.tr2, Qb.tr3, Qb.tr4, Qb.tr5, Qb.tr6, Qb.tr7, Qb.tr8]
def Qb.stk09 (s : Int) (v4a : Bool) (a : Bool) (t : Bool) (r : Bool) (p : Bool) (q : Int) (d6a : List YC) (b : Int) (u : Int) (c : Bool × Bool × Bool × Bool × Bool × Int) (w2 : List Int) : St := ⟨[.gone, .dat (.int .i64) s, .gone, .gone, .ptr 0 [], .gone, .ptr 1 [], .gone, .gone, .gone, .gone, .gone, .gone, .gone, .gone, .gone, .gone, .gone, .gone, .gone, .gone, .gone, .gone, .gone, .gone, .gone, .gone, .gone, .gone, .gone, .gone, .gone, .gone, .gone], [.box 50 (.pair .bool (.pair .bool (.pair .bool (.pair .bool (.pair .bool (.int .i64)))))) (.pr (.dat .bool v4a) (.pr (.dat .bool a) (.pr (.dat .bool t) (.pr (.dat .bool r) (.pr (.dat .bool p) (.dat (.int .i64) q)))))), .box 89 (.pair (.sl 101 (.pair (.int .i64) (.int .i64))) (.pair (.int .i64) (.pair (.int .i64) (.pair (.pair .bool (.pair .bool (.pair .bool (.pair .bool (.pair .bool (.int .i64)))))) (.sl 2 (.int .i64)))))) (.pr (.dat (.sl 101 (.pair (.int .i64) (.int .i64))) d6a) (.pr (.dat (.int .i64) b) (.pr (.dat (.int .i64) u) (.pr (.dat (.pair .bool (.pair .bool (.pair .bool (.pair .bool (.pair .bool (.int .i64)))))) c) (.ref 2))))), .row 2 (.int .i64) w2 none]⟩
def Qb.stk08 (s : Int) (v4a : Bool) (a : Bool) (t : Bool) (r : Bool) (p : Bool) (q : Int) (d6a : List YC) (b : Int) (u : Int) (c : Bool × Bool × Bool × Bool × Bool × Int) (w2 : List Int) : St := ⟨[.gone, .dat (.int .i64) s, .gone, .gone, .ptr 0 [], .gone, .ptr 1 [], .gone, .gone, .gone, .gone, .gone, .gone, .gone, .gone, .gone, .gone, .gone, .gone, .gone, .gone, .gone, .gone, .gone, .gone, .gone, .gone, .gone, .gone, .gone, .gone, .gone, .gone, .gone], [.box 50 (.pair .bool (.pair .bool (.pair .bool (.pair .bool (.pair .bool (.int .i64)))))) (.pr (.dat .bool v4a) (.pr (.dat .bool a) (.pr (.dat .bool t) (.pr (.dat .bool r) (.pr (.dat .bool p) (.dat (.int .i64) q)))))), .box 89 (.pair (.sl 101 (.pair (.int .i64) (.int .i64))) (.pair (.int .i64) (.pair (.int .i64) (.pair (.pair .bool (.pair .bool (.pair .bool (.pair .bool (.pair .bool (.int .i64)))))) (.sl 2 (.int .i64)))))) (.pr (.dat (.sl 101 (.pair (.int .i64) (.int .i64))) d6a) (.pr (.dat (.int .i64) b) (.pr (.dat (.int .i64) u) (.pr (.dat (.pair .bool (.pair .bool (.pair .bool (.pair .bool (.pair .bool (.int .i64)))))) c) (.ref 2))))), .row 2 (.int .i64) w2 none]⟩
def Qb.st7 (s : Int) (v4a : Bool) (a : Bool) (t : Bool) (r : Bool) (p : Bool) (q : Int) (d6a : List YC) (b : Int) (u : Int) (c : Bool × Bool × Bool × Bool × Bool × Int) (w2 : List Int) : St := ⟨[.gone, .dat (.int .i64) s, .gone, .gone, .ptr 0 [], .gone, .ptr 1 [], .gone, .gone, .gone, .gone, .gone, .gone, .gone, .gone, .gone, .gone, .gone, .gone, .gone, .gone, .gone, .gone, .gone, .gone, .gone, .gone, .gone, .gone, .gone, .gone, .gone, .gone, .gone], [.box 50 (.pair .bool (.pair .bool (.pair .bool (.pair .bool (.pair .bool (.int .i64)))))) (.pr (.dat .bool v4a) (.pr (.dat .bool a) (.pr (.dat .bool t) (.pr (.dat .bool r) (.pr (.dat .bool p) (.dat (.int .i64) q)))))), .box 89 (.pair (.sl 101 (.pair (.int .i64) (.int .i64))) (.pair (.int .i64) (.pair (.int .i64) (.pair (.pair .bool (.pair .bool (.pair .bool (.pair .bool (.pair .bool (.int .i64)))))) (.sl 2 (.int .i64)))))) (.pr (.dat (.sl 101 (.pair (.int .i64) (.int .i64))) d6a) (.pr (.dat (.int .i64) b) (.pr (.dat (.int .i64) u) (.pr (.dat (.pair .bool (.pair .bool (.pair .bool (.pair .bool (.pair .bool (.int .i64)))))) c) (.ref 2))))), .row 2 (.int .i64) w2 none]⟩
def Qb.stk07 (s : Int) (v4a : Bool) (a : Bool) (t : Bool) (r : Bool) (p : Bool) (q : Int) (d6a : List YC) (b : Int) (u : Int) (c : Bool × Bool × Bool × Bool × Bool × Int) (w2 : List Int) : St := ⟨[.gone, .dat (.int .i64) s, .gone, .gone, .ptr 0 [], .gone, .ptr 1 [], .gone, .gone, .gone, .gone, .gone, .gone, .gone, .gone, .gone, .gone, .gone, .gone, .gone, .gone, .gone, .gone, .gone, .gone, .gone, .gone, .gone, .gone, .gone, .gone, .gone, .gone, .gone], [.box 50 (.pair .bool (.pair .bool (.pair .bool (.pair .bool (.pair .bool (.int .i64)))))) (.pr (.dat .bool v4a) (.pr (.dat .bool a) (.pr (.dat .bool t) (.pr (.dat .bool r) (.pr (.dat .bool p) (.dat (.int .i64) q)))))), .box 89 (.pair (.sl 101 (.pair (.int .i64) (.int .i64))) (.pair (.int .i64) (.pair (.int .i64) (.pair (.pair .bool (.pair .bool (.pair .bool (.pair .bool (.pair .bool (.int .i64)))))) (.sl 2 (.int .i64)))))) (.pr (.dat (.sl 101 (.pair (.int .i64) (.int .i64))) d6a) (.pr (.dat (.int .i64) b) (.pr (.dat (.int .i64) u) (.pr (.dat (.pair .bool (.pair .bool (.pair .bool (.pair .bool (.pair .bool (.int .i64)))))) c) (.ref 2))))), .row 2 (.int .i64) w2 none]⟩
def Qb.st70000001 (w0a : Bool) (V : Bool) (K : Bool) (g : Bool) (v : Bool) (w : Int) (d0a : List YC) (o : Int) (m : Int) (j : Bool × Bool × Bool × Bool × Bool × Int) (w2' : List Int) : St := ⟨[.ptr 1 [], .gone, .gone, .gone, .gone, .gone, .gone, .gone, .gone, .gone, .gone, .gone, .gone, .gone, .gone, .gone, .gone, .gone, .gone, .gone, .gone, .gone, .gone, .gone, .gone, .gone, .gone, .gone, .gone, .gone, .gone, .gone, .gone, .gone, .gone, .gone, .gone, .gone, .gone, .gone, .gone, .gone, .gone, .gone, .gone, .gone, .gone, .gone, .gone, .gone, .gone, .gone, .gone, .gone, .gone, .gone, .gone, .gone, .gone, .gone, .gone, .gone, .gone, .gone, .gone, .gone, .gone, .gone, .gone, .gone, .gone, .gone, .gone, .gone, .gone, .gone, .gone], [.box 50 (.pair .bool (.pair .bool (.pair .bool (.pair .bool (.pair .bool (.int .i64)))))) (.pr (.dat .bool w0a) (.pr (.dat .bool V) (.pr (.dat .bool K) (.pr (.dat .bool g) (.pr (.dat .bool v) (.dat (.int .i64) w)))))), .box 89 (.pair (.sl 101 (.pair (.int .i64) (.int .i64))) (.pair (.int .i64) (.pair (.int .i64) (.pair (.pair .bool (.pair .bool (.pair .bool (.pair .bool (.pair .bool (.int .i64)))))) (.sl 2 (.int .i64)))))) (.pr (.dat (.sl 101 (.pair (.int .i64) (.int .i64))) d0a) (.pr (.dat (.int .i64) o) (.pr (.dat (.int .i64) m) (.pr (.dat (.pair .bool (.pair .bool (.pair .bool (.pair .bool (.pair .bool (.int .i64)))))) j) (.ref 2))))), .row 2 (.int .i64) w2' none]⟩
def Qb.tr9 (L70000001 : YX) (s : Int) (v4a : Bool) (a : Bool) (t : Bool) (r : Bool) (p : Bool) (q : Int) (d6a : List YC) (b : Int) (u : Int) (R : Bool) (Q : Bool) (l : Bool) (d : Bool) (y : Bool) (z : Int) (w2 : List Int) (w0a : Bool) (V : Bool) (K : Bool) (g : Bool) (v : Bool) (w : Int) (d0a : List YC) (o : Int) (m : Int) (j : Bool × Bool × Bool × Bool × Bool × Int) (w2' : List Int) : Option YW :=
 if w2'.length + ([o]).length < room 8 then
  L70000001 s v4a a t r p q d6a b u R Q l d y z w2 w0a V K g v w d0a (IntKind.i64.wrap (o + 1)) m j (w2' ++ ([o]))
 else
  none
def Qb.tr10 (L70000001 : YX) (s : Int) (v4a : Bool) (a : Bool) (t : Bool) (r : Bool) (p : Bool) (q : Int) (d6a : List YC) (b : Int) (u : Int) (R : Bool) (Q : Bool) (l : Bool) (d : Bool) (y : Bool) (z : Int) (w2 : List Int) (w0a : Bool) (V : Bool) (K : Bool) (g : Bool) (v : Bool) (w : Int) (d0a : List YC) (o : Int) (m : Int) (j : Bool × Bool × Bool × Bool × Bool × Int) (w2' : List Int) : Option YW :=
 (Qaj.f j ((d0a.getD (o : Int).toNat (0, 0)).2)).bind fun r3 =>
 if ((r3.2 : Int) == 0) = true then
  L70000001 s v4a a t r p q d6a b u R Q l d y z w2 w0a V K g v w d0a (IntKind.i64.wrap (o + 1)) m r3.1 w2'
 else
  agree (
   Qb.tr9 L70000001 s v4a a t r p q d6a b u R Q l d y z w2 w0a V K g v w d0a o m j w2'
  ) (
   agree (
    Qb.tr9 L70000001 s v4a a t r p q d6a b u R Q l d y z w2 w0a V K g v w d0a o m j w2'
   ) (
    Qb.tr9 L70000001 s v4a a t r p q d6a b u R Q l d y z w2 w0a V K g v w d0a o m j w2'
   )
  )
def Qb.tr11 (L70000001 : YX) (s : Int) (v4a : Bool) (a : Bool) (t : Bool) (r : Bool) (p : Bool) (q : Int) (d6a : List YC) (b : Int) (u : Int) (R : Bool) (Q : Bool) (l : Bool) (d : Bool) (y : Bool) (z : Int) (w2 : List Int) (w0a : Bool) (V : Bool) (K : Bool) (g : Bool) (v : Bool) (w : Int) (d0a : List YC) (o : Int) (m : Int) (j : Bool × Bool × Bool × Bool × Bool × Int) (w2' : List Int) : Option YW :=
 agree (
  Qb.tr10 L70000001 s v4a a t r p q d6a b u R Q l d y z w2 w0a V K g v w d0a o m j w2'
 ) (
  Qb.tr10 L70000001 s v4a a t r p q d6a b u R Q l d y z w2 w0a V K g v w d0a o m j w2'
 )
def Qb.tr12 (L70000001 : YX) (s : Int) (v4a : Bool) (a : Bool) (t : Bool) (r : Bool) (p : Bool) (q : Int) (d6a : List YC) (b : Int) (u : Int) (R : Bool) (Q : Bool) (l : Bool) (d : Bool) (y : Bool) (z : Int) (w2 : List Int) (w0a : Bool) (V : Bool) (K : Bool) (g : Bool) (v : Bool) (w : Int) (d0a : List YC) (o : Int) (m : Int) (j : Bool × Bool × Bool × Bool × Bool × Int) (w2' : List Int) : Option YW :=
 agree (
  Qb.tr11 L70000001 s v4a a t r p q d6a b u R Q l d y z w2 w0a V K g v w d0a o m j w2'
 ) (
  Qb.tr10 L70000001 s v4a a t r p q d6a b u R Q l d y z w2 w0a V K g v w d0a o m j w2'
 )
def Qb.tr13 (L70000001 : YX) (s : Int) (v4a : Bool) (a : Bool) (t : Bool) (r : Bool) (p : Bool) (q : Int) (d6a : List YC) (b : Int) (u : Int) (R : Bool) (Q : Bool) (l : Bool) (d : Bool) (y : Bool) (z : Int) (w2 : List Int) (w0a : Bool) (V : Bool) (K : Bool) (g : Bool) (v : Bool) (w : Int) (d0a : List YC) (o : Int) (m : Int) (j : Bool × Bool × Bool × Bool × Bool × Int) (w2' : List Int) : Option YW :=
 if (0 : Int) ≤ o ∧ (o : Int) < d0a.length then
  Qb.tr10 L70000001 s v4a a t r p q d6a b u R Q l d y z w2 w0a V K g v w d0a o m j w2'
 else
  none
def Qb.tr14 (L70000001 : YX) (s : Int) (v4a : Bool) (a : Bool) (t : Bool) (r : Bool) (p : Bool) (q : Int) (d6a : List YC) (b : Int) (u : Int) (R : Bool) (Q : Bool) (l : Bool) (d : Bool) (y : Bool) (z : Int) (w2 : List Int) (w0a : Bool) (V : Bool) (K : Bool) (g : Bool) (v : Bool) (w : Int) (d0a : List YC) (o : Int) (m : Int) (j : Bool × Bool × Bool × Bool × Bool × Int) (w2' : List Int) : Option YW :=
 agree (
  if (0 : Int) ≤ o ∧ (o : Int) < d0a.length then
   Qb.tr12 L70000001 s v4a a t r p q d6a b u R Q l d y z w2 w0a V K g v w d0a o m j w2'
  else
   none
 ) (
  Qb.tr13 L70000001 s v4a a t r p q d6a b u R Q l d y z w2 w0a V K g v w d0a o m j w2'
 )
def Qb.tr15 (L70000001 : YX) (s : Int) (v4a : Bool) (a : Bool) (t : Bool) (r : Bool) (p : Bool) (q : Int) (d6a : List YC) (b : Int) (u : Int) (R : Bool) (Q : Bool) (l : Bool) (d : Bool) (y : Bool) (z : Int) (w2 : List Int) (w0a : Bool) (V : Bool) (K : Bool) (g : Bool) (v : Bool) (w : Int) (d0a : List YC) (o : Int) (m : Int) (j : Bool × Bool × Bool × Bool × Bool × Int) (w2' : List Int) : Option YW :=
 agree (
  Qb.tr13 L70000001 s v4a a t r p q d6a b u R Q l d y z w2 w0a V K g v w d0a o m j w2'
 ) (
  Qb.tr13 L70000001 s v4a a t r p q d6a b u R Q l d y z w2 w0a V K g v w d0a o m j w2'
 )
def Qb.tr16 (L70000001 : YX) (s : Int) (v4a : Bool) (a : Bool) (t : Bool) (r : Bool) (p : Bool) (q : Int) (d6a : List YC) (b : Int) (u : Int) (R : Bool) (Q : Bool) (l : Bool) (d : Bool) (y : Bool) (z : Int) (w2 : List Int) (w0a : Bool) (V : Bool) (K : Bool) (g : Bool) (v : Bool) (w : Int) (d0a : List YC) (o : Int) (m : Int) (j : Bool × Bool × Bool × Bool × Bool × Int) (w2' : List Int) : Option YW :=
 agree (
  Qb.tr13 L70000001 s v4a a t r p q d6a b u R Q l d y z w2 w0a V K g v w d0a o m j w2'
 ) (
  if (0 : Int) ≤ o ∧ (o : Int) < d0a.length then
   Qb.tr11 L70000001 s v4a a t r p q d6a b u R Q l d y z w2 w0a V K g v w d0a o m j w2'
  else
   none
 )
def Qb.tr17 (L70000001 : YX) (s : Int) (v4a : Bool) (a : Bool) (t : Bool) (r : Bool) (p : Bool) (q : Int) (d6a : List YC) (b : Int) (u : Int) (R : Bool) (Q : Bool) (l : Bool) (d : Bool) (y : Bool) (z : Int) (w2 : List Int) (w0a : Bool) (V : Bool) (K : Bool) (g : Bool) (v : Bool) (w : Int) (d0a : List YC) (o : Int) (m : Int) (j : Bool × Bool × Bool × Bool × Bool × Int) (w2' : List Int) : Option YW :=
 agree (
  Qb.tr14 L70000001 s v4a a t r p q d6a b u R Q l d y z w2 w0a V K g v w d0a o m j w2'
 ) (
  agree (
   if (0 : Int) ≤ o ∧ (o : Int) < d0a.length then
    agree (
     Qb.tr12 L70000001 s v4a a t r p q d6a b u R Q l d y z w2 w0a V K g v w d0a o m j w2'
    ) (
     agree (
      Qb.tr12 L70000001 s v4a a t r p q d6a b u R Q l d y z w2 w0a V K g v w d0a o m j w2'
     ) (
      Qb.tr11 L70000001 s v4a a t r p q d6a b u R Q l d y z w2 w0a V K g v w d0a o m j w2'
     )
    )
   else
    none
  ) (
   Qb.tr16 L70000001 s v4a a t r p q d6a b u R Q l d y z w2 w0a V K g v w d0a o m j w2'
  )
 )
def Qb.g70000001raw (Ik07 : YZ) (L70000001 : YX) (s : Int) (v4a : Bool) (a : Bool) (t : Bool) (r : Bool) (p : Bool) (q : Int) (d6a : List YC) (b : Int) (u : Int) (R : Bool) (Q : Bool) (l : Bool) (d : Bool) (y : Bool) (z : Int) (w2 : List Int) (w0a : Bool) (V : Bool) (K : Bool) (g : Bool) (v : Bool) (w : Int) (d0a : List YC) (o : Int) (m : Int) (j : Bool × Bool × Bool × Bool × Bool × Int) (w2' : List Int) : Option YW :=
 if (decide ((o : Int) < (d0a.length : Int))) = true then
  if (0 : Int) ≤ o ∧ (o : Int) < d0a.length then
   if ((((d0a.getD (o : Int).toNat (0, 0)).1) : Int) == m) = true then
    agree (
     agree (
      Qb.tr14 L70000001 s v4a a t r p q d6a b u R Q l d y z w2 w0a V K g v w d0a o m j w2'
     ) (
      agree (
       Qb.tr14 L70000001 s v4a a t r p q d6a b u R Q l d y z w2 w0a V K g v w d0a o m j w2'
      ) (
       Qb.tr15 L70000001 s v4a a t r p q d6a b u R Q l d y z w2 w0a V K g v w d0a o m j w2'
      )
     )
    ) (
     agree (
      Qb.tr17 L70000001 s v4a a t r p q d6a b u R Q l d y z w2 w0a V K g v w d0a o m j w2'
     ) (
      agree (
       Qb.tr17 L70000001 s v4a a t r p q d6a b u R Q l d y z w2 w0a V K g v w d0a o m j w2'
      ) (
       agree (
        Qb.tr15 L70000001 s v4a a t r p q d6a b u R Q l d y z w2 w0a V K g v w d0a o m j w2'
       ) (
        agree (
         Qb.tr16 L70000001 s v4a a t r p q d6a b u R Q l d y z w2 w0a V K g v w d0a o m j w2'
        ) (
         Qb.tr16 L70000001 s v4a a t r p q d6a b u R Q l d y z w2 w0a V K g v w d0a o m j w2'
        )
       )
      )
     )
    )
   else
    Ik07 s w0a V K g v w d0a o m j w2'
  else
   none
 else
  Ik07 s w0a V K g v w d0a o m j w2'
theorem Qb.g70000001raw_eq (Ik07 : YZ) (L70000001 : YX) (s : Int) (v4a : Bool) (a : Bool) (t : Bool) (r : Bool) (p : Bool) (q : Int) (d6a : List YC) (b : Int) (u : Int) (R : Bool) (Q : Bool) (l : Bool) (d : Bool) (y : Bool) (z : Int) (w2 : List Int) (w0a : Bool) (V : Bool) (K : Bool) (g : Bool) (v : Bool) (w : Int) (d0a : List YC) (o : Int) (m : Int) (j : Bool × Bool × Bool × Bool × Bool × Int) (w2' : List Int) : Qb.g70000001raw Ik07 L70000001 s v4a a t r p q d6a b u R Q l d y z w2 w0a V K g v w d0a o m j w2' = Qb.g70000001 Ik07 L70000001 s v4a a t r p q d6a b u R Q l d y z w2 w0a V K g v w d0a o m j w2' := by
 unfold Qb.g70000001raw Qb.g70000001
 simp only [Vi, Qb.tr9, Qb.tr10, Qb.tr11, Qb.tr12, Qb.tr13, Qb.tr14, Qb.tr15, Qb.tr16, Qb.tr17]
def Qb.stk06 (s : Int) (v4a : Bool) (a : Bool) (t : Bool) (r : Bool) (p : Bool) (q : Int) (d6a : List YC) (b : Int) (u : Int) (R : Bool) (Q : Bool) (l : Bool) (d : Bool) (y : Bool) (z : Int) (w2 : List Int) : St := ⟨[.gone, .dat (.int .i64) s, .gone, .gone, .ptr 0 [], .gone, .ptr 1 [], .gone, .gone, .gone, .gone, .gone, .gone, .gone, .gone, .gone, .gone, .gone, .gone, .gone, .gone, .gone, .gone, .gone, .gone, .gone, .gone, .gone, .gone, .gone, .gone, .gone, .gone, .gone], [.box 50 (.pair .bool (.pair .bool (.pair .bool (.pair .bool (.pair .bool (.int .i64)))))) (.pr (.dat .bool v4a) (.pr (.dat .bool a) (.pr (.dat .bool t) (.pr (.dat .bool r) (.pr (.dat .bool p) (.dat (.int .i64) q)))))), .box 89 (.pair (.sl 101 (.pair (.int .i64) (.int .i64))) (.pair (.int .i64) (.pair (.int .i64) (.pair (.pair .bool (.pair .bool (.pair .bool (.pair .bool (.pair .bool (.int .i64)))))) (.sl 2 (.int .i64)))))) (.pr (.dat (.sl 101 (.pair (.int .i64) (.int .i64))) d6a) (.pr (.dat (.int .i64) b) (.pr (.dat (.int .i64) u) (.pr (.pr (.dat .bool R) (.pr (.dat .bool Q) (.pr (.dat .bool l) (.pr (.dat .bool d) (.pr (.dat .bool y) (.dat (.int .i64) z)))))) (.ref 2))))), .row 2 (.int .i64) w2 none]⟩
def Qb.con : Con := { ps := [(.val, (.sl 101 (.pair (.int .i64) (.int .i64)))), (.val, (.int .i64))], rs := [(.val, (.pair .bool (.pair .bool (.pair .bool (.pair .bool (.pair .bool (.int .i64))))))), (.val, (.int .i64))], F := fun x => Qb.f x.1 x.2 }
def Qb.cs : List (FuncId × Con) := [(43, Qw.con), (44, QaK.con), (87, Qaj.con)]
def Qb.E : Env := envOf tab Qb.cs 0 false
def Qb.I (f : FuncId) : Option Func := if f = 45 then some Tryz.f45 else if f = 46 then some Tryz.f46 else none
theorem Qb.hI : ∀ f fn, Qb.I f = some fn → Tryz.prog.funcs[f]? = some fn ∧ fn.body.isSome = true ∧ fn.name ≠ "runtime.NumGoroutine" := by
  intro f fn h
  unfold Qb.I at h
  split at h
  · rename_i e; subst e; cases h; exact ⟨Tryz.func45, rfl, by decide⟩
  split at h
  · rename_i e; subst e; cases h; exact ⟨Tryz.func46, rfl, by decide⟩
  cases h
def Qb.keep (i : Nat) : List Nat := if i = 100000001 then [0] else if i = 1000009 then [1, 4, 6] else if i = 1000008 then [1, 4, 6] else if i = 7 then [1, 4, 6] else if i = 1000007 then [1, 4, 6] else if i = 70000001 then [0, 200000] else if i = 1000006 then [1, 4, 6] else []
def Qb.atk0001 (n : Nat) (x : YF × Int) (M7 : St → Option (YW)) (s : Int) (v4a : Bool) (a : Bool) (t : Bool) (r : Bool) (p : Bool) (q : Int) (d6a : List YC) (b : Int) (u : Int) (c : Bool × Bool × Bool × Bool × Bool × Int) (w2 : List Int) : Code × (Ex → St → Option (YW)) := ctx (envIn Qb.E 2) (Vay Qb.keep 9) n [.blk] (Vh Tryz.f45) (kIn ((ctxI Qb.E Qb.I Qb.keep n [.snd, .snd, .snd, .snd, .snd, .fst, .blk, .rd M7, .snd, .blk, .snd] (Vh Tryz.f17) (kEnd Qb.E Tryz.f17 Qb.con x)).2 .normal) [.gone, .dat (.int .i64) s, .gone, .gone, .ptr 0 [], .gone, .ptr 1 [], .gone, .gone, .gone, .gone, .gone, .gone, .gone, .gone, .gone, .gone, .gone, .gone, .gone, .gone, .gone, .gone, .gone, .gone, .gone, .gone, .gone, .ptr 1 [], .gone, .gone, .gone, .gone, .gone] (some 29))
def Qb.LNk0001 (n : Nat) (x : YF × Int) (M7 : St → Option (YW)) (s : Int) (v4a : Bool) (a : Bool) (t : Bool) (r : Bool) (p : Bool) (q : Int) (d6a : List YC) (b : Int) (u : Int) (c : Bool × Bool × Bool × Bool × Bool × Int) (w2 : List Int) : Nat → St → Option (YW) := loopN (exec (envIn Qb.E 2) (Vay Qb.keep 9) n (Vm (Qb.atk0001 n x M7 s v4a a t r p q d6a b u c w2).1)) (St.norm 2 (Vay Qb.keep 9 1)) (Qb.atk0001 n x M7 s v4a a t r p q d6a b u c w2).2
def Qb.atk09 (n : Nat) (x : YF × Int) (M7 : St → Option (YW)) : Code × (Ex → St → Option (YW)) := ctxI Qb.E Qb.I Qb.keep n [.snd, .snd, .snd, .snd, .snd, .fst, .blk, .rd M7, .snd, .blk, .snd] (Vh Tryz.f17) (kEnd Qb.E Tryz.f17 Qb.con x)
def Qb.LNk09 (n : Nat) (x : YF × Int) (M7 : St → Option (YW)) : Nat → St → Option (YW) := cutN (execI Qb.E Qb.I Qb.keep n (Qb.atk09 n x M7).1 (Qb.atk09 n x M7).2)
def Qb.atk08 (n : Nat) (x : YF × Int) (M7 : St → Option (YW)) : Code × (Ex → St → Option (YW)) := ctxI Qb.E Qb.I Qb.keep n [.snd, .snd, .snd, .snd, .snd, .fst, .blk, .rd M7, .snd] (Vh Tryz.f17) (kEnd Qb.E Tryz.f17 Qb.con x)
def Qb.LNk08 (n : Nat) (x : YF × Int) (M7 : St → Option (YW)) : Nat → St → Option (YW) := cutN (execI Qb.E Qb.I Qb.keep n (Qb.atk08 n x M7).1 (Qb.atk08 n x M7).2)
def Qb.at7 (n : Nat) (x : YF × Int) : Code × (Ex → St → Option (YW)) := ctxI Qb.E Qb.I Qb.keep n [.snd, .snd, .snd, .snd, .snd, .fst, .blk] (Vh Tryz.f17) (kEnd Qb.E Tryz.f17 Qb.con x)
def Qb.LN7 (n : Nat) (x : YF × Int) : Nat → St → Option (YW) := loopN (execI Qb.E Qb.I Qb.keep n (Vm (Qb.at7 n x).1)) (St.norm 0 (Qb.keep 7)) (Qb.at7 n x).2
def Qb.atk07 (n : Nat) (x : YF × Int) : Code × (Ex → St → Option (YW)) := ctxI Qb.E Qb.I Qb.keep n [.snd, .snd, .snd, .snd, .snd] (Vh Tryz.f17) (kEnd Qb.E Tryz.f17 Qb.con x)
def Qb.LNk07 (n : Nat) (x : YF × Int) : Nat → St → Option (YW) := cutN (execI Qb.E Qb.I Qb.keep n (Qb.atk07 n x).1 (Qb.atk07 n x).2)
def Qb.at70000001 (n : Nat) (x : YF × Int) (s : Int) (v4a : Bool) (a : Bool) (t : Bool) (r : Bool) (p : Bool) (q : Int) (d6a : List YC) (b : Int) (u : Int) (R : Bool) (Q : Bool) (l : Bool) (d : Bool) (y : Bool) (z : Int) (w2 : List Int) : Code × (Ex → St → Option (YW)) := ctx (envIn Qb.E 2) (Vay Qb.keep 6) n [.blk] (Vh Tryz.f45) (kIn ((ctxI Qb.E Qb.I Qb.keep n [.snd, .snd, .snd, .snd, .fst] (Vh Tryz.f17) (kEnd Qb.E Tryz.f17 Qb.con x)).2 .normal) [.gone, .dat (.int .i64) s, .gone, .gone, .ptr 0 [], .gone, .ptr 1 [], .gone, .gone, .gone, .gone, .gone, .gone, .gone, .gone, .gone, .gone, .gone, .ptr 1 [], .gone, .gone, .gone, .gone, .gone, .gone, .gone, .gone, .gone, .gone, .gone, .gone, .gone, .gone, .gone] (some 19))
def Qb.LN70000001 (n : Nat) (x : YF × Int) (s : Int) (v4a : Bool) (a : Bool) (t : Bool) (r : Bool) (p : Bool) (q : Int) (d6a : List YC) (b : Int) (u : Int) (R : Bool) (Q : Bool) (l : Bool) (d : Bool) (y : Bool) (z : Int) (w2 : List Int) : Nat → St → Option (YW) := loopN (exec (envIn Qb.E 2) (Vay Qb.keep 6) n (Vm (Qb.at70000001 n x s v4a a t r p q d6a b u R Q l d y z w2).1)) (St.norm 2 (Vay Qb.keep 6 1)) (Qb.at70000001 n x s v4a a t r p q d6a b u R Q l d y z w2).2
def Qb.atk06 (n : Nat) (x : YF × Int) : Code × (Ex → St → Option (YW)) := ctxI Qb.E Qb.I Qb.keep n [.snd, .snd, .snd, .snd] (Vh Tryz.f17) (kEnd Qb.E Tryz.f17 Qb.con x)
def Qb.LNk06 (n : Nat) (x : YF × Int) : Nat → St → Option (YW) := cutN (execI Qb.E Qb.I Qb.keep n (Qb.atk06 n x).1 (Qb.atk06 n x).2)
set_option maxRecDepth 100000 in
theorem Qb.lemk0001 (n : Nat) (x : YF × Int) (M7 : St → Option (YW)) : ∀ (k : Nat) (s : Int) (v4a : Bool) (a : Bool) (t : Bool) (r : Bool) (p : Bool) (q : Int) (d6a : List YC) (b : Int) (u : Int) (c : Bool × Bool × Bool × Bool × Bool × Int) (w2 : List Int) (w0a : Bool) (V : Bool) (K : Bool) (g : Bool) (v : Bool) (w : Int) (d0a : List YC) (o : Int) (m : Int) (j : Bool × Bool × Bool × Bool × Bool × Int) (w2' : List Int), Qb.LNk0001 n x M7 s v4a a t r p q d6a b u c w2 k (Qb.stk0001 w0a V K g v w d0a o m j w2') = Qb.lk0001 n (fun s v4a a t r p q d6a b u c w2 => M7 (Qb.st7 s v4a a t r p q d6a b u c w2)) k s v4a a t r p q d6a b u c w2 w0a V K g v w d0a o m j w2' := by
 intro k
 induction k with
 | zero => intro s v4a a t r p q d6a b u c w2 w0a V K g v w d0a o m j w2'; rfl
 | succ k ih =>
  intro s v4a a t r p q d6a b u c w2 w0a V K g v w d0a o m j w2'
  have h : Qb.LNk0001 n x M7 s v4a a t r p q d6a b u c w2 (k + 1) (Qb.stk0001 w0a V K g v w d0a o m j w2') = Qb.gk0001raw (fun s v4a a t r p q d6a b u c w2 => M7 (Qb.st7 s v4a a t r p q d6a b u c w2)) (fun s v4a a t r p q d6a b u c w2 w0a V K g v w d0a o m j w2' => Qb.LNk0001 n x M7 s v4a a t r p q d6a b u c w2 k (Qb.stk0001 w0a V K g v w d0a o m j w2')) s v4a a t r p q d6a b u c w2 w0a V K g v w d0a o m j w2' := by kernel_rfl
  rw [Qb.gk0001raw_eq] at h
  rw [h]
  simp only [ih]
  rfl
set_option maxRecDepth 100000 in
theorem Qb.lemk09 (n : Nat) (x : YF × Int) (M7 : St → Option (YW)) : ∀ (k : Nat) (s : Int) (v4a : Bool) (a : Bool) (t : Bool) (r : Bool) (p : Bool) (q : Int) (d6a : List YC) (b : Int) (u : Int) (c : Bool × Bool × Bool × Bool × Bool × Int) (w2 : List Int), Qb.LNk09 n x M7 k (Qb.stk09 s v4a a t r p q d6a b u c w2) = Qb.lk09 n (fun s v4a a t r p q d6a b u c w2 => M7 (Qb.st7 s v4a a t r p q d6a b u c w2)) k s v4a a t r p q d6a b u c w2 := by
 intro k
 induction k with
 | zero => intro s v4a a t r p q d6a b u c w2; rfl
 | succ k ih =>
  intro s v4a a t r p q d6a b u c w2
  have h : Qb.LNk09 n x M7 (k + 1) (Qb.stk09 s v4a a t r p q d6a b u c w2) = Qb.gk09 (fun s v4a a t r p q d6a b u c w2 w0a V K g v w d0a o m j w2' => Qb.LNk0001 n x M7 s v4a a t r p q d6a b u c w2 n (Qb.stk0001 w0a V K g v w d0a o m j w2')) (fun s v4a a t r p q d6a b u c w2 => M7 (Qb.st7 s v4a a t r p q d6a b u c w2)) (fun s v4a a t r p q d6a b u c w2 => Qb.LNk09 n x M7 k (Qb.stk09 s v4a a t r p q d6a b u c w2)) s v4a a t r p q d6a b u c w2 := by kernel_rfl
  rw [h]
  simp only [ih, Qb.lemk0001]
  rfl
set_option maxRecDepth 100000 in
theorem Qb.lemk08 (n : Nat) (x : YF × Int) (M7 : St → Option (YW)) : ∀ (k : Nat) (s : Int) (v4a : Bool) (a : Bool) (t : Bool) (r : Bool) (p : Bool) (q : Int) (d6a : List YC) (b : Int) (u : Int) (c : Bool × Bool × Bool × Bool × Bool × Int) (w2 : List Int), Qb.LNk08 n x M7 k (Qb.stk08 s v4a a t r p q d6a b u c w2) = Qb.lk08 n (fun s v4a a t r p q d6a b u c w2 => M7 (Qb.st7 s v4a a t r p q d6a b u c w2)) k s v4a a t r p q d6a b u c w2 := by
 intro k
 induction k with
 | zero => intro s v4a a t r p q d6a b u c w2; rfl
 | succ k ih =>
  intro s v4a a t r p q d6a b u c w2
  have h : Qb.LNk08 n x M7 (k + 1) (Qb.stk08 s v4a a t r p q d6a b u c w2) = Qb.gk08 (fun s v4a a t r p q d6a b u c w2 => Qb.LNk09 n x M7 n (Qb.stk09 s v4a a t r p q d6a b u c w2)) (fun s v4a a t r p q d6a b u c w2 => M7 (Qb.st7 s v4a a t r p q d6a b u c w2)) (fun s v4a a t r p q d6a b u c w2 => Qb.LNk08 n x M7 k (Qb.stk08 s v4a a t r p q d6a b u c w2)) s v4a a t r p q d6a b u c w2 := by kernel_rfl
  rw [h]
  simp only [ih, Qb.lemk09]
  rfl
set_option maxRecDepth 100000 in
theorem Qb.lem7 (n : Nat) (x : YF × Int) : ∀ (k : Nat) (s : Int) (v4a : Bool) (a : Bool) (t : Bool) (r : Bool) (p : Bool) (q : Int) (d6a : List YC) (b : Int) (u : Int) (c : Bool × Bool × Bool × Bool × Bool × Int) (w2 : List Int), Qb.LN7 n x k (Qb.st7 s v4a a t r p q d6a b u c w2) = Qb.l7 n k s v4a a t r p q d6a b u c w2 := by
 intro k
 induction k with
 | zero => intro s v4a a t r p q d6a b u c w2; rfl
 | succ k ih =>
  intro s v4a a t r p q d6a b u c w2
  have h : Qb.LN7 n x (k + 1) (Qb.st7 s v4a a t r p q d6a b u c w2) = Qb.g7 (fun s v4a a t r p q d6a b u c w2 => Qb.LNk08 n x (Qb.LN7 n x k) n (Qb.stk08 s v4a a t r p q d6a b u c w2)) (fun s v4a a t r p q d6a b u c w2 => Qb.LN7 n x k (Qb.st7 s v4a a t r p q d6a b u c w2)) s v4a a t r p q d6a b u c w2 := by kernel_rfl
  rw [h]
  simp only [ih, Qb.lemk08]
  rfl
set_option maxRecDepth 100000 in
theorem Qb.lemk07 (n : Nat) (x : YF × Int) : ∀ (k : Nat) (s : Int) (v4a : Bool) (a : Bool) (t : Bool) (r : Bool) (p : Bool) (q : Int) (d6a : List YC) (b : Int) (u : Int) (c : Bool × Bool × Bool × Bool × Bool × Int) (w2 : List Int), Qb.LNk07 n x k (Qb.stk07 s v4a a t r p q d6a b u c w2) = Qb.lk07 n k s v4a a t r p q d6a b u c w2 := by
 intro k
 induction k with
 | zero => intro s v4a a t r p q d6a b u c w2; rfl
 | succ k ih =>
  intro s v4a a t r p q d6a b u c w2
  have h : Qb.LNk07 n x (k + 1) (Qb.stk07 s v4a a t r p q d6a b u c w2) = Qb.gk07 (fun s v4a a t r p q d6a b u c w2 => Qb.LN7 n x n (Qb.st7 s v4a a t r p q d6a b u c w2)) (fun s v4a a t r p q d6a b u c w2 => Qb.LNk07 n x k (Qb.stk07 s v4a a t r p q d6a b u c w2)) s v4a a t r p q d6a b u c w2 := by kernel_rfl
  rw [h]
  simp only [ih, Qb.lem7]
  rfl
set_option maxRecDepth 100000 in
theorem Qb.lem70000001 (n : Nat) (x : YF × Int) : ∀ (k : Nat) (s : Int) (v4a : Bool) (a : Bool) (t : Bool) (r : Bool) (p : Bool) (q : Int) (d6a : List YC) (b : Int) (u : Int) (R : Bool) (Q : Bool) (l : Bool) (d : Bool) (y : Bool) (z : Int) (w2 : List Int) (w0a : Bool) (V : Bool) (K : Bool) (g : Bool) (v : Bool) (w : Int) (d0a : List YC) (o : Int) (m : Int) (j : Bool × Bool × Bool × Bool × Bool × Int) (w2' : List Int), Qb.LN70000001 n x s v4a a t r p q d6a b u R Q l d y z w2 k (Qb.st70000001 w0a V K g v w d0a o m j w2') = Qb.l70000001 n k s v4a a t r p q d6a b u R Q l d y z w2 w0a V K g v w d0a o m j w2' := by
 intro k
 induction k with
 | zero => intro s v4a a t r p q d6a b u R Q l d y z w2 w0a V K g v w d0a o m j w2'; rfl
 | succ k ih =>
  intro s v4a a t r p q d6a b u R Q l d y z w2 w0a V K g v w d0a o m j w2'
  have h : Qb.LN70000001 n x s v4a a t r p q d6a b u R Q l d y z w2 (k + 1) (Qb.st70000001 w0a V K g v w d0a o m j w2') = Qb.g70000001raw (fun s v4a a t r p q d6a b u c w2 => Qb.LNk07 n x n (Qb.stk07 s v4a a t r p q d6a b u c w2)) (fun s v4a a t r p q d6a b u R Q l d y z w2 w0a V K g v w d0a o m j w2' => Qb.LN70000001 n x s v4a a t r p q d6a b u R Q l d y z w2 k (Qb.st70000001 w0a V K g v w d0a o m j w2')) s v4a a t r p q d6a b u R Q l d y z w2 w0a V K g v w d0a o m j w2' := by kernel_rfl
  rw [Qb.g70000001raw_eq] at h
  rw [h]
  simp only [ih, Qb.lemk07]
  rfl
set_option maxRecDepth 100000 in
theorem Qb.lemk06 (n : Nat) (x : YF × Int) : ∀ (k : Nat) (s : Int) (v4a : Bool) (a : Bool) (t : Bool) (r : Bool) (p : Bool) (q : Int) (d6a : List YC) (b : Int) (u : Int) (R : Bool) (Q : Bool) (l : Bool) (d : Bool) (y : Bool) (z : Int) (w2 : List Int), Qb.LNk06 n x k (Qb.stk06 s v4a a t r p q d6a b u R Q l d y z w2) = Qb.lk06 n k s v4a a t r p q d6a b u R Q l d y z w2 := by
 intro k
 induction k with
 | zero => intro s v4a a t r p q d6a b u R Q l d y z w2; rfl
 | succ k ih =>
  intro s v4a a t r p q d6a b u R Q l d y z w2
  have h : Qb.LNk06 n x (k + 1) (Qb.stk06 s v4a a t r p q d6a b u R Q l d y z w2) = Qb.gk06 (fun s v4a a t r p q d6a b u R Q l d y z w2 w0a V K g v w d0a o m j w2' => Qb.LN70000001 n x s v4a a t r p q d6a b u R Q l d y z w2 n (Qb.st70000001 w0a V K g v w d0a o m j w2')) (fun s v4a a t r p q d6a b u R Q l d y z w2 => Qb.LNk06 n x k (Qb.stk06 s v4a a t r p q d6a b u R Q l d y z w2)) s v4a a t r p q d6a b u R Q l d y z w2 := by kernel_rfl
  rw [h]
  simp only [ih, Qb.lem70000001]
  rfl
set_option maxRecDepth 100000 in
theorem Qb.body (n : Nat) (x : YF × Int) : Vck Qb.E Qb.I Qb.keep n Tryz.f17 Qb.con x = Qb.fn n x.1 x.2 := by
 have h : Vck Qb.E Qb.I Qb.keep n Tryz.f17 Qb.con x = Qb.top (fun s v4a a t r p q d6a b u R Q l d y z w2 => Qb.LNk06 n x n (Qb.stk06 s v4a a t r p q d6a b u R Q l d y z w2)) x.1 x.2 := by kernel_rfl
 rw [h]
 simp only [Qb.lemk06]
 rfl
set_option maxRecDepth 100000 in
theorem Qb.good : Good Tryz.prog 17 Qb.con :=
 Ve3 tabok (cs := Qb.cs) ⟨Qw.good, QaK.good, Qaj.good, trivial⟩ 0 false (fn := Tryz.f17) Tryz.func17 rfl (by decide) (by simp [Qb.con]) Qb.keep NN (fun _ => rfl) Qb.hI (fun x => Qb.body NN x)
end
end Go.Ev.Tryz

namespace Go.Ev.Tryz
open Go.Proofs Go.Pl
set_option linter.unusedVariables false
noncomputable section
def QaM.con : Con := { ps := [(.val,(.pair .bool (.pair .bool (.pair .bool (.pair .bool (.pair .bool (.int .i64)))))))],rs := [(.val,.bool)],F := fun x => QaM.f x }
def QaM.cs : List (FuncId × Con) := [(72,Q2.con)]
def QaM.E : Env := envOf tab QaM.cs 0 false
def QaM.keep (i : Nat) : List Nat := []
set_option maxRecDepth 100000 in
theorem QaM.body (n : Nat) (x : Bool × Bool × Bool × Bool × Bool × Int) : bodyF QaM.E QaM.keep n Tryz.f47 QaM.con x = QaM.fn n x := by
 have h : bodyF QaM.E QaM.keep n Tryz.f47 QaM.con x = QaM.top x := by kernel_rfl
 exact h
set_option maxRecDepth 100000 in
theorem QaM.good : Good Tryz.prog 47 QaM.con :=
 Vg tabok (cs := QaM.cs) ⟨Q2.good,trivial⟩ 0 false (fn := Tryz.f47) Tryz.func47 rfl (by decide) (by simp [QaM.con]) QaM.keep NN (fun _ => rfl) (fun x => QaM.body NN x)
end
end Go.Ev.Tryz

namespace Go.Ev.Tryz
open Go.Proofs Go.Pl
set_option linter.unusedVariables false
noncomputable section
def QaN.con : Con := { ps := [(.val,(.pair .bool (.pair .bool (.pair .bool (.pair .bool (.pair .bool (.int .i64)))))))],rs := [(.val,.bool),(.val,(.int .i64))],F := fun x => QaN.f x }
def QaN.cs : List (FuncId × Con) := [(47,QaM.con),(48,QaL.con)]
def QaN.E : Env := envOf tab QaN.cs 0 false
def QaN.keep (i : Nat) : List Nat := []
set_option maxRecDepth 100000 in
theorem QaN.body (n : Nat) (x : Bool × Bool × Bool × Bool × Bool × Int) : bodyF QaN.E QaN.keep n Tryz.f18 QaN.con x = QaN.fn n x := by
 have h : bodyF QaN.E QaN.keep n Tryz.f18 QaN.con x = QaN.top x := by kernel_rfl
 exact h
set_option maxRecDepth 100000 in
theorem QaN.good : Good Tryz.prog 18 QaN.con :=
 Vg tabok (cs := QaN.cs) ⟨QaM.good,QaL.good,trivial⟩ 0 false (fn := Tryz.f18) Tryz.func18 rfl (by decide) (by simp [QaN.con]) QaN.keep NN (fun _ => rfl) (fun x => QaN.body NN x)
end
end Go.Ev.Tryz

namespace Go.Ev.Tryz
open Go.Proofs Go.Pl
set_option linter.unusedVariables false
noncomputable section
def Qal.con : Con := { ps := [(.val,(.sl 69 (.pair (.int .i64) (.pair .str (.int .i64))))),(.val,(.sl 9 .str)),(.val,(.int .i64))],rs := [(.val,.bool),(.val,(.int .i64))],F := fun x => Qal.f x.1 x.2.1 x.2.2 }
def Qal.cs : List (FuncId × Con) := [(49,QG.con),(50,QJ.con),(51,QaI.con),(52,Qt.con)]
def Qal.E : Env := envOf tab Qal.cs 0 false
def Qal.keep (i : Nat) : List Nat := []
set_option maxRecDepth 100000 in
theorem Qal.body (n : Nat) (x : YL × List ByteArray × Int) : bodyF Qal.E Qal.keep n Tryz.f19 Qal.con x = Qal.fn n x.1 x.2.1 x.2.2 := by
 have h : bodyF Qal.E Qal.keep n Tryz.f19 Qal.con x = Qal.top x.1 x.2.1 x.2.2 := by kernel_rfl
 exact h
set_option maxRecDepth 100000 in
theorem Qal.good : Good Tryz.prog 19 Qal.con :=
 Vg tabok (cs := Qal.cs) ⟨QG.good,QJ.good,QaI.good,Qt.good,trivial⟩ 0 false (fn := Tryz.f19) Tryz.func19 rfl (by decide) (by simp [Qal.con]) Qal.keep NN (fun _ => rfl) (fun x => Qal.body NN x)
end
end Go.Ev.Tryz

namespace Go.Ev.Tryz
open Go.Proofs Go.Pl
set_option linter.unusedVariables false
noncomputable section
def QaG.con : Con := { ps := [(.val,(.sl 119 (.pair (.int .i64) (.int .i64)))),(.val,(.int .i64)),(.val,(.int .i64))],rs := [(.val,(.int .i64)),(.val,(.int .i64))],F := fun x => QaG.f x.1 x.2.1 x.2.2 }
def QaG.cs : List (FuncId × Con) := [(53,QX.con),(54,QaJ.con),(55,QK.con)]
def QaG.E : Env := envOf tab QaG.cs 0 false
def QaG.keep (i : Nat) : List Nat := []
set_option maxRecDepth 100000 in
theorem QaG.body (n : Nat) (x : YF × Int × Int) : bodyF QaG.E QaG.keep n Tryz.f20 QaG.con x = QaG.fn n x.1 x.2.1 x.2.2 := by
 have h : bodyF QaG.E QaG.keep n Tryz.f20 QaG.con x = QaG.top x.1 x.2.1 x.2.2 := by kernel_rfl
 exact h
set_option maxRecDepth 100000 in
theorem QaG.good : Good Tryz.prog 20 QaG.con :=
 Vg tabok (cs := QaG.cs) ⟨QX.good,QaJ.good,QK.good,trivial⟩ 0 false (fn := Tryz.f20) Tryz.func20 rfl (by decide) (by simp [QaG.con]) QaG.keep NN (fun _ => rfl) (fun x => QaG.body NN x)
end
end Go.Ev.Tryz
