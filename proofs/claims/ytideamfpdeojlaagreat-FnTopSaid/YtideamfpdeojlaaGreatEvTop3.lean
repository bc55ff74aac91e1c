/- Part 3 of what the law FnTop stands on: an evaluator of the model's code, proved sound; the functions as plain texts; their contracts. -/
import Derived.Test.YtideamfpdeojlaaGreatEvTop2
namespace Go.Ev.Tryz
open Go.Proofs Go.Pl
set_option linter.unusedSimpArgs false
set_option linter.unusedVariables false
noncomputable section
def Qa.stk06 (w2 : List YC) (w3 : List YA) (w4 : List YB) (w5 : List YC) (w6 : List YA) (w7 : List YB) : St := ⟨[.gone,.gone,.gone,.gone,.ptr 0 [],.gone,.ptr 1 [],.gone,.gone,.gone,.gone,.gone,.gone,.gone,.gone,.gone,.gone,.gone,.gone,.gone,.gone,.gone,.gone,.gone,.gone,.gone,.gone,.gone,.gone,.gone],[.box 36 (.pair (.sl 119 (.pair (.int .i64) (.int .i64))) (.pair (.sl 78 (.pair .str (.pair (.int .i64) (.pair (.int .i64) (.pair (.int .i64) (.pair (.int .i64) (.pair (.int .i64) (.pair (.int .i64) (.pair (.int .i64) (.int .i64)))))))))) (.sl 59 (.pair (.int .i64) (.pair (.int .i64) (.pair .str (.int .i64))))))) (.pr (.ref 2) (.pr (.ref 3) (.ref 4))),.box 36 (.pair (.sl 119 (.pair (.int .i64) (.int .i64))) (.pair (.sl 78 (.pair .str (.pair (.int .i64) (.pair (.int .i64) (.pair (.int .i64) (.pair (.int .i64) (.pair (.int .i64) (.pair (.int .i64) (.pair (.int .i64) (.int .i64)))))))))) (.sl 59 (.pair (.int .i64) (.pair (.int .i64) (.pair .str (.int .i64))))))) (.pr (.ref 5) (.pr (.ref 6) (.ref 7))),.row 119 (.pair (.int .i64) (.int .i64)) w2 none,.row 78 (.pair .str (.pair (.int .i64) (.pair (.int .i64) (.pair (.int .i64) (.pair (.int .i64) (.pair (.int .i64) (.pair (.int .i64) (.pair (.int .i64) (.int .i64))))))))) w3 none,.row 59 (.pair (.int .i64) (.pair (.int .i64) (.pair .str (.int .i64)))) w4 none,.row 119 (.pair (.int .i64) (.int .i64)) w5 none,.row 78 (.pair .str (.pair (.int .i64) (.pair (.int .i64) (.pair (.int .i64) (.pair (.int .i64) (.pair (.int .i64) (.pair (.int .i64) (.pair (.int .i64) (.int .i64))))))))) w6 none,.row 59 (.pair (.int .i64) (.pair (.int .i64) (.pair .str (.int .i64)))) w7 none]⟩
def Qa.stk05 (x2 : YF × YG × List YB) (c3 : Int × Int × ByteArray × Int) (w3 : List YC) (w4 : List YA) (w5 : List YB) : St := ⟨[.gone,.gone,.ptr 0 [],.ptr 1 [],.ptr 2 [],.gone,.gone,.gone,.gone,.gone,.gone,.gone,.gone,.gone,.gone,.gone,.gone,.gone,.gone,.gone,.gone,.gone,.gone,.gone,.gone,.gone,.gone,.gone,.gone,.gone],[.box 36 (.pair (.sl 119 (.pair (.int .i64) (.int .i64))) (.pair (.sl 78 (.pair .str (.pair (.int .i64) (.pair (.int .i64) (.pair (.int .i64) (.pair (.int .i64) (.pair (.int .i64) (.pair (.int .i64) (.pair (.int .i64) (.int .i64)))))))))) (.sl 59 (.pair (.int .i64) (.pair (.int .i64) (.pair .str (.int .i64))))))) (.dat (.pair (.sl 119 (.pair (.int .i64) (.int .i64))) (.pair (.sl 78 (.pair .str (.pair (.int .i64) (.pair (.int .i64) (.pair (.int .i64) (.pair (.int .i64) (.pair (.int .i64) (.pair (.int .i64) (.pair (.int .i64) (.int .i64)))))))))) (.sl 59 (.pair (.int .i64) (.pair (.int .i64) (.pair .str (.int .i64))))))) x2),.box 59 (.pair (.int .i64) (.pair (.int .i64) (.pair .str (.int .i64)))) (.dat (.pair (.int .i64) (.pair (.int .i64) (.pair .str (.int .i64)))) c3),.box 36 (.pair (.sl 119 (.pair (.int .i64) (.int .i64))) (.pair (.sl 78 (.pair .str (.pair (.int .i64) (.pair (.int .i64) (.pair (.int .i64) (.pair (.int .i64) (.pair (.int .i64) (.pair (.int .i64) (.pair (.int .i64) (.int .i64)))))))))) (.sl 59 (.pair (.int .i64) (.pair (.int .i64) (.pair .str (.int .i64))))))) (.pr (.ref 3) (.pr (.ref 4) (.ref 5))),.row 119 (.pair (.int .i64) (.int .i64)) w3 none,.row 78 (.pair .str (.pair (.int .i64) (.pair (.int .i64) (.pair (.int .i64) (.pair (.int .i64) (.pair (.int .i64) (.pair (.int .i64) (.pair (.int .i64) (.int .i64))))))))) w4 none,.row 59 (.pair (.int .i64) (.pair (.int .i64) (.pair .str (.int .i64)))) w5 none]⟩
def Qa.stk03 (x2 : YF × YG × List YB) (c3 : Int × Int × ByteArray × Int) (w3 : List YC) (w4 : List YA) (w5 : List YB) : St := ⟨[.gone,.gone,.ptr 0 [],.ptr 1 [],.ptr 2 [],.gone,.gone,.gone,.gone,.gone,.gone,.gone,.gone,.gone,.gone,.gone,.gone,.gone,.gone,.gone,.gone,.gone,.gone,.gone,.gone,.gone,.gone,.gone,.gone,.gone],[.box 36 (.pair (.sl 119 (.pair (.int .i64) (.int .i64))) (.pair (.sl 78 (.pair .str (.pair (.int .i64) (.pair (.int .i64) (.pair (.int .i64) (.pair (.int .i64) (.pair (.int .i64) (.pair (.int .i64) (.pair (.int .i64) (.int .i64)))))))))) (.sl 59 (.pair (.int .i64) (.pair (.int .i64) (.pair .str (.int .i64))))))) (.dat (.pair (.sl 119 (.pair (.int .i64) (.int .i64))) (.pair (.sl 78 (.pair .str (.pair (.int .i64) (.pair (.int .i64) (.pair (.int .i64) (.pair (.int .i64) (.pair (.int .i64) (.pair (.int .i64) (.pair (.int .i64) (.int .i64)))))))))) (.sl 59 (.pair (.int .i64) (.pair (.int .i64) (.pair .str (.int .i64))))))) x2),.box 59 (.pair (.int .i64) (.pair (.int .i64) (.pair .str (.int .i64)))) (.dat (.pair (.int .i64) (.pair (.int .i64) (.pair .str (.int .i64)))) c3),.box 36 (.pair (.sl 119 (.pair (.int .i64) (.int .i64))) (.pair (.sl 78 (.pair .str (.pair (.int .i64) (.pair (.int .i64) (.pair (.int .i64) (.pair (.int .i64) (.pair (.int .i64) (.pair (.int .i64) (.pair (.int .i64) (.int .i64)))))))))) (.sl 59 (.pair (.int .i64) (.pair (.int .i64) (.pair .str (.int .i64))))))) (.pr (.ref 3) (.pr (.ref 4) (.ref 5))),.row 119 (.pair (.int .i64) (.int .i64)) w3 none,.row 78 (.pair .str (.pair (.int .i64) (.pair (.int .i64) (.pair (.int .i64) (.pair (.int .i64) (.pair (.int .i64) (.pair (.int .i64) (.pair (.int .i64) (.int .i64))))))))) w4 none,.row 59 (.pair (.int .i64) (.pair (.int .i64) (.pair .str (.int .i64)))) w5 none]⟩
def Qa.stk01 (x2 : YF × YG × List YB) (c3 : Int × Int × ByteArray × Int) (w3 : List YC) (w4 : List YA) (w5 : List YB) : St := ⟨[.gone,.gone,.ptr 0 [],.ptr 1 [],.ptr 2 [],.gone,.gone,.gone,.gone,.gone,.gone,.gone,.gone,.gone,.gone,.gone,.gone,.gone,.gone,.gone,.gone,.gone,.gone,.gone,.gone,.gone,.gone,.gone,.gone,.gone],[.box 36 (.pair (.sl 119 (.pair (.int .i64) (.int .i64))) (.pair (.sl 78 (.pair .str (.pair (.int .i64) (.pair (.int .i64) (.pair (.int .i64) (.pair (.int .i64) (.pair (.int .i64) (.pair (.int .i64) (.pair (.int .i64) (.int .i64)))))))))) (.sl 59 (.pair (.int .i64) (.pair (.int .i64) (.pair .str (.int .i64))))))) (.dat (.pair (.sl 119 (.pair (.int .i64) (.int .i64))) (.pair (.sl 78 (.pair .str (.pair (.int .i64) (.pair (.int .i64) (.pair (.int .i64) (.pair (.int .i64) (.pair (.int .i64) (.pair (.int .i64) (.pair (.int .i64) (.int .i64)))))))))) (.sl 59 (.pair (.int .i64) (.pair (.int .i64) (.pair .str (.int .i64))))))) x2),.box 59 (.pair (.int .i64) (.pair (.int .i64) (.pair .str (.int .i64)))) (.dat (.pair (.int .i64) (.pair (.int .i64) (.pair .str (.int .i64)))) c3),.box 36 (.pair (.sl 119 (.pair (.int .i64) (.int .i64))) (.pair (.sl 78 (.pair .str (.pair (.int .i64) (.pair (.int .i64) (.pair (.int .i64) (.pair (.int .i64) (.pair (.int .i64) (.pair (.int .i64) (.pair (.int .i64) (.int .i64)))))))))) (.sl 59 (.pair (.int .i64) (.pair (.int .i64) (.pair .str (.int .i64))))))) (.pr (.ref 3) (.pr (.ref 4) (.ref 5))),.row 119 (.pair (.int .i64) (.int .i64)) w3 none,.row 78 (.pair .str (.pair (.int .i64) (.pair (.int .i64) (.pair (.int .i64) (.pair (.int .i64) (.pair (.int .i64) (.pair (.int .i64) (.pair (.int .i64) (.int .i64))))))))) w4 none,.row 59 (.pair (.int .i64) (.pair (.int .i64) (.pair .str (.int .i64)))) w5 none]⟩
def Qa.con : Con := { ps := [(.val,(.pair (.sl 119 (.pair (.int .i64) (.int .i64))) (.pair (.sl 78 (.pair .str (.pair (.int .i64) (.pair (.int .i64) (.pair (.int .i64) (.pair (.int .i64) (.pair (.int .i64) (.pair (.int .i64) (.pair (.int .i64) (.int .i64)))))))))) (.sl 59 (.pair (.int .i64) (.pair (.int .i64) (.pair .str (.int .i64)))))))),(.val,(.pair (.int .i64) (.pair (.int .i64) (.pair .str (.int .i64)))))],rs := [(.own,(.pair (.sl 119 (.pair (.int .i64) (.int .i64))) (.pair (.sl 78 (.pair .str (.pair (.int .i64) (.pair (.int .i64) (.pair (.int .i64) (.pair (.int .i64) (.pair (.int .i64) (.pair (.int .i64) (.pair (.int .i64) (.int .i64)))))))))) (.sl 59 (.pair (.int .i64) (.pair (.int .i64) (.pair .str (.int .i64)))))))),(.own,(.int .i64))],F := fun x => Qa.f x.1 x.2 }
def Qa.cs : List (FuncId × Con) := [(34,Q4.con),(111,Qh.con)]
def Qa.E : Env := envOf tab Qa.cs 0 false
def Qa.keep (i : Nat) : List Nat := if i = 1000006 then [4,6] else if i = 1000005 then [2,3,4] else if i = 1000003 then [2,3,4] else if i = 1000001 then [2,3,4] else []
def Qa.atk06 (n : Nat) (x : YH × Int × Int × ByteArray × Int) : Code × (Ex → St → Option (YJ)) := ctx Qa.E Qa.keep n [.snd,.snd,.snd,.snd] (Vh Tryz.f99) (kEnd Qa.E Tryz.f99 Qa.con x)
def Qa.LNk06 (n : Nat) (x : YH × Int × Int × ByteArray × Int) : Nat → St → Option (YJ) := cutN (exec Qa.E Qa.keep n (Qa.atk06 n x).1 (Qa.atk06 n x).2)
def Qa.atk05 (n : Nat) (x : YH × Int × Int × ByteArray × Int) : Code × (Ex → St → Option (YJ)) := ctx Qa.E Qa.keep n [.snd,.snd,.snd] (Vh Tryz.f99) (kEnd Qa.E Tryz.f99 Qa.con x)
def Qa.LNk05 (n : Nat) (x : YH × Int × Int × ByteArray × Int) : Nat → St → Option (YJ) := cutN (exec Qa.E Qa.keep n (Qa.atk05 n x).1 (Qa.atk05 n x).2)
def Qa.atk03 (n : Nat) (x : YH × Int × Int × ByteArray × Int) : Code × (Ex → St → Option (YJ)) := ctx Qa.E Qa.keep n [.snd,.snd] (Vh Tryz.f99) (kEnd Qa.E Tryz.f99 Qa.con x)
def Qa.LNk03 (n : Nat) (x : YH × Int × Int × ByteArray × Int) : Nat → St → Option (YJ) := cutN (exec Qa.E Qa.keep n (Qa.atk03 n x).1 (Qa.atk03 n x).2)
def Qa.atk01 (n : Nat) (x : YH × Int × Int × ByteArray × Int) : Code × (Ex → St → Option (YJ)) := ctx Qa.E Qa.keep n [.snd] (Vh Tryz.f99) (kEnd Qa.E Tryz.f99 Qa.con x)
def Qa.LNk01 (n : Nat) (x : YH × Int × Int × ByteArray × Int) : Nat → St → Option (YJ) := cutN (exec Qa.E Qa.keep n (Qa.atk01 n x).1 (Qa.atk01 n x).2)
set_option maxRecDepth 100000 in
theorem Qa.lemk06 (n : Nat) (x : YH × Int × Int × ByteArray × Int) : ∀ (k : Nat) (w2 : List YC) (w3 : List YA) (w4 : List YB) (w5 : List YC) (w6 : List YA) (w7 : List YB),Qa.LNk06 n x k (Qa.stk06 w2 w3 w4 w5 w6 w7) = Qa.lk06 n k w2 w3 w4 w5 w6 w7 := by
 intro k
 induction k with
 | zero => intro w2 w3 w4 w5 w6 w7; rfl
 | succ k ih =>
  intro w2 w3 w4 w5 w6 w7
  have h : Qa.LNk06 n x (k + 1) (Qa.stk06 w2 w3 w4 w5 w6 w7) = Qa.gk06 (fun w2 w3 w4 w5 w6 w7 => Qa.LNk06 n x k (Qa.stk06 w2 w3 w4 w5 w6 w7)) w2 w3 w4 w5 w6 w7 := by kernel_rfl
  rw [h]
  simp only [ih]
  rfl
def Qa.Rk05 : Array Oper := match (ctx (ρ := Nat) Qa.E Qa.keep 0 [.snd,.snd,.snd,.fst] (Vh Tryz.f99) (fun _ _ => none)).1 with
 | .region _ ops _ => ops
 | _ => #[]
def Qa.tr0 (Ik06 : YN) (x2 : YF × YG × List YB) (c3 : Int × Int × ByteArray × Int) (w3 : List YC) (w4 : List YA) (w5 : List YB) : Option YJ :=
 if (([] : List YB) ++ x2.2.2).length + ([c3]).length < room 40 then
  agree (
   (Qh.f x2 ((([] : List YB) ++ x2.2.2) ++ ([c3]))).bind fun r4 =>
   Ik06 w3 w4 w5 r4.1 r4.2.1 r4.2.2
  ) (
   (Qh.f x2 ((([] : List YB) ++ x2.2.2) ++ ([c3]))).bind fun r4 =>
   Ik06 w3 w4 w5 r4.1 r4.2.1 r4.2.2
  )
 else
  none
def Qa.tr1 (Ik06 : YN) (x2 : YF × YG × List YB) (c3 : Int × Int × ByteArray × Int) (w3 : List YC) (w4 : List YA) (w5 : List YB) : Option YJ :=
 if (([] : List YB) ++ x2.2.2).length + ([c3]).length < room 40 then
  (Qh.f x2 ((([] : List YB) ++ x2.2.2) ++ ([c3]))).bind fun r4 =>
  Ik06 w3 w4 w5 r4.1 r4.2.1 r4.2.2
 else
  none
def Qa.tr2 (Ik06 : YN) (x2 : YF × YG × List YB) (c3 : Int × Int × ByteArray × Int) (w3 : List YC) (w4 : List YA) (w5 : List YB) : Option YJ :=
 agree (
  Qa.tr0 Ik06 x2 c3 w3 w4 w5
 ) (
  Qa.tr1 Ik06 x2 c3 w3 w4 w5
 )
def Qa.tr3 (Ik06 : YN) (x2 : YF × YG × List YB) (c3 : Int × Int × ByteArray × Int) (w3 : List YC) (w4 : List YA) (w5 : List YB) : Option YJ :=
 agree (
  Qa.tr2 Ik06 x2 c3 w3 w4 w5
 ) (
  Qa.tr1 Ik06 x2 c3 w3 w4 w5
 )
def Qa.tr4 (Ik06 : YN) (x2 : YF × YG × List YB) (c3 : Int × Int × ByteArray × Int) (w3 : List YC) (w4 : List YA) (w5 : List YB) : Option YJ :=
 agree (
  Qa.tr3 Ik06 x2 c3 w3 w4 w5
 ) (
  Qa.tr1 Ik06 x2 c3 w3 w4 w5
 )
def Qa.tr5 (Ik06 : YN) (x2 : YF × YG × List YB) (c3 : Int × Int × ByteArray × Int) (w3 : List YC) (w4 : List YA) (w5 : List YB) : Option YJ :=
 if ([] : List YB).length + x2.2.2.length < room 40 then
  Qa.tr1 Ik06 x2 c3 w3 w4 w5
 else
  none
def Qa.tr6 (Ik06 : YN) (x2 : YF × YG × List YB) (c3 : Int × Int × ByteArray × Int) (w3 : List YC) (w4 : List YA) (w5 : List YB) : Option YJ :=
 agree (
  if ([] : List YB).length + x2.2.2.length < room 40 then
   Qa.tr2 Ik06 x2 c3 w3 w4 w5
  else
   none
 ) (
  Qa.tr5 Ik06 x2 c3 w3 w4 w5
 )
def Qa.tr7 (Ik06 : YN) (x2 : YF × YG × List YB) (c3 : Int × Int × ByteArray × Int) (w3 : List YC) (w4 : List YA) (w5 : List YB) : Option YJ :=
 agree (
  Qa.tr5 Ik06 x2 c3 w3 w4 w5
 ) (
  Qa.tr5 Ik06 x2 c3 w3 w4 w5
 )
def Qa.tr8 (Ik06 : YN) (x2 : YF × YG × List YB) (c3 : Int × Int × ByteArray × Int) (w3 : List YC) (w4 : List YA) (w5 : List YB) : Option YJ :=
 agree (
  if ([] : List YB).length + x2.2.2.length < room 40 then
   Qa.tr3 Ik06 x2 c3 w3 w4 w5
  else
   none
 ) (
  agree (
   Qa.tr6 Ik06 x2 c3 w3 w4 w5
  ) (
   Qa.tr7 Ik06 x2 c3 w3 w4 w5
  )
 )
def Qa.tr9 (Ik06 : YN) (x2 : YF × YG × List YB) (c3 : Int × Int × ByteArray × Int) (w3 : List YC) (w4 : List YA) (w5 : List YB) : Option YJ :=
 agree (
  Qa.tr5 Ik06 x2 c3 w3 w4 w5
 ) (
  Qa.tr7 Ik06 x2 c3 w3 w4 w5
 )
def Qa.tr10 (Ik06 : YN) (x2 : YF × YG × List YB) (c3 : Int × Int × ByteArray × Int) (w3 : List YC) (w4 : List YA) (w5 : List YB) : Option YJ :=
 agree (
  if ([] : List YB).length + x2.2.2.length < room 40 then
   Qa.tr4 Ik06 x2 c3 w3 w4 w5
  else
   none
 ) (
  agree (
   Qa.tr8 Ik06 x2 c3 w3 w4 w5
  ) (
   Qa.tr9 Ik06 x2 c3 w3 w4 w5
  )
 )
def Qa.tr11 (Ik06 : YN) (x2 : YF × YG × List YB) (c3 : Int × Int × ByteArray × Int) (w3 : List YC) (w4 : List YA) (w5 : List YB) : Option YJ :=
 agree (
  Qa.tr1 Ik06 x2 c3 w3 w4 w5
 ) (
  Qa.tr1 Ik06 x2 c3 w3 w4 w5
 )
def Qa.tr12 (Ik06 : YN) (x2 : YF × YG × List YB) (c3 : Int × Int × ByteArray × Int) (w3 : List YC) (w4 : List YA) (w5 : List YB) : Option YJ :=
 agree (
  Qa.tr2 Ik06 x2 c3 w3 w4 w5
 ) (
  agree (
   Qa.tr0 Ik06 x2 c3 w3 w4 w5
  ) (
   Qa.tr11 Ik06 x2 c3 w3 w4 w5
  )
 )
def Qa.tr13 (Ik06 : YN) (x2 : YF × YG × List YB) (c3 : Int × Int × ByteArray × Int) (w3 : List YC) (w4 : List YA) (w5 : List YB) : Option YJ :=
 agree (
  Qa.tr1 Ik06 x2 c3 w3 w4 w5
 ) (
  Qa.tr11 Ik06 x2 c3 w3 w4 w5
 )
def Qa.tr14 (Ik06 : YN) (x2 : YF × YG × List YB) (c3 : Int × Int × ByteArray × Int) (w3 : List YC) (w4 : List YA) (w5 : List YB) : Option YJ :=
 agree (
  Qa.tr3 Ik06 x2 c3 w3 w4 w5
 ) (
  agree (
   Qa.tr12 Ik06 x2 c3 w3 w4 w5
  ) (
   Qa.tr13 Ik06 x2 c3 w3 w4 w5
  )
 )
def Qa.tr15 (Ik06 : YN) (x2 : YF × YG × List YB) (c3 : Int × Int × ByteArray × Int) (w3 : List YC) (w4 : List YA) (w5 : List YB) : Option YJ :=
 agree (
  Qa.tr1 Ik06 x2 c3 w3 w4 w5
 ) (
  Qa.tr13 Ik06 x2 c3 w3 w4 w5
 )
def Qa.tr16 (Ik06 : YN) (x2 : YF × YG × List YB) (c3 : Int × Int × ByteArray × Int) (w3 : List YC) (w4 : List YA) (w5 : List YB) : Option YJ :=
 agree (
  Qa.tr5 Ik06 x2 c3 w3 w4 w5
 ) (
  if ([] : List YB).length + x2.2.2.length < room 40 then
   Qa.tr11 Ik06 x2 c3 w3 w4 w5
  else
   none
 )
def Qa.tr17 (Ik06 : YN) (x2 : YF × YG × List YB) (c3 : Int × Int × ByteArray × Int) (w3 : List YC) (w4 : List YA) (w5 : List YB) : Option YJ :=
 agree (
  Qa.tr6 Ik06 x2 c3 w3 w4 w5
 ) (
  agree (
   if ([] : List YB).length + x2.2.2.length < room 40 then
    Qa.tr12 Ik06 x2 c3 w3 w4 w5
   else
    none
  ) (
   Qa.tr16 Ik06 x2 c3 w3 w4 w5
  )
 )
def Qa.tr18 (Ik06 : YN) (x2 : YF × YG × List YB) (c3 : Int × Int × ByteArray × Int) (w3 : List YC) (w4 : List YA) (w5 : List YB) : Option YJ :=
 agree (
  Qa.tr7 Ik06 x2 c3 w3 w4 w5
 ) (
  agree (
   if ([] : List YB).length + x2.2.2.length < room 40 then
    Qa.tr13 Ik06 x2 c3 w3 w4 w5
   else
    none
  ) (
   Qa.tr16 Ik06 x2 c3 w3 w4 w5
  )
 )
def Qa.tr19 (Ik06 : YN) (x2 : YF × YG × List YB) (c3 : Int × Int × ByteArray × Int) (w3 : List YC) (w4 : List YA) (w5 : List YB) : Option YJ :=
 agree (
  Qa.tr8 Ik06 x2 c3 w3 w4 w5
 ) (
  agree (
   if ([] : List YB).length + x2.2.2.length < room 40 then
    Qa.tr14 Ik06 x2 c3 w3 w4 w5
   else
    none
  ) (
   agree (
    Qa.tr17 Ik06 x2 c3 w3 w4 w5
   ) (
    Qa.tr18 Ik06 x2 c3 w3 w4 w5
   )
  )
 )
def Qa.tr20 (Ik06 : YN) (x2 : YF × YG × List YB) (c3 : Int × Int × ByteArray × Int) (w3 : List YC) (w4 : List YA) (w5 : List YB) : Option YJ :=
 agree (
  Qa.tr9 Ik06 x2 c3 w3 w4 w5
 ) (
  agree (
   if ([] : List YB).length + x2.2.2.length < room 40 then
    Qa.tr15 Ik06 x2 c3 w3 w4 w5
   else
    none
  ) (
   Qa.tr18 Ik06 x2 c3 w3 w4 w5
  )
 )
section
variable (n : Nat) (x : YH × Int × Int × ByteArray × Int) (k : Nat) (x2 : YF × YG × List YB) (c3 : Int × Int × ByteArray × Int) (w3 : List YC) (w4 : List YA) (w5 : List YB)
noncomputable def Qa.pKk05 : St → Option (YJ) := ((ctx Qa.E Qa.keep n [.snd,.snd,.snd,.fst] (Vh Tryz.f99) (kEnd Qa.E Tryz.f99 Qa.con x)).2 .normal)
noncomputable def Qa.glk05 : Option (YJ) := Qa.gk05 (fun w2 w3 w4 w5 w6 w7 => Qa.LNk06 n x n (Qa.stk06 w2 w3 w4 w5 w6 w7)) (fun x2 c3 w3 w4 w5 => Qa.LNk05 n x k (Qa.stk05 x2 c3 w3 w4 w5)) x2 c3 w3 w4 w5
noncomputable def Qa.psk05_0 (x2 : YF × YG × List YB) (c3 : Int × Int × ByteArray × Int) (w3 : List YC) (w4 : List YA) (w5 : List YB) : St := ⟨[.gone,.gone,.ptr 0 [],.ptr 1 [],.ptr 2 [],.gone,.gone,.gone,.gone,.gone,.gone,.gone,.gone,.gone,.gone,.gone,.gone,.gone,.gone,.gone,.gone,.gone,.gone,.gone,.gone,.gone,.gone,.gone,.gone,.gone],[.box 36 (.pair (.sl 119 (.pair (.int .i64) (.int .i64))) (.pair (.sl 78 (.pair .str (.pair (.int .i64) (.pair (.int .i64) (.pair (.int .i64) (.pair (.int .i64) (.pair (.int .i64) (.pair (.int .i64) (.pair (.int .i64) (.int .i64)))))))))) (.sl 59 (.pair (.int .i64) (.pair (.int .i64) (.pair .str (.int .i64))))))) (.dat (.pair (.sl 119 (.pair (.int .i64) (.int .i64))) (.pair (.sl 78 (.pair .str (.pair (.int .i64) (.pair (.int .i64) (.pair (.int .i64) (.pair (.int .i64) (.pair (.int .i64) (.pair (.int .i64) (.pair (.int .i64) (.int .i64)))))))))) (.sl 59 (.pair (.int .i64) (.pair (.int .i64) (.pair .str (.int .i64))))))) x2),.box 59 (.pair (.int .i64) (.pair (.int .i64) (.pair .str (.int .i64)))) (.dat (.pair (.int .i64) (.pair (.int .i64) (.pair .str (.int .i64)))) c3),.box 36 (.pair (.sl 119 (.pair (.int .i64) (.int .i64))) (.pair (.sl 78 (.pair .str (.pair (.int .i64) (.pair (.int .i64) (.pair (.int .i64) (.pair (.int .i64) (.pair (.int .i64) (.pair (.int .i64) (.pair (.int .i64) (.int .i64)))))))))) (.sl 59 (.pair (.int .i64) (.pair (.int .i64) (.pair .str (.int .i64))))))) (.pr (.ref 3) (.pr (.ref 4) (.ref 5))),.row 119 (.pair (.int .i64) (.int .i64)) w3 none,.row 78 (.pair .str (.pair (.int .i64) (.pair (.int .i64) (.pair (.int .i64) (.pair (.int .i64) (.pair (.int .i64) (.pair (.int .i64) (.pair (.int .i64) (.int .i64))))))))) w4 none,.row 59 (.pair (.int .i64) (.pair (.int .i64) (.pair .str (.int .i64)))) w5 none]⟩
noncomputable def Qa.psk05_1 (x2 : YF × YG × List YB) (c3 : Int × Int × ByteArray × Int) (w3 : List YC) (w4 : List YA) (w5 : List YB) : St := nxt Qa.E Qa.Rk05 (Qa.psk05_0 x2 c3 w3 w4 w5) 2
noncomputable def Qa.psk05_2 (x2 : YF × YG × List YB) (c3 : Int × Int × ByteArray × Int) (w3 : List YC) (w4 : List YA) (w5 : List YB) : St := nxt Qa.E Qa.Rk05 (Qa.psk05_1 x2 c3 w3 w4 w5) 0
noncomputable def Qa.psk05_3 (x2 : YF × YG × List YB) (c3 : Int × Int × ByteArray × Int) (w3 : List YC) (w4 : List YA) (w5 : List YB) : St := nxt Qa.E Qa.Rk05 (Qa.psk05_1 x2 c3 w3 w4 w5) 1
noncomputable def Qa.psk05_4 (x2 : YF × YG × List YB) (c3 : Int × Int × ByteArray × Int) (w3 : List YC) (w4 : List YA) (w5 : List YB) : St := nxt Qa.E Qa.Rk05 (Qa.psk05_1 x2 c3 w3 w4 w5) 3
noncomputable def Qa.psk05_5 (x2 : YF × YG × List YB) (c3 : Int × Int × ByteArray × Int) (w3 : List YC) (w4 : List YA) (w5 : List YB) : St := nxt Qa.E Qa.Rk05 (Qa.psk05_1 x2 c3 w3 w4 w5) 5
noncomputable def Qa.psk05_6 (x2 : YF × YG × List YB) (c3 : Int × Int × ByteArray × Int) (w3 : List YC) (w4 : List YA) (w5 : List YB) : St := nxt Qa.E Qa.Rk05 (Qa.psk05_1 x2 c3 w3 w4 w5) 9
noncomputable def Qa.psk05_7 (x2 : YF × YG × List YB) (c3 : Int × Int × ByteArray × Int) (w3 : List YC) (w4 : List YA) (w5 : List YB) : St := nxt Qa.E Qa.Rk05 (Qa.psk05_2 x2 c3 w3 w4 w5) 1
noncomputable def Qa.psk05_8 (x2 : YF × YG × List YB) (c3 : Int × Int × ByteArray × Int) (w3 : List YC) (w4 : List YA) (w5 : List YB) : St := nxt Qa.E Qa.Rk05 (Qa.psk05_2 x2 c3 w3 w4 w5) 3
noncomputable def Qa.psk05_9 (x2 : YF × YG × List YB) (c3 : Int × Int × ByteArray × Int) (w3 : List YC) (w4 : List YA) (w5 : List YB) : St := nxt Qa.E Qa.Rk05 (Qa.psk05_2 x2 c3 w3 w4 w5) 5
noncomputable def Qa.psk05_10 (x2 : YF × YG × List YB) (c3 : Int × Int × ByteArray × Int) (w3 : List YC) (w4 : List YA) (w5 : List YB) : St := nxt Qa.E Qa.Rk05 (Qa.psk05_2 x2 c3 w3 w4 w5) 9
noncomputable def Qa.psk05_11 (x2 : YF × YG × List YB) (c3 : Int × Int × ByteArray × Int) (w3 : List YC) (w4 : List YA) (w5 : List YB) : St := nxt Qa.E Qa.Rk05 (Qa.psk05_7 x2 c3 w3 w4 w5) 3
noncomputable def Qa.psk05_12 (x2 : YF × YG × List YB) (c3 : Int × Int × ByteArray × Int) (w3 : List YC) (w4 : List YA) (w5 : List YB) : St := nxt Qa.E Qa.Rk05 (Qa.psk05_7 x2 c3 w3 w4 w5) 5
noncomputable def Qa.psk05_13 (x2 : YF × YG × List YB) (c3 : Int × Int × ByteArray × Int) (w3 : List YC) (w4 : List YA) (w5 : List YB) : St := nxt Qa.E Qa.Rk05 (Qa.psk05_7 x2 c3 w3 w4 w5) 9
noncomputable def Qa.psk05_14 (x2 : YF × YG × List YB) (c3 : Int × Int × ByteArray × Int) (w3 : List YC) (w4 : List YA) (w5 : List YB) : St := nxt Qa.E Qa.Rk05 (Qa.psk05_12 x2 c3 w3 w4 w5) 3
noncomputable def Qa.psk05_15 (x2 : YF × YG × List YB) (c3 : Int × Int × ByteArray × Int) (w3 : List YC) (w4 : List YA) (w5 : List YB) : St := nxt Qa.E Qa.Rk05 (Qa.psk05_12 x2 c3 w3 w4 w5) 6
noncomputable def Qa.psk05_16 (x2 : YF × YG × List YB) (c3 : Int × Int × ByteArray × Int) (w3 : List YC) (w4 : List YA) (w5 : List YB) : St := nxt Qa.E Qa.Rk05 (Qa.psk05_12 x2 c3 w3 w4 w5) 9
noncomputable def Qa.psk05_17 (x2 : YF × YG × List YB) (c3 : Int × Int × ByteArray × Int) (w3 : List YC) (w4 : List YA) (w5 : List YB) : St := nxt Qa.E Qa.Rk05 (Qa.psk05_15 x2 c3 w3 w4 w5) 3
noncomputable def Qa.psk05_18 (x2 : YF × YG × List YB) (c3 : Int × Int × ByteArray × Int) (w3 : List YC) (w4 : List YA) (w5 : List YB) : St := nxt Qa.E Qa.Rk05 (Qa.psk05_15 x2 c3 w3 w4 w5) 9
noncomputable def Qa.psk05_19 (x2 : YF × YG × List YB) (c3 : Int × Int × ByteArray × Int) (w3 : List YC) (w4 : List YA) (w5 : List YB) : St := nxt Qa.E Qa.Rk05 (Qa.psk05_16 x2 c3 w3 w4 w5) 3
noncomputable def Qa.psk05_20 (x2 : YF × YG × List YB) (c3 : Int × Int × ByteArray × Int) (w3 : List YC) (w4 : List YA) (w5 : List YB) : St := nxt Qa.E Qa.Rk05 (Qa.psk05_16 x2 c3 w3 w4 w5) 6
noncomputable def Qa.psk05_21 (x2 : YF × YG × List YB) (c3 : Int × Int × ByteArray × Int) (w3 : List YC) (w4 : List YA) (w5 : List YB) : St := nxt Qa.E Qa.Rk05 (Qa.psk05_13 x2 c3 w3 w4 w5) 3
noncomputable def Qa.psk05_22 (x2 : YF × YG × List YB) (c3 : Int × Int × ByteArray × Int) (w3 : List YC) (w4 : List YA) (w5 : List YB) : St := nxt Qa.E Qa.Rk05 (Qa.psk05_8 x2 c3 w3 w4 w5) 5
noncomputable def Qa.psk05_23 (x2 : YF × YG × List YB) (c3 : Int × Int × ByteArray × Int) (w3 : List YC) (w4 : List YA) (w5 : List YB) : St := nxt Qa.E Qa.Rk05 (Qa.psk05_8 x2 c3 w3 w4 w5) 9
noncomputable def Qa.psk05_24 (x2 : YF × YG × List YB) (c3 : Int × Int × ByteArray × Int) (w3 : List YC) (w4 : List YA) (w5 : List YB) : St := nxt Qa.E Qa.Rk05 (Qa.psk05_22 x2 c3 w3 w4 w5) 6
noncomputable def Qa.psk05_25 (x2 : YF × YG × List YB) (c3 : Int × Int × ByteArray × Int) (w3 : List YC) (w4 : List YA) (w5 : List YB) : St := nxt Qa.E Qa.Rk05 (Qa.psk05_22 x2 c3 w3 w4 w5) 9
noncomputable def Qa.psk05_26 (x2 : YF × YG × List YB) (c3 : Int × Int × ByteArray × Int) (w3 : List YC) (w4 : List YA) (w5 : List YB) : St := nxt Qa.E Qa.Rk05 (Qa.psk05_24 x2 c3 w3 w4 w5) 1
noncomputable def Qa.psk05_27 (x2 : YF × YG × List YB) (c3 : Int × Int × ByteArray × Int) (w3 : List YC) (w4 : List YA) (w5 : List YB) : St := nxt Qa.E Qa.Rk05 (Qa.psk05_24 x2 c3 w3 w4 w5) 9
noncomputable def Qa.psk05_28 (x2 : YF × YG × List YB) (c3 : Int × Int × ByteArray × Int) (w3 : List YC) (w4 : List YA) (w5 : List YB) : St := nxt Qa.E Qa.Rk05 (Qa.psk05_25 x2 c3 w3 w4 w5) 1
noncomputable def Qa.psk05_29 (x2 : YF × YG × List YB) (c3 : Int × Int × ByteArray × Int) (w3 : List YC) (w4 : List YA) (w5 : List YB) : St := nxt Qa.E Qa.Rk05 (Qa.psk05_25 x2 c3 w3 w4 w5) 6
noncomputable def Qa.psk05_30 (x2 : YF × YG × List YB) (c3 : Int × Int × ByteArray × Int) (w3 : List YC) (w4 : List YA) (w5 : List YB) : St := nxt Qa.E Qa.Rk05 (Qa.psk05_23 x2 c3 w3 w4 w5) 1
noncomputable def Qa.psk05_31 (x2 : YF × YG × List YB) (c3 : Int × Int × ByteArray × Int) (w3 : List YC) (w4 : List YA) (w5 : List YB) : St := nxt Qa.E Qa.Rk05 (Qa.psk05_9 x2 c3 w3 w4 w5) 6
noncomputable def Qa.psk05_32 (x2 : YF × YG × List YB) (c3 : Int × Int × ByteArray × Int) (w3 : List YC) (w4 : List YA) (w5 : List YB) : St := nxt Qa.E Qa.Rk05 (Qa.psk05_9 x2 c3 w3 w4 w5) 9
noncomputable def Qa.psk05_33 (x2 : YF × YG × List YB) (c3 : Int × Int × ByteArray × Int) (w3 : List YC) (w4 : List YA) (w5 : List YB) : St := nxt Qa.E Qa.Rk05 (Qa.psk05_31 x2 c3 w3 w4 w5) 1
noncomputable def Qa.psk05_34 (x2 : YF × YG × List YB) (c3 : Int × Int × ByteArray × Int) (w3 : List YC) (w4 : List YA) (w5 : List YB) : St := nxt Qa.E Qa.Rk05 (Qa.psk05_31 x2 c3 w3 w4 w5) 9
noncomputable def Qa.psk05_35 (x2 : YF × YG × List YB) (c3 : Int × Int × ByteArray × Int) (w3 : List YC) (w4 : List YA) (w5 : List YB) : St := nxt Qa.E Qa.Rk05 (Qa.psk05_33 x2 c3 w3 w4 w5) 9
noncomputable def Qa.psk05_36 (x2 : YF × YG × List YB) (c3 : Int × Int × ByteArray × Int) (w3 : List YC) (w4 : List YA) (w5 : List YB) : St := nxt Qa.E Qa.Rk05 (Qa.psk05_32 x2 c3 w3 w4 w5) 1
noncomputable def Qa.psk05_37 (x2 : YF × YG × List YB) (c3 : Int × Int × ByteArray × Int) (w3 : List YC) (w4 : List YA) (w5 : List YB) : St := nxt Qa.E Qa.Rk05 (Qa.psk05_32 x2 c3 w3 w4 w5) 6
noncomputable def Qa.psk05_38 (x2 : YF × YG × List YB) (c3 : Int × Int × ByteArray × Int) (w3 : List YC) (w4 : List YA) (w5 : List YB) : St := nxt Qa.E Qa.Rk05 (Qa.psk05_36 x2 c3 w3 w4 w5) 6
noncomputable def Qa.psk05_39 (x2 : YF × YG × List YB) (c3 : Int × Int × ByteArray × Int) (w3 : List YC) (w4 : List YA) (w5 : List YB) : St := nxt Qa.E Qa.Rk05 (Qa.psk05_10 x2 c3 w3 w4 w5) 1
noncomputable def Qa.psk05_40 (x2 : YF × YG × List YB) (c3 : Int × Int × ByteArray × Int) (w3 : List YC) (w4 : List YA) (w5 : List YB) : St := nxt Qa.E Qa.Rk05 (Qa.psk05_3 x2 c3 w3 w4 w5) 3
noncomputable def Qa.psk05_41 (x2 : YF × YG × List YB) (c3 : Int × Int × ByteArray × Int) (w3 : List YC) (w4 : List YA) (w5 : List YB) : St := nxt Qa.E Qa.Rk05 (Qa.psk05_3 x2 c3 w3 w4 w5) 5
noncomputable def Qa.psk05_42 (x2 : YF × YG × List YB) (c3 : Int × Int × ByteArray × Int) (w3 : List YC) (w4 : List YA) (w5 : List YB) : St := nxt Qa.E Qa.Rk05 (Qa.psk05_3 x2 c3 w3 w4 w5) 9
noncomputable def Qa.psk05_43 (x2 : YF × YG × List YB) (c3 : Int × Int × ByteArray × Int) (w3 : List YC) (w4 : List YA) (w5 : List YB) : St := nxt Qa.E Qa.Rk05 (Qa.psk05_41 x2 c3 w3 w4 w5) 3
noncomputable def Qa.psk05_44 (x2 : YF × YG × List YB) (c3 : Int × Int × ByteArray × Int) (w3 : List YC) (w4 : List YA) (w5 : List YB) : St := nxt Qa.E Qa.Rk05 (Qa.psk05_41 x2 c3 w3 w4 w5) 6
noncomputable def Qa.psk05_45 (x2 : YF × YG × List YB) (c3 : Int × Int × ByteArray × Int) (w3 : List YC) (w4 : List YA) (w5 : List YB) : St := nxt Qa.E Qa.Rk05 (Qa.psk05_41 x2 c3 w3 w4 w5) 9
noncomputable def Qa.psk05_46 (x2 : YF × YG × List YB) (c3 : Int × Int × ByteArray × Int) (w3 : List YC) (w4 : List YA) (w5 : List YB) : St := nxt Qa.E Qa.Rk05 (Qa.psk05_44 x2 c3 w3 w4 w5) 3
noncomputable def Qa.psk05_47 (x2 : YF × YG × List YB) (c3 : Int × Int × ByteArray × Int) (w3 : List YC) (w4 : List YA) (w5 : List YB) : St := nxt Qa.E Qa.Rk05 (Qa.psk05_44 x2 c3 w3 w4 w5) 9
noncomputable def Qa.psk05_48 (x2 : YF × YG × List YB) (c3 : Int × Int × ByteArray × Int) (w3 : List YC) (w4 : List YA) (w5 : List YB) : St := nxt Qa.E Qa.Rk05 (Qa.psk05_47 x2 c3 w3 w4 w5) 3
noncomputable def Qa.psk05_49 (x2 : YF × YG × List YB) (c3 : Int × Int × ByteArray × Int) (w3 : List YC) (w4 : List YA) (w5 : List YB) : St := nxt Qa.E Qa.Rk05 (Qa.psk05_45 x2 c3 w3 w4 w5) 3
noncomputable def Qa.psk05_50 (x2 : YF × YG × List YB) (c3 : Int × Int × ByteArray × Int) (w3 : List YC) (w4 : List YA) (w5 : List YB) : St := nxt Qa.E Qa.Rk05 (Qa.psk05_45 x2 c3 w3 w4 w5) 6
noncomputable def Qa.psk05_51 (x2 : YF × YG × List YB) (c3 : Int × Int × ByteArray × Int) (w3 : List YC) (w4 : List YA) (w5 : List YB) : St := nxt Qa.E Qa.Rk05 (Qa.psk05_50 x2 c3 w3 w4 w5) 3
noncomputable def Qa.psk05_52 (x2 : YF × YG × List YB) (c3 : Int × Int × ByteArray × Int) (w3 : List YC) (w4 : List YA) (w5 : List YB) : St := nxt Qa.E Qa.Rk05 (Qa.psk05_42 x2 c3 w3 w4 w5) 3
noncomputable def Qa.psk05_53 (x2 : YF × YG × List YB) (c3 : Int × Int × ByteArray × Int) (w3 : List YC) (w4 : List YA) (w5 : List YB) : St := nxt Qa.E Qa.Rk05 (Qa.psk05_4 x2 c3 w3 w4 w5) 5
noncomputable def Qa.psk05_54 (x2 : YF × YG × List YB) (c3 : Int × Int × ByteArray × Int) (w3 : List YC) (w4 : List YA) (w5 : List YB) : St := nxt Qa.E Qa.Rk05 (Qa.psk05_4 x2 c3 w3 w4 w5) 9
noncomputable def Qa.psk05_55 (x2 : YF × YG × List YB) (c3 : Int × Int × ByteArray × Int) (w3 : List YC) (w4 : List YA) (w5 : List YB) : St := nxt Qa.E Qa.Rk05 (Qa.psk05_53 x2 c3 w3 w4 w5) 6
noncomputable def Qa.psk05_56 (x2 : YF × YG × List YB) (c3 : Int × Int × ByteArray × Int) (w3 : List YC) (w4 : List YA) (w5 : List YB) : St := nxt Qa.E Qa.Rk05 (Qa.psk05_53 x2 c3 w3 w4 w5) 9
noncomputable def Qa.psk05_57 (x2 : YF × YG × List YB) (c3 : Int × Int × ByteArray × Int) (w3 : List YC) (w4 : List YA) (w5 : List YB) : St := nxt Qa.E Qa.Rk05 (Qa.psk05_55 x2 c3 w3 w4 w5) 1
noncomputable def Qa.psk05_58 (x2 : YF × YG × List YB) (c3 : Int × Int × ByteArray × Int) (w3 : List YC) (w4 : List YA) (w5 : List YB) : St := nxt Qa.E Qa.Rk05 (Qa.psk05_55 x2 c3 w3 w4 w5) 9
noncomputable def Qa.psk05_59 (x2 : YF × YG × List YB) (c3 : Int × Int × ByteArray × Int) (w3 : List YC) (w4 : List YA) (w5 : List YB) : St := nxt Qa.E Qa.Rk05 (Qa.psk05_58 x2 c3 w3 w4 w5) 1
noncomputable def Qa.psk05_60 (x2 : YF × YG × List YB) (c3 : Int × Int × ByteArray × Int) (w3 : List YC) (w4 : List YA) (w5 : List YB) : St := nxt Qa.E Qa.Rk05 (Qa.psk05_56 x2 c3 w3 w4 w5) 1
noncomputable def Qa.psk05_61 (x2 : YF × YG × List YB) (c3 : Int × Int × ByteArray × Int) (w3 : List YC) (w4 : List YA) (w5 : List YB) : St := nxt Qa.E Qa.Rk05 (Qa.psk05_56 x2 c3 w3 w4 w5) 6
noncomputable def Qa.psk05_62 (x2 : YF × YG × List YB) (c3 : Int × Int × ByteArray × Int) (w3 : List YC) (w4 : List YA) (w5 : List YB) : St := nxt Qa.E Qa.Rk05 (Qa.psk05_61 x2 c3 w3 w4 w5) 1
noncomputable def Qa.psk05_63 (x2 : YF × YG × List YB) (c3 : Int × Int × ByteArray × Int) (w3 : List YC) (w4 : List YA) (w5 : List YB) : St := nxt Qa.E Qa.Rk05 (Qa.psk05_54 x2 c3 w3 w4 w5) 1
noncomputable def Qa.psk05_64 (x2 : YF × YG × List YB) (c3 : Int × Int × ByteArray × Int) (w3 : List YC) (w4 : List YA) (w5 : List YB) : St := nxt Qa.E Qa.Rk05 (Qa.psk05_5 x2 c3 w3 w4 w5) 6
noncomputable def Qa.psk05_65 (x2 : YF × YG × List YB) (c3 : Int × Int × ByteArray × Int) (w3 : List YC) (w4 : List YA) (w5 : List YB) : St := nxt Qa.E Qa.Rk05 (Qa.psk05_5 x2 c3 w3 w4 w5) 9
noncomputable def Qa.psk05_66 (x2 : YF × YG × List YB) (c3 : Int × Int × ByteArray × Int) (w3 : List YC) (w4 : List YA) (w5 : List YB) : St := nxt Qa.E Qa.Rk05 (Qa.psk05_64 x2 c3 w3 w4 w5) 1
noncomputable def Qa.psk05_67 (x2 : YF × YG × List YB) (c3 : Int × Int × ByteArray × Int) (w3 : List YC) (w4 : List YA) (w5 : List YB) : St := nxt Qa.E Qa.Rk05 (Qa.psk05_64 x2 c3 w3 w4 w5) 9
noncomputable def Qa.psk05_68 (x2 : YF × YG × List YB) (c3 : Int × Int × ByteArray × Int) (w3 : List YC) (w4 : List YA) (w5 : List YB) : St := nxt Qa.E Qa.Rk05 (Qa.psk05_66 x2 c3 w3 w4 w5) 9
noncomputable def Qa.psk05_69 (x2 : YF × YG × List YB) (c3 : Int × Int × ByteArray × Int) (w3 : List YC) (w4 : List YA) (w5 : List YB) : St := nxt Qa.E Qa.Rk05 (Qa.psk05_68 x2 c3 w3 w4 w5) 3
noncomputable def Qa.psk05_70 (x2 : YF × YG × List YB) (c3 : Int × Int × ByteArray × Int) (w3 : List YC) (w4 : List YA) (w5 : List YB) : St := nxt Qa.E Qa.Rk05 (Qa.psk05_67 x2 c3 w3 w4 w5) 1
noncomputable def Qa.psk05_71 (x2 : YF × YG × List YB) (c3 : Int × Int × ByteArray × Int) (w3 : List YC) (w4 : List YA) (w5 : List YB) : St := nxt Qa.E Qa.Rk05 (Qa.psk05_70 x2 c3 w3 w4 w5) 0
noncomputable def Qa.psk05_72 (x2 : YF × YG × List YB) (c3 : Int × Int × ByteArray × Int) (w3 : List YC) (w4 : List YA) (w5 : List YB) : St := nxt Qa.E Qa.Rk05 (Qa.psk05_65 x2 c3 w3 w4 w5) 1
noncomputable def Qa.psk05_73 (x2 : YF × YG × List YB) (c3 : Int × Int × ByteArray × Int) (w3 : List YC) (w4 : List YA) (w5 : List YB) : St := nxt Qa.E Qa.Rk05 (Qa.psk05_65 x2 c3 w3 w4 w5) 6
noncomputable def Qa.psk05_74 (x2 : YF × YG × List YB) (c3 : Int × Int × ByteArray × Int) (w3 : List YC) (w4 : List YA) (w5 : List YB) : St := nxt Qa.E Qa.Rk05 (Qa.psk05_72 x2 c3 w3 w4 w5) 6
noncomputable def Qa.psk05_75 (x2 : YF × YG × List YB) (c3 : Int × Int × ByteArray × Int) (w3 : List YC) (w4 : List YA) (w5 : List YB) : St := nxt Qa.E Qa.Rk05 (Qa.psk05_74 x2 c3 w3 w4 w5) 3
noncomputable def Qa.psk05_76 (x2 : YF × YG × List YB) (c3 : Int × Int × ByteArray × Int) (w3 : List YC) (w4 : List YA) (w5 : List YB) : St := nxt Qa.E Qa.Rk05 (Qa.psk05_73 x2 c3 w3 w4 w5) 1
noncomputable def Qa.psk05_77 (x2 : YF × YG × List YB) (c3 : Int × Int × ByteArray × Int) (w3 : List YC) (w4 : List YA) (w5 : List YB) : St := nxt Qa.E Qa.Rk05 (Qa.psk05_76 x2 c3 w3 w4 w5) 0
noncomputable def Qa.psk05_78 (x2 : YF × YG × List YB) (c3 : Int × Int × ByteArray × Int) (w3 : List YC) (w4 : List YA) (w5 : List YB) : St := nxt Qa.E Qa.Rk05 (Qa.psk05_6 x2 c3 w3 w4 w5) 1
def Qa.ptk05_0 (Ik06 : YN) (Lk05 : YP) (x2 : YF × YG × List YB) (c3 : Int × Int × ByteArray × Int) (w3 : List YC) (w4 : List YA) (w5 : List YB) : Option YJ :=
 Qa.tr10 Ik06 x2 c3 w3 w4 w5
theorem Qa.ptk05_0_eq (Ik06 : YN) (Lk05 : YP) (x2 : YF × YG × List YB) (c3 : Int × Int × ByteArray × Int) (w3 : List YC) (w4 : List YA) (w5 : List YB) : Qa.ptk05_0 Ik06 Lk05 x2 c3 w3 w4 w5 = Qa.gk05 Ik06 Lk05 x2 c3 w3 w4 w5 := by
 unfold Qa.ptk05_0 Qa.gk05
 simp only [Vi,Qa.tr0,Qa.tr1,Qa.tr2,Qa.tr3,Qa.tr4,Qa.tr5,Qa.tr6,Qa.tr7,Qa.tr8,Qa.tr9,Qa.tr10]
def Qa.ptk05_1 (Ik06 : YN) (Lk05 : YP) (x2 : YF × YG × List YB) (c3 : Int × Int × ByteArray × Int) (w3 : List YC) (w4 : List YA) (w5 : List YB) : Option YJ :=
 Qa.tr8 Ik06 x2 c3 w3 w4 w5
theorem Qa.ptk05_1_eq (Ik06 : YN) (Lk05 : YP) (x2 : YF × YG × List YB) (c3 : Int × Int × ByteArray × Int) (w3 : List YC) (w4 : List YA) (w5 : List YB) : Qa.ptk05_1 Ik06 Lk05 x2 c3 w3 w4 w5 = Qa.gk05 Ik06 Lk05 x2 c3 w3 w4 w5 := by
 unfold Qa.ptk05_1 Qa.gk05
 simp only [Vi,Qa.tr0,Qa.tr1,Qa.tr2,Qa.tr3,Qa.tr5,Qa.tr6,Qa.tr7,Qa.tr8]
def Qa.ptk05_2 (Ik06 : YN) (Lk05 : YP) (x2 : YF × YG × List YB) (c3 : Int × Int × ByteArray × Int) (w3 : List YC) (w4 : List YA) (w5 : List YB) : Option YJ :=
 Qa.tr6 Ik06 x2 c3 w3 w4 w5
theorem Qa.ptk05_2_eq (Ik06 : YN) (Lk05 : YP) (x2 : YF × YG × List YB) (c3 : Int × Int × ByteArray × Int) (w3 : List YC) (w4 : List YA) (w5 : List YB) : Qa.ptk05_2 Ik06 Lk05 x2 c3 w3 w4 w5 = Qa.gk05 Ik06 Lk05 x2 c3 w3 w4 w5 := by
 unfold Qa.ptk05_2 Qa.gk05
 simp only [Vi,Qa.tr0,Qa.tr1,Qa.tr2,Qa.tr5,Qa.tr6]
def Qa.ptk05_3 (Ik06 : YN) (Lk05 : YP) (x2 : YF × YG × List YB) (c3 : Int × Int × ByteArray × Int) (w3 : List YC) (w4 : List YA) (w5 : List YB) : Option YJ :=
 Qa.tr5 Ik06 x2 c3 w3 w4 w5
theorem Qa.ptk05_3_eq (Ik06 : YN) (Lk05 : YP) (x2 : YF × YG × List YB) (c3 : Int × Int × ByteArray × Int) (w3 : List YC) (w4 : List YA) (w5 : List YB) : Qa.ptk05_3 Ik06 Lk05 x2 c3 w3 w4 w5 = Qa.gk05 Ik06 Lk05 x2 c3 w3 w4 w5 := by
 unfold Qa.ptk05_3 Qa.gk05
 simp only [Vi,Qa.tr1,Qa.tr5]
def Qa.ptk05_4 (Ik06 : YN) (Lk05 : YP) (x2 : YF × YG × List YB) (c3 : Int × Int × ByteArray × Int) (w3 : List YC) (w4 : List YA) (w5 : List YB) : Option YJ :=
 Qa.tr7 Ik06 x2 c3 w3 w4 w5
theorem Qa.ptk05_4_eq (Ik06 : YN) (Lk05 : YP) (x2 : YF × YG × List YB) (c3 : Int × Int × ByteArray × Int) (w3 : List YC) (w4 : List YA) (w5 : List YB) : Qa.ptk05_4 Ik06 Lk05 x2 c3 w3 w4 w5 = Qa.gk05 Ik06 Lk05 x2 c3 w3 w4 w5 := by
 unfold Qa.ptk05_4 Qa.gk05
 simp only [Vi,Qa.tr1,Qa.tr5,Qa.tr7]
def Qa.ptk05_5 (Ik06 : YN) (Lk05 : YP) (x2 : YF × YG × List YB) (c3 : Int × Int × ByteArray × Int) (w3 : List YC) (w4 : List YA) (w5 : List YB) : Option YJ :=
 Qa.tr5 Ik06 x2 c3 w3 w4 w5
theorem Qa.ptk05_5_eq (Ik06 : YN) (Lk05 : YP) (x2 : YF × YG × List YB) (c3 : Int × Int × ByteArray × Int) (w3 : List YC) (w4 : List YA) (w5 : List YB) : Qa.ptk05_5 Ik06 Lk05 x2 c3 w3 w4 w5 = Qa.gk05 Ik06 Lk05 x2 c3 w3 w4 w5 := by
 unfold Qa.ptk05_5 Qa.gk05
 simp only [Vi,Qa.tr1,Qa.tr5]
def Qa.ptk05_6 (Ik06 : YN) (Lk05 : YP) (x2 : YF × YG × List YB) (c3 : Int × Int × ByteArray × Int) (w3 : List YC) (w4 : List YA) (w5 : List YB) : Option YJ :=
 Qa.tr9 Ik06 x2 c3 w3 w4 w5
theorem Qa.ptk05_6_eq (Ik06 : YN) (Lk05 : YP) (x2 : YF × YG × List YB) (c3 : Int × Int × ByteArray × Int) (w3 : List YC) (w4 : List YA) (w5 : List YB) : Qa.ptk05_6 Ik06 Lk05 x2 c3 w3 w4 w5 = Qa.gk05 Ik06 Lk05 x2 c3 w3 w4 w5 := by
 unfold Qa.ptk05_6 Qa.gk05
 simp only [Vi,Qa.tr1,Qa.tr5,Qa.tr7,Qa.tr9]
def Qa.ptk05_7 (Ik06 : YN) (Lk05 : YP) (x2 : YF × YG × List YB) (c3 : Int × Int × ByteArray × Int) (w3 : List YC) (w4 : List YA) (w5 : List YB) : Option YJ :=
 Qa.tr6 Ik06 x2 c3 w3 w4 w5
theorem Qa.ptk05_7_eq (Ik06 : YN) (Lk05 : YP) (x2 : YF × YG × List YB) (c3 : Int × Int × ByteArray × Int) (w3 : List YC) (w4 : List YA) (w5 : List YB) : Qa.ptk05_7 Ik06 Lk05 x2 c3 w3 w4 w5 = Qa.gk05 Ik06 Lk05 x2 c3 w3 w4 w5 := by
 unfold Qa.ptk05_7 Qa.gk05
 simp only [Vi,Qa.tr0,Qa.tr1,Qa.tr2,Qa.tr5,Qa.tr6]
def Qa.ptk05_8 (Ik06 : YN) (Lk05 : YP) (x2 : YF × YG × List YB) (c3 : Int × Int × ByteArray × Int) (w3 : List YC) (w4 : List YA) (w5 : List YB) : Option YJ :=
 Qa.tr5 Ik06 x2 c3 w3 w4 w5
theorem Qa.ptk05_8_eq (Ik06 : YN) (Lk05 : YP) (x2 : YF × YG × List YB) (c3 : Int × Int × ByteArray × Int) (w3 : List YC) (w4 : List YA) (w5 : List YB) : Qa.ptk05_8 Ik06 Lk05 x2 c3 w3 w4 w5 = Qa.gk05 Ik06 Lk05 x2 c3 w3 w4 w5 := by
 unfold Qa.ptk05_8 Qa.gk05
 simp only [Vi,Qa.tr1,Qa.tr5]
def Qa.ptk05_9 (Ik06 : YN) (Lk05 : YP) (x2 : YF × YG × List YB) (c3 : Int × Int × ByteArray × Int) (w3 : List YC) (w4 : List YA) (w5 : List YB) : Option YJ :=
 Qa.tr7 Ik06 x2 c3 w3 w4 w5
theorem Qa.ptk05_9_eq (Ik06 : YN) (Lk05 : YP) (x2 : YF × YG × List YB) (c3 : Int × Int × ByteArray × Int) (w3 : List YC) (w4 : List YA) (w5 : List YB) : Qa.ptk05_9 Ik06 Lk05 x2 c3 w3 w4 w5 = Qa.gk05 Ik06 Lk05 x2 c3 w3 w4 w5 := by
 unfold Qa.ptk05_9 Qa.gk05
 simp only [Vi,Qa.tr1,Qa.tr5,Qa.tr7]
def Qa.ptk05_10 (Ik06 : YN) (Lk05 : YP) (x2 : YF × YG × List YB) (c3 : Int × Int × ByteArray × Int) (w3 : List YC) (w4 : List YA) (w5 : List YB) : Option YJ :=
 Qa.tr5 Ik06 x2 c3 w3 w4 w5
theorem Qa.ptk05_10_eq (Ik06 : YN) (Lk05 : YP) (x2 : YF × YG × List YB) (c3 : Int × Int × ByteArray × Int) (w3 : List YC) (w4 : List YA) (w5 : List YB) : Qa.ptk05_10 Ik06 Lk05 x2 c3 w3 w4 w5 = Qa.gk05 Ik06 Lk05 x2 c3 w3 w4 w5 := by
 unfold Qa.ptk05_10 Qa.gk05
 simp only [Vi,Qa.tr1,Qa.tr5]
def Qa.ptk05_11 (Ik06 : YN) (Lk05 : YP) (x2 : YF × YG × List YB) (c3 : Int × Int × ByteArray × Int) (w3 : List YC) (w4 : List YA) (w5 : List YB) : Option YJ :=
 Qa.tr9 Ik06 x2 c3 w3 w4 w5
theorem Qa.ptk05_11_eq (Ik06 : YN) (Lk05 : YP) (x2 : YF × YG × List YB) (c3 : Int × Int × ByteArray × Int) (w3 : List YC) (w4 : List YA) (w5 : List YB) : Qa.ptk05_11 Ik06 Lk05 x2 c3 w3 w4 w5 = Qa.gk05 Ik06 Lk05 x2 c3 w3 w4 w5 := by
 unfold Qa.ptk05_11 Qa.gk05
 simp only [Vi,Qa.tr1,Qa.tr5,Qa.tr7,Qa.tr9]
def Qa.ptk05_12 (Ik06 : YN) (Lk05 : YP) (x2 : YF × YG × List YB) (c3 : Int × Int × ByteArray × Int) (w3 : List YC) (w4 : List YA) (w5 : List YB) : Option YJ :=
 Qa.tr5 Ik06 x2 c3 w3 w4 w5
theorem Qa.ptk05_12_eq (Ik06 : YN) (Lk05 : YP) (x2 : YF × YG × List YB) (c3 : Int × Int × ByteArray × Int) (w3 : List YC) (w4 : List YA) (w5 : List YB) : Qa.ptk05_12 Ik06 Lk05 x2 c3 w3 w4 w5 = Qa.gk05 Ik06 Lk05 x2 c3 w3 w4 w5 := by
 unfold Qa.ptk05_12 Qa.gk05
 simp only [Vi,Qa.tr1,Qa.tr5]
def Qa.ptk05_13 (Ik06 : YN) (Lk05 : YP) (x2 : YF × YG × List YB) (c3 : Int × Int × ByteArray × Int) (w3 : List YC) (w4 : List YA) (w5 : List YB) : Option YJ :=
 Qa.tr7 Ik06 x2 c3 w3 w4 w5
theorem Qa.ptk05_13_eq (Ik06 : YN) (Lk05 : YP) (x2 : YF × YG × List YB) (c3 : Int × Int × ByteArray × Int) (w3 : List YC) (w4 : List YA) (w5 : List YB) : Qa.ptk05_13 Ik06 Lk05 x2 c3 w3 w4 w5 = Qa.gk05 Ik06 Lk05 x2 c3 w3 w4 w5 := by
 unfold Qa.ptk05_13 Qa.gk05
 simp only [Vi,Qa.tr1,Qa.tr5,Qa.tr7]
def Qa.ptk05_14 (Ik06 : YN) (Lk05 : YP) (x2 : YF × YG × List YB) (c3 : Int × Int × ByteArray × Int) (w3 : List YC) (w4 : List YA) (w5 : List YB) : Option YJ :=
 Qa.tr5 Ik06 x2 c3 w3 w4 w5
theorem Qa.ptk05_14_eq (Ik06 : YN) (Lk05 : YP) (x2 : YF × YG × List YB) (c3 : Int × Int × ByteArray × Int) (w3 : List YC) (w4 : List YA) (w5 : List YB) : Qa.ptk05_14 Ik06 Lk05 x2 c3 w3 w4 w5 = Qa.gk05 Ik06 Lk05 x2 c3 w3 w4 w5 := by
 unfold Qa.ptk05_14 Qa.gk05
 simp only [Vi,Qa.tr1,Qa.tr5]
def Qa.ptk05_15 (Ik06 : YN) (Lk05 : YP) (x2 : YF × YG × List YB) (c3 : Int × Int × ByteArray × Int) (w3 : List YC) (w4 : List YA) (w5 : List YB) : Option YJ :=
 Qa.tr7 Ik06 x2 c3 w3 w4 w5
theorem Qa.ptk05_15_eq (Ik06 : YN) (Lk05 : YP) (x2 : YF × YG × List YB) (c3 : Int × Int × ByteArray × Int) (w3 : List YC) (w4 : List YA) (w5 : List YB) : Qa.ptk05_15 Ik06 Lk05 x2 c3 w3 w4 w5 = Qa.gk05 Ik06 Lk05 x2 c3 w3 w4 w5 := by
 unfold Qa.ptk05_15 Qa.gk05
 simp only [Vi,Qa.tr1,Qa.tr5,Qa.tr7]
def Qa.ptk05_16 (Ik06 : YN) (Lk05 : YP) (x2 : YF × YG × List YB) (c3 : Int × Int × ByteArray × Int) (w3 : List YC) (w4 : List YA) (w5 : List YB) : Option YJ :=
 agree (
  Qa.tr10 Ik06 x2 c3 w3 w4 w5
 ) (
  agree (
   if ([] : List YB).length + x2.2.2.length < room 40 then
    agree (
     Qa.tr4 Ik06 x2 c3 w3 w4 w5
    ) (
     agree (
      Qa.tr14 Ik06 x2 c3 w3 w4 w5
     ) (
      Qa.tr15 Ik06 x2 c3 w3 w4 w5
     )
    )
   else
    none
  ) (
   agree (
    Qa.tr19 Ik06 x2 c3 w3 w4 w5
   ) (
    Qa.tr20 Ik06 x2 c3 w3 w4 w5
   )
  )
 )
theorem Qa.ptk05_16_eq (Ik06 : YN) (Lk05 : YP) (x2 : YF × YG × List YB) (c3 : Int × Int × ByteArray × Int) (w3 : List YC) (w4 : List YA) (w5 : List YB) : Qa.ptk05_16 Ik06 Lk05 x2 c3 w3 w4 w5 = Qa.gk05 Ik06 Lk05 x2 c3 w3 w4 w5 := by
 unfold Qa.ptk05_16 Qa.gk05
 simp only [Vi,Qa.tr0,Qa.tr1,Qa.tr2,Qa.tr3,Qa.tr4,Qa.tr5,Qa.tr6,Qa.tr7,Qa.tr8,Qa.tr9,Qa.tr10,Qa.tr11,Qa.tr12,Qa.tr13,Qa.tr14,Qa.tr15,Qa.tr16,Qa.tr17,Qa.tr18,Qa.tr19,Qa.tr20]
def Qa.ptk05_17 (Ik06 : YN) (Lk05 : YP) (x2 : YF × YG × List YB) (c3 : Int × Int × ByteArray × Int) (w3 : List YC) (w4 : List YA) (w5 : List YB) : Option YJ :=
 Qa.tr19 Ik06 x2 c3 w3 w4 w5
theorem Qa.ptk05_17_eq (Ik06 : YN) (Lk05 : YP) (x2 : YF × YG × List YB) (c3 : Int × Int × ByteArray × Int) (w3 : List YC) (w4 : List YA) (w5 : List YB) : Qa.ptk05_17 Ik06 Lk05 x2 c3 w3 w4 w5 = Qa.gk05 Ik06 Lk05 x2 c3 w3 w4 w5 := by
 unfold Qa.ptk05_17 Qa.gk05
 simp only [Vi,Qa.tr0,Qa.tr1,Qa.tr2,Qa.tr3,Qa.tr5,Qa.tr6,Qa.tr7,Qa.tr8,Qa.tr11,Qa.tr12,Qa.tr13,Qa.tr14,Qa.tr16,Qa.tr17,Qa.tr18,Qa.tr19]
def Qa.ptk05_18 (Ik06 : YN) (Lk05 : YP) (x2 : YF × YG × List YB) (c3 : Int × Int × ByteArray × Int) (w3 : List YC) (w4 : List YA) (w5 : List YB) : Option YJ :=
 Qa.tr17 Ik06 x2 c3 w3 w4 w5
theorem Qa.ptk05_18_eq (Ik06 : YN) (Lk05 : YP) (x2 : YF × YG × List YB) (c3 : Int × Int × ByteArray × Int) (w3 : List YC) (w4 : List YA) (w5 : List YB) : Qa.ptk05_18 Ik06 Lk05 x2 c3 w3 w4 w5 = Qa.gk05 Ik06 Lk05 x2 c3 w3 w4 w5 := by
 unfold Qa.ptk05_18 Qa.gk05
 simp only [Vi,Qa.tr0,Qa.tr1,Qa.tr2,Qa.tr5,Qa.tr6,Qa.tr11,Qa.tr12,Qa.tr16,Qa.tr17]
def Qa.ptk05_19 (Ik06 : YN) (Lk05 : YP) (x2 : YF × YG × List YB) (c3 : Int × Int × ByteArray × Int) (w3 : List YC) (w4 : List YA) (w5 : List YB) : Option YJ :=
 Qa.tr16 Ik06 x2 c3 w3 w4 w5
theorem Qa.ptk05_19_eq (Ik06 : YN) (Lk05 : YP) (x2 : YF × YG × List YB) (c3 : Int × Int × ByteArray × Int) (w3 : List YC) (w4 : List YA) (w5 : List YB) : Qa.ptk05_19 Ik06 Lk05 x2 c3 w3 w4 w5 = Qa.gk05 Ik06 Lk05 x2 c3 w3 w4 w5 := by
 unfold Qa.ptk05_19 Qa.gk05
 simp only [Vi,Qa.tr1,Qa.tr5,Qa.tr11,Qa.tr16]
def Qa.ptk05_20 (Ik06 : YN) (Lk05 : YP) (x2 : YF × YG × List YB) (c3 : Int × Int × ByteArray × Int) (w3 : List YC) (w4 : List YA) (w5 : List YB) : Option YJ :=
 Qa.tr18 Ik06 x2 c3 w3 w4 w5
theorem Qa.ptk05_20_eq (Ik06 : YN) (Lk05 : YP) (x2 : YF × YG × List YB) (c3 : Int × Int × ByteArray × Int) (w3 : List YC) (w4 : List YA) (w5 : List YB) : Qa.ptk05_20 Ik06 Lk05 x2 c3 w3 w4 w5 = Qa.gk05 Ik06 Lk05 x2 c3 w3 w4 w5 := by
 unfold Qa.ptk05_20 Qa.gk05
 simp only [Vi,Qa.tr1,Qa.tr5,Qa.tr7,Qa.tr11,Qa.tr13,Qa.tr16,Qa.tr18]
def Qa.ptk05_21 (Ik06 : YN) (Lk05 : YP) (x2 : YF × YG × List YB) (c3 : Int × Int × ByteArray × Int) (w3 : List YC) (w4 : List YA) (w5 : List YB) : Option YJ :=
 Qa.tr16 Ik06 x2 c3 w3 w4 w5
theorem Qa.ptk05_21_eq (Ik06 : YN) (Lk05 : YP) (x2 : YF × YG × List YB) (c3 : Int × Int × ByteArray × Int) (w3 : List YC) (w4 : List YA) (w5 : List YB) : Qa.ptk05_21 Ik06 Lk05 x2 c3 w3 w4 w5 = Qa.gk05 Ik06 Lk05 x2 c3 w3 w4 w5 := by
 unfold Qa.ptk05_21 Qa.gk05
 simp only [Vi,Qa.tr1,Qa.tr5,Qa.tr11,Qa.tr16]
def Qa.ptk05_22 (Ik06 : YN) (Lk05 : YP) (x2 : YF × YG × List YB) (c3 : Int × Int × ByteArray × Int) (w3 : List YC) (w4 : List YA) (w5 : List YB) : Option YJ :=
 Qa.tr20 Ik06 x2 c3 w3 w4 w5
theorem Qa.ptk05_22_eq (Ik06 : YN) (Lk05 : YP) (x2 : YF × YG × List YB) (c3 : Int × Int × ByteArray × Int) (w3 : List YC) (w4 : List YA) (w5 : List YB) : Qa.ptk05_22 Ik06 Lk05 x2 c3 w3 w4 w5 = Qa.gk05 Ik06 Lk05 x2 c3 w3 w4 w5 := by
 unfold Qa.ptk05_22 Qa.gk05
 simp only [Vi,Qa.tr1,Qa.tr5,Qa.tr7,Qa.tr9,Qa.tr11,Qa.tr13,Qa.tr15,Qa.tr16,Qa.tr18,Qa.tr20]
def Qa.ptk05_23 (Ik06 : YN) (Lk05 : YP) (x2 : YF × YG × List YB) (c3 : Int × Int × ByteArray × Int) (w3 : List YC) (w4 : List YA) (w5 : List YB) : Option YJ :=
 Qa.tr17 Ik06 x2 c3 w3 w4 w5
theorem Qa.ptk05_23_eq (Ik06 : YN) (Lk05 : YP) (x2 : YF × YG × List YB) (c3 : Int × Int × ByteArray × Int) (w3 : List YC) (w4 : List YA) (w5 : List YB) : Qa.ptk05_23 Ik06 Lk05 x2 c3 w3 w4 w5 = Qa.gk05 Ik06 Lk05 x2 c3 w3 w4 w5 := by
 unfold Qa.ptk05_23 Qa.gk05
 simp only [Vi,Qa.tr0,Qa.tr1,Qa.tr2,Qa.tr5,Qa.tr6,Qa.tr11,Qa.tr12,Qa.tr16,Qa.tr17]
def Qa.ptk05_24 (Ik06 : YN) (Lk05 : YP) (x2 : YF × YG × List YB) (c3 : Int × Int × ByteArray × Int) (w3 : List YC) (w4 : List YA) (w5 : List YB) : Option YJ :=
 Qa.tr16 Ik06 x2 c3 w3 w4 w5
theorem Qa.ptk05_24_eq (Ik06 : YN) (Lk05 : YP) (x2 : YF × YG × List YB) (c3 : Int × Int × ByteArray × Int) (w3 : List YC) (w4 : List YA) (w5 : List YB) : Qa.ptk05_24 Ik06 Lk05 x2 c3 w3 w4 w5 = Qa.gk05 Ik06 Lk05 x2 c3 w3 w4 w5 := by
 unfold Qa.ptk05_24 Qa.gk05
 simp only [Vi,Qa.tr1,Qa.tr5,Qa.tr11,Qa.tr16]
def Qa.ptk05_25 (Ik06 : YN) (Lk05 : YP) (x2 : YF × YG × List YB) (c3 : Int × Int × ByteArray × Int) (w3 : List YC) (w4 : List YA) (w5 : List YB) : Option YJ :=
 Qa.tr18 Ik06 x2 c3 w3 w4 w5
theorem Qa.ptk05_25_eq (Ik06 : YN) (Lk05 : YP) (x2 : YF × YG × List YB) (c3 : Int × Int × ByteArray × Int) (w3 : List YC) (w4 : List YA) (w5 : List YB) : Qa.ptk05_25 Ik06 Lk05 x2 c3 w3 w4 w5 = Qa.gk05 Ik06 Lk05 x2 c3 w3 w4 w5 := by
 unfold Qa.ptk05_25 Qa.gk05
 simp only [Vi,Qa.tr1,Qa.tr5,Qa.tr7,Qa.tr11,Qa.tr13,Qa.tr16,Qa.tr18]
def Qa.ptk05_26 (Ik06 : YN) (Lk05 : YP) (x2 : YF × YG × List YB) (c3 : Int × Int × ByteArray × Int) (w3 : List YC) (w4 : List YA) (w5 : List YB) : Option YJ :=
 Qa.tr16 Ik06 x2 c3 w3 w4 w5
theorem Qa.ptk05_26_eq (Ik06 : YN) (Lk05 : YP) (x2 : YF × YG × List YB) (c3 : Int × Int × ByteArray × Int) (w3 : List YC) (w4 : List YA) (w5 : List YB) : Qa.ptk05_26 Ik06 Lk05 x2 c3 w3 w4 w5 = Qa.gk05 Ik06 Lk05 x2 c3 w3 w4 w5 := by
 unfold Qa.ptk05_26 Qa.gk05
 simp only [Vi,Qa.tr1,Qa.tr5,Qa.tr11,Qa.tr16]
def Qa.ptk05_27 (Ik06 : YN) (Lk05 : YP) (x2 : YF × YG × List YB) (c3 : Int × Int × ByteArray × Int) (w3 : List YC) (w4 : List YA) (w5 : List YB) : Option YJ :=
 Qa.tr20 Ik06 x2 c3 w3 w4 w5
theorem Qa.ptk05_27_eq (Ik06 : YN) (Lk05 : YP) (x2 : YF × YG × List YB) (c3 : Int × Int × ByteArray × Int) (w3 : List YC) (w4 : List YA) (w5 : List YB) : Qa.ptk05_27 Ik06 Lk05 x2 c3 w3 w4 w5 = Qa.gk05 Ik06 Lk05 x2 c3 w3 w4 w5 := by
 unfold Qa.ptk05_27 Qa.gk05
 simp only [Vi,Qa.tr1,Qa.tr5,Qa.tr7,Qa.tr9,Qa.tr11,Qa.tr13,Qa.tr15,Qa.tr16,Qa.tr18,Qa.tr20]
def Qa.ptk05_28 (Ik06 : YN) (Lk05 : YP) (x2 : YF × YG × List YB) (c3 : Int × Int × ByteArray × Int) (w3 : List YC) (w4 : List YA) (w5 : List YB) : Option YJ :=
 Qa.tr16 Ik06 x2 c3 w3 w4 w5
theorem Qa.ptk05_28_eq (Ik06 : YN) (Lk05 : YP) (x2 : YF × YG × List YB) (c3 : Int × Int × ByteArray × Int) (w3 : List YC) (w4 : List YA) (w5 : List YB) : Qa.ptk05_28 Ik06 Lk05 x2 c3 w3 w4 w5 = Qa.gk05 Ik06 Lk05 x2 c3 w3 w4 w5 := by
 unfold Qa.ptk05_28 Qa.gk05
 simp only [Vi,Qa.tr1,Qa.tr5,Qa.tr11,Qa.tr16]
def Qa.ptk05_29 (Ik06 : YN) (Lk05 : YP) (x2 : YF × YG × List YB) (c3 : Int × Int × ByteArray × Int) (w3 : List YC) (w4 : List YA) (w5 : List YB) : Option YJ :=
 Qa.tr5 Ik06 x2 c3 w3 w4 w5
theorem Qa.ptk05_29_eq (Ik06 : YN) (Lk05 : YP) (x2 : YF × YG × List YB) (c3 : Int × Int × ByteArray × Int) (w3 : List YC) (w4 : List YA) (w5 : List YB) : Qa.ptk05_29 Ik06 Lk05 x2 c3 w3 w4 w5 = Qa.gk05 Ik06 Lk05 x2 c3 w3 w4 w5 := by
 unfold Qa.ptk05_29 Qa.gk05
 simp only [Vi,Qa.tr1,Qa.tr5]
def Qa.ptk05_30 (Ik06 : YN) (Lk05 : YP) (x2 : YF × YG × List YB) (c3 : Int × Int × ByteArray × Int) (w3 : List YC) (w4 : List YA) (w5 : List YB) : Option YJ :=
 Qa.tr16 Ik06 x2 c3 w3 w4 w5
theorem Qa.ptk05_30_eq (Ik06 : YN) (Lk05 : YP) (x2 : YF × YG × List YB) (c3 : Int × Int × ByteArray × Int) (w3 : List YC) (w4 : List YA) (w5 : List YB) : Qa.ptk05_30 Ik06 Lk05 x2 c3 w3 w4 w5 = Qa.gk05 Ik06 Lk05 x2 c3 w3 w4 w5 := by
 unfold Qa.ptk05_30 Qa.gk05
 simp only [Vi,Qa.tr1,Qa.tr5,Qa.tr11,Qa.tr16]
def Qa.ptk05_31 (Ik06 : YN) (Lk05 : YP) (x2 : YF × YG × List YB) (c3 : Int × Int × ByteArray × Int) (w3 : List YC) (w4 : List YA) (w5 : List YB) : Option YJ :=
 Qa.tr5 Ik06 x2 c3 w3 w4 w5
theorem Qa.ptk05_31_eq (Ik06 : YN) (Lk05 : YP) (x2 : YF × YG × List YB) (c3 : Int × Int × ByteArray × Int) (w3 : List YC) (w4 : List YA) (w5 : List YB) : Qa.ptk05_31 Ik06 Lk05 x2 c3 w3 w4 w5 = Qa.gk05 Ik06 Lk05 x2 c3 w3 w4 w5 := by
 unfold Qa.ptk05_31 Qa.gk05
 simp only [Vi,Qa.tr1,Qa.tr5]
set_option maxRecDepth 100000 in
theorem Qa.plk05_0 : Vc Qa.E Qa.Rk05 7 15 (Qa.psk05_11 x2 c3 w3 w4 w5) (Qa.pKk05 n x) = Qa.glk05 n x k x2 c3 w3 w4 w5 := by
 have h : Vc Qa.E Qa.Rk05 7 15 (Qa.psk05_11 x2 c3 w3 w4 w5) (Qa.pKk05 n x) = Qa.ptk05_0 (fun w2 w3 w4 w5 w6 w7 => Qa.LNk06 n x n (Qa.stk06 w2 w3 w4 w5 w6 w7)) (fun x2 c3 w3 w4 w5 => Qa.LNk05 n x k (Qa.stk05 x2 c3 w3 w4 w5)) x2 c3 w3 w4 w5 := by kernel_rfl
 rw [h,Qa.ptk05_0_eq]
 rfl
set_option maxRecDepth 100000 in
theorem Qa.plk05_1 : Vc Qa.E Qa.Rk05 6 47 (Qa.psk05_14 x2 c3 w3 w4 w5) (Qa.pKk05 n x) = Qa.glk05 n x k x2 c3 w3 w4 w5 := by
 have h : Vc Qa.E Qa.Rk05 6 47 (Qa.psk05_14 x2 c3 w3 w4 w5) (Qa.pKk05 n x) = Qa.ptk05_1 (fun w2 w3 w4 w5 w6 w7 => Qa.LNk06 n x n (Qa.stk06 w2 w3 w4 w5 w6 w7)) (fun x2 c3 w3 w4 w5 => Qa.LNk05 n x k (Qa.stk05 x2 c3 w3 w4 w5)) x2 c3 w3 w4 w5 := by kernel_rfl
 rw [h,Qa.ptk05_1_eq]
 rfl
set_option maxRecDepth 100000 in
theorem Qa.plk05_2 : Vc Qa.E Qa.Rk05 5 111 (Qa.psk05_17 x2 c3 w3 w4 w5) (Qa.pKk05 n x) = Qa.glk05 n x k x2 c3 w3 w4 w5 := by
 have h : Vc Qa.E Qa.Rk05 5 111 (Qa.psk05_17 x2 c3 w3 w4 w5) (Qa.pKk05 n x) = Qa.ptk05_2 (fun w2 w3 w4 w5 w6 w7 => Qa.LNk06 n x n (Qa.stk06 w2 w3 w4 w5 w6 w7)) (fun x2 c3 w3 w4 w5 => Qa.LNk05 n x k (Qa.stk05 x2 c3 w3 w4 w5)) x2 c3 w3 w4 w5 := by kernel_rfl
 rw [h,Qa.ptk05_2_eq]
 rfl
set_option maxRecDepth 100000 in
theorem Qa.plk05_3 : Vc Qa.E Qa.Rk05 5 615 (Qa.psk05_18 x2 c3 w3 w4 w5) (Qa.pKk05 n x) = Qa.glk05 n x k x2 c3 w3 w4 w5 := by
 have h : Vc Qa.E Qa.Rk05 5 615 (Qa.psk05_18 x2 c3 w3 w4 w5) (Qa.pKk05 n x) = Qa.ptk05_3 (fun w2 w3 w4 w5 w6 w7 => Qa.LNk06 n x n (Qa.stk06 w2 w3 w4 w5 w6 w7)) (fun x2 c3 w3 w4 w5 => Qa.LNk05 n x k (Qa.stk05 x2 c3 w3 w4 w5)) x2 c3 w3 w4 w5 := by kernel_rfl
 rw [h,Qa.ptk05_3_eq]
 rfl
set_option maxRecDepth 100000 in
theorem Qa.pnk05_4_3 : ∀ F : St → Option YJ,step1 Qa.E Qa.Rk05 (Qa.psk05_15 x2 c3 w3 w4 w5) F 3 = F (Qa.psk05_17 x2 c3 w3 w4 w5) := by
 intro F
 kernel_rfl
set_option maxRecDepth 100000 in
theorem Qa.pnk05_4_9 : ∀ F : St → Option YJ,step1 Qa.E Qa.Rk05 (Qa.psk05_15 x2 c3 w3 w4 w5) F 9 = F (Qa.psk05_18 x2 c3 w3 w4 w5) := by
 intro F
 kernel_rfl
set_option maxRecDepth 100000 in
theorem Qa.pnk05_4_a : restM Qa.E Qa.Rk05 103 = false ∧ rdyM Qa.Rk05 103 = [3,9] ∧ Vp Qa.Rk05 103 [3,9] = none := by
 refine ⟨by kernel_rfl,by kernel_rfl,by kernel_rfl⟩
theorem Qa.pnk05_4 : Vc Qa.E Qa.Rk05 6 103 (Qa.psk05_15 x2 c3 w3 w4 w5) (Qa.pKk05 n x) = Qa.glk05 n x k x2 c3 w3 w4 w5 :=
  (Vl Qa.pnk05_4_a).trans (Vk (by
    intro i hi
    simp only [List.mem_cons,List.not_mem_nil,or_false] at hi
    rcases hi with rfl | rfl
    · exact (Qa.pnk05_4_3 x2 c3 w3 w4 w5 _).trans (Qa.plk05_2 n x k x2 c3 w3 w4 w5)
    · exact (Qa.pnk05_4_9 x2 c3 w3 w4 w5 _).trans (Qa.plk05_3 n x k x2 c3 w3 w4 w5)) )
set_option maxRecDepth 100000 in
theorem Qa.plk05_4 : Vc Qa.E Qa.Rk05 5 559 (Qa.psk05_19 x2 c3 w3 w4 w5) (Qa.pKk05 n x) = Qa.glk05 n x k x2 c3 w3 w4 w5 := by
 have h : Vc Qa.E Qa.Rk05 5 559 (Qa.psk05_19 x2 c3 w3 w4 w5) (Qa.pKk05 n x) = Qa.ptk05_4 (fun w2 w3 w4 w5 w6 w7 => Qa.LNk06 n x n (Qa.stk06 w2 w3 w4 w5 w6 w7)) (fun x2 c3 w3 w4 w5 => Qa.LNk05 n x k (Qa.stk05 x2 c3 w3 w4 w5)) x2 c3 w3 w4 w5 := by kernel_rfl
 rw [h,Qa.ptk05_4_eq]
 rfl
set_option maxRecDepth 100000 in
theorem Qa.plk05_5 : Vc Qa.E Qa.Rk05 5 615 (Qa.psk05_20 x2 c3 w3 w4 w5) (Qa.pKk05 n x) = Qa.glk05 n x k x2 c3 w3 w4 w5 := by
 have h : Vc Qa.E Qa.Rk05 5 615 (Qa.psk05_20 x2 c3 w3 w4 w5) (Qa.pKk05 n x) = Qa.ptk05_5 (fun w2 w3 w4 w5 w6 w7 => Qa.LNk06 n x n (Qa.stk06 w2 w3 w4 w5 w6 w7)) (fun x2 c3 w3 w4 w5 => Qa.LNk05 n x k (Qa.stk05 x2 c3 w3 w4 w5)) x2 c3 w3 w4 w5 := by kernel_rfl
 rw [h,Qa.ptk05_5_eq]
 rfl
set_option maxRecDepth 100000 in
theorem Qa.pnk05_7_3 : ∀ F : St → Option YJ,step1 Qa.E Qa.Rk05 (Qa.psk05_16 x2 c3 w3 w4 w5) F 3 = F (Qa.psk05_19 x2 c3 w3 w4 w5) := by
 intro F
 kernel_rfl
set_option maxRecDepth 100000 in
theorem Qa.pnk05_7_6 : ∀ F : St → Option YJ,step1 Qa.E Qa.Rk05 (Qa.psk05_16 x2 c3 w3 w4 w5) F 6 = F (Qa.psk05_20 x2 c3 w3 w4 w5) := by
 intro F
 kernel_rfl
set_option maxRecDepth 100000 in
theorem Qa.pnk05_7_a : restM Qa.E Qa.Rk05 551 = false ∧ rdyM Qa.Rk05 551 = [3,6] ∧ Vp Qa.Rk05 551 [3,6] = none := by
 refine ⟨by kernel_rfl,by kernel_rfl,by kernel_rfl⟩
theorem Qa.pnk05_7 : Vc Qa.E Qa.Rk05 6 551 (Qa.psk05_16 x2 c3 w3 w4 w5) (Qa.pKk05 n x) = Qa.glk05 n x k x2 c3 w3 w4 w5 :=
  (Vl Qa.pnk05_7_a).trans (Vk (by
    intro i hi
    simp only [List.mem_cons,List.not_mem_nil,or_false] at hi
    rcases hi with rfl | rfl
    · exact (Qa.pnk05_7_3 x2 c3 w3 w4 w5 _).trans (Qa.plk05_4 n x k x2 c3 w3 w4 w5)
    · exact (Qa.pnk05_7_6 x2 c3 w3 w4 w5 _).trans (Qa.plk05_5 n x k x2 c3 w3 w4 w5)) )
set_option maxRecDepth 100000 in
theorem Qa.pnk05_8_3 : ∀ F : St → Option YJ,step1 Qa.E Qa.Rk05 (Qa.psk05_12 x2 c3 w3 w4 w5) F 3 = F (Qa.psk05_14 x2 c3 w3 w4 w5) := by
 intro F
 kernel_rfl
set_option maxRecDepth 100000 in
theorem Qa.pnk05_8_6 : ∀ F : St → Option YJ,step1 Qa.E Qa.Rk05 (Qa.psk05_12 x2 c3 w3 w4 w5) F 6 = F (Qa.psk05_15 x2 c3 w3 w4 w5) := by
 intro F
 kernel_rfl
set_option maxRecDepth 100000 in
theorem Qa.pnk05_8_9 : ∀ F : St → Option YJ,step1 Qa.E Qa.Rk05 (Qa.psk05_12 x2 c3 w3 w4 w5) F 9 = F (Qa.psk05_16 x2 c3 w3 w4 w5) := by
 intro F
 kernel_rfl
set_option maxRecDepth 100000 in
theorem Qa.pnk05_8_a : restM Qa.E Qa.Rk05 39 = false ∧ rdyM Qa.Rk05 39 = [3,6,9] ∧ Vp Qa.Rk05 39 [3,6,9] = none := by
 refine ⟨by kernel_rfl,by kernel_rfl,by kernel_rfl⟩
theorem Qa.pnk05_8 : Vc Qa.E Qa.Rk05 7 39 (Qa.psk05_12 x2 c3 w3 w4 w5) (Qa.pKk05 n x) = Qa.glk05 n x k x2 c3 w3 w4 w5 :=
  (Vl Qa.pnk05_8_a).trans (Vk (by
    intro i hi
    simp only [List.mem_cons,List.not_mem_nil,or_false] at hi
    rcases hi with rfl | rfl | rfl
    · exact (Qa.pnk05_8_3 x2 c3 w3 w4 w5 _).trans (Qa.plk05_1 n x k x2 c3 w3 w4 w5)
    · exact (Qa.pnk05_8_6 x2 c3 w3 w4 w5 _).trans (Qa.pnk05_4 n x k x2 c3 w3 w4 w5)
    · exact (Qa.pnk05_8_9 x2 c3 w3 w4 w5 _).trans (Qa.pnk05_7 n x k x2 c3 w3 w4 w5)) )
set_option maxRecDepth 100000 in
theorem Qa.plk05_6 : Vc Qa.E Qa.Rk05 6 527 (Qa.psk05_21 x2 c3 w3 w4 w5) (Qa.pKk05 n x) = Qa.glk05 n x k x2 c3 w3 w4 w5 := by
 have h : Vc Qa.E Qa.Rk05 6 527 (Qa.psk05_21 x2 c3 w3 w4 w5) (Qa.pKk05 n x) = Qa.ptk05_6 (fun w2 w3 w4 w5 w6 w7 => Qa.LNk06 n x n (Qa.stk06 w2 w3 w4 w5 w6 w7)) (fun x2 c3 w3 w4 w5 => Qa.LNk05 n x k (Qa.stk05 x2 c3 w3 w4 w5)) x2 c3 w3 w4 w5 := by kernel_rfl
 rw [h,Qa.ptk05_6_eq]
 rfl
set_option maxRecDepth 100000 in
theorem Qa.pnk05_10_3 : ∀ F : St → Option YJ,step1 Qa.E Qa.Rk05 (Qa.psk05_13 x2 c3 w3 w4 w5) F 3 = F (Qa.psk05_21 x2 c3 w3 w4 w5) := by
 intro F
 kernel_rfl
set_option maxRecDepth 100000 in
theorem Qa.pnk05_10_5 : ∀ F : St → Option YJ,step1 Qa.E Qa.Rk05 (Qa.psk05_13 x2 c3 w3 w4 w5) F 5 = F (Qa.psk05_16 x2 c3 w3 w4 w5) := by
 intro F
 kernel_rfl
set_option maxRecDepth 100000 in
theorem Qa.pnk05_10_a : restM Qa.E Qa.Rk05 519 = false ∧ rdyM Qa.Rk05 519 = [3,5] ∧ Vp Qa.Rk05 519 [3,5] = none := by
 refine ⟨by kernel_rfl,by kernel_rfl,by kernel_rfl⟩
theorem Qa.pnk05_10 : Vc Qa.E Qa.Rk05 7 519 (Qa.psk05_13 x2 c3 w3 w4 w5) (Qa.pKk05 n x) = Qa.glk05 n x k x2 c3 w3 w4 w5 :=
  (Vl Qa.pnk05_10_a).trans (Vk (by
    intro i hi
    simp only [List.mem_cons,List.not_mem_nil,or_false] at hi
    rcases hi with rfl | rfl
    · exact (Qa.pnk05_10_3 x2 c3 w3 w4 w5 _).trans (Qa.plk05_6 n x k x2 c3 w3 w4 w5)
    · exact (Qa.pnk05_10_5 x2 c3 w3 w4 w5 _).trans (Qa.pnk05_7 n x k x2 c3 w3 w4 w5)) )
set_option maxRecDepth 100000 in
theorem Qa.pnk05_11_3 : ∀ F : St → Option YJ,step1 Qa.E Qa.Rk05 (Qa.psk05_7 x2 c3 w3 w4 w5) F 3 = F (Qa.psk05_11 x2 c3 w3 w4 w5) := by
 intro F
 kernel_rfl
set_option maxRecDepth 100000 in
theorem Qa.pnk05_11_5 : ∀ F : St → Option YJ,step1 Qa.E Qa.Rk05 (Qa.psk05_7 x2 c3 w3 w4 w5) F 5 = F (Qa.psk05_12 x2 c3 w3 w4 w5) := by
 intro F
 kernel_rfl
set_option maxRecDepth 100000 in
theorem Qa.pnk05_11_9 : ∀ F : St → Option YJ,step1 Qa.E Qa.Rk05 (Qa.psk05_7 x2 c3 w3 w4 w5) F 9 = F (Qa.psk05_13 x2 c3 w3 w4 w5) := by
 intro F
 kernel_rfl
set_option maxRecDepth 100000 in
theorem Qa.pnk05_11_a : restM Qa.E Qa.Rk05 7 = false ∧ rdyM Qa.Rk05 7 = [3,5,9] ∧ Vp Qa.Rk05 7 [3,5,9] = none := by
 refine ⟨by kernel_rfl,by kernel_rfl,by kernel_rfl⟩
theorem Qa.pnk05_11 : Vc Qa.E Qa.Rk05 8 7 (Qa.psk05_7 x2 c3 w3 w4 w5) (Qa.pKk05 n x) = Qa.glk05 n x k x2 c3 w3 w4 w5 :=
  (Vl Qa.pnk05_11_a).trans (Vk (by
    intro i hi
    simp only [List.mem_cons,List.not_mem_nil,or_false] at hi
    rcases hi with rfl | rfl | rfl
    · exact (Qa.pnk05_11_3 x2 c3 w3 w4 w5 _).trans (Qa.plk05_0 n x k x2 c3 w3 w4 w5)
    · exact (Qa.pnk05_11_5 x2 c3 w3 w4 w5 _).trans (Qa.pnk05_8 n x k x2 c3 w3 w4 w5)
    · exact (Qa.pnk05_11_9 x2 c3 w3 w4 w5 _).trans (Qa.pnk05_10 n x k x2 c3 w3 w4 w5)) )
set_option maxRecDepth 100000 in
theorem Qa.plk05_7 : Vc Qa.E Qa.Rk05 5 111 (Qa.psk05_26 x2 c3 w3 w4 w5) (Qa.pKk05 n x) = Qa.glk05 n x k x2 c3 w3 w4 w5 := by
 have h : Vc Qa.E Qa.Rk05 5 111 (Qa.psk05_26 x2 c3 w3 w4 w5) (Qa.pKk05 n x) = Qa.ptk05_7 (fun w2 w3 w4 w5 w6 w7 => Qa.LNk06 n x n (Qa.stk06 w2 w3 w4 w5 w6 w7)) (fun x2 c3 w3 w4 w5 => Qa.LNk05 n x k (Qa.stk05 x2 c3 w3 w4 w5)) x2 c3 w3 w4 w5 := by kernel_rfl
 rw [h,Qa.ptk05_7_eq]
 rfl
set_option maxRecDepth 100000 in
theorem Qa.plk05_8 : Vc Qa.E Qa.Rk05 5 621 (Qa.psk05_27 x2 c3 w3 w4 w5) (Qa.pKk05 n x) = Qa.glk05 n x k x2 c3 w3 w4 w5 := by
 have h : Vc Qa.E Qa.Rk05 5 621 (Qa.psk05_27 x2 c3 w3 w4 w5) (Qa.pKk05 n x) = Qa.ptk05_8 (fun w2 w3 w4 w5 w6 w7 => Qa.LNk06 n x n (Qa.stk06 w2 w3 w4 w5 w6 w7)) (fun x2 c3 w3 w4 w5 => Qa.LNk05 n x k (Qa.stk05 x2 c3 w3 w4 w5)) x2 c3 w3 w4 w5 := by kernel_rfl
 rw [h,Qa.ptk05_8_eq]
 rfl
set_option maxRecDepth 100000 in
theorem Qa.pnk05_14_1 : ∀ F : St → Option YJ,step1 Qa.E Qa.Rk05 (Qa.psk05_24 x2 c3 w3 w4 w5) F 1 = F (Qa.psk05_26 x2 c3 w3 w4 w5) := by
 intro F
 kernel_rfl
set_option maxRecDepth 100000 in
theorem Qa.pnk05_14_9 : ∀ F : St → Option YJ,step1 Qa.E Qa.Rk05 (Qa.psk05_24 x2 c3 w3 w4 w5) F 9 = F (Qa.psk05_27 x2 c3 w3 w4 w5) := by
 intro F
 kernel_rfl
set_option maxRecDepth 100000 in
theorem Qa.pnk05_14_a : restM Qa.E Qa.Rk05 109 = false ∧ rdyM Qa.Rk05 109 = [1,9] ∧ Vp Qa.Rk05 109 [1,9] = none := by
 refine ⟨by kernel_rfl,by kernel_rfl,by kernel_rfl⟩
theorem Qa.pnk05_14 : Vc Qa.E Qa.Rk05 6 109 (Qa.psk05_24 x2 c3 w3 w4 w5) (Qa.pKk05 n x) = Qa.glk05 n x k x2 c3 w3 w4 w5 :=
  (Vl Qa.pnk05_14_a).trans (Vk (by
    intro i hi
    simp only [List.mem_cons,List.not_mem_nil,or_false] at hi
    rcases hi with rfl | rfl
    · exact (Qa.pnk05_14_1 x2 c3 w3 w4 w5 _).trans (Qa.plk05_7 n x k x2 c3 w3 w4 w5)
    · exact (Qa.pnk05_14_9 x2 c3 w3 w4 w5 _).trans (Qa.plk05_8 n x k x2 c3 w3 w4 w5)) )
set_option maxRecDepth 100000 in
theorem Qa.plk05_9 : Vc Qa.E Qa.Rk05 5 559 (Qa.psk05_28 x2 c3 w3 w4 w5) (Qa.pKk05 n x) = Qa.glk05 n x k x2 c3 w3 w4 w5 := by
 have h : Vc Qa.E Qa.Rk05 5 559 (Qa.psk05_28 x2 c3 w3 w4 w5) (Qa.pKk05 n x) = Qa.ptk05_9 (fun w2 w3 w4 w5 w6 w7 => Qa.LNk06 n x n (Qa.stk06 w2 w3 w4 w5 w6 w7)) (fun x2 c3 w3 w4 w5 => Qa.LNk05 n x k (Qa.stk05 x2 c3 w3 w4 w5)) x2 c3 w3 w4 w5 := by kernel_rfl
 rw [h,Qa.ptk05_9_eq]
 rfl
set_option maxRecDepth 100000 in
theorem Qa.plk05_10 : Vc Qa.E Qa.Rk05 5 621 (Qa.psk05_29 x2 c3 w3 w4 w5) (Qa.pKk05 n x) = Qa.glk05 n x k x2 c3 w3 w4 w5 := by
 have h : Vc Qa.E Qa.Rk05 5 621 (Qa.psk05_29 x2 c3 w3 w4 w5) (Qa.pKk05 n x) = Qa.ptk05_10 (fun w2 w3 w4 w5 w6 w7 => Qa.LNk06 n x n (Qa.stk06 w2 w3 w4 w5 w6 w7)) (fun x2 c3 w3 w4 w5 => Qa.LNk05 n x k (Qa.stk05 x2 c3 w3 w4 w5)) x2 c3 w3 w4 w5 := by kernel_rfl
 rw [h,Qa.ptk05_10_eq]
 rfl
set_option maxRecDepth 100000 in
theorem Qa.pnk05_17_1 : ∀ F : St → Option YJ,step1 Qa.E Qa.Rk05 (Qa.psk05_25 x2 c3 w3 w4 w5) F 1 = F (Qa.psk05_28 x2 c3 w3 w4 w5) := by
 intro F
 kernel_rfl
set_option maxRecDepth 100000 in
theorem Qa.pnk05_17_6 : ∀ F : St → Option YJ,step1 Qa.E Qa.Rk05 (Qa.psk05_25 x2 c3 w3 w4 w5) F 6 = F (Qa.psk05_29 x2 c3 w3 w4 w5) := by
 intro F
 kernel_rfl
set_option maxRecDepth 100000 in
theorem Qa.pnk05_17_a : restM Qa.E Qa.Rk05 557 = false ∧ rdyM Qa.Rk05 557 = [1,6] ∧ Vp Qa.Rk05 557 [1,6] = none := by
 refine ⟨by kernel_rfl,by kernel_rfl,by kernel_rfl⟩
theorem Qa.pnk05_17 : Vc Qa.E Qa.Rk05 6 557 (Qa.psk05_25 x2 c3 w3 w4 w5) (Qa.pKk05 n x) = Qa.glk05 n x k x2 c3 w3 w4 w5 :=
  (Vl Qa.pnk05_17_a).trans (Vk (by
    intro i hi
    simp only [List.mem_cons,List.not_mem_nil,or_false] at hi
    rcases hi with rfl | rfl
    · exact (Qa.pnk05_17_1 x2 c3 w3 w4 w5 _).trans (Qa.plk05_9 n x k x2 c3 w3 w4 w5)
    · exact (Qa.pnk05_17_6 x2 c3 w3 w4 w5 _).trans (Qa.plk05_10 n x k x2 c3 w3 w4 w5)) )
set_option maxRecDepth 100000 in
theorem Qa.pnk05_18_1 : ∀ F : St → Option YJ,step1 Qa.E Qa.Rk05 (Qa.psk05_22 x2 c3 w3 w4 w5) F 1 = F (Qa.psk05_14 x2 c3 w3 w4 w5) := by
 intro F
 kernel_rfl
set_option maxRecDepth 100000 in
theorem Qa.pnk05_18_6 : ∀ F : St → Option YJ,step1 Qa.E Qa.Rk05 (Qa.psk05_22 x2 c3 w3 w4 w5) F 6 = F (Qa.psk05_24 x2 c3 w3 w4 w5) := by
 intro F
 kernel_rfl
set_option maxRecDepth 100000 in
theorem Qa.pnk05_18_9 : ∀ F : St → Option YJ,step1 Qa.E Qa.Rk05 (Qa.psk05_22 x2 c3 w3 w4 w5) F 9 = F (Qa.psk05_25 x2 c3 w3 w4 w5) := by
 intro F
 kernel_rfl
set_option maxRecDepth 100000 in
theorem Qa.pnk05_18_a : restM Qa.E Qa.Rk05 45 = false ∧ rdyM Qa.Rk05 45 = [1,6,9] ∧ Vp Qa.Rk05 45 [1,6,9] = none := by
 refine ⟨by kernel_rfl,by kernel_rfl,by kernel_rfl⟩
theorem Qa.pnk05_18 : Vc Qa.E Qa.Rk05 7 45 (Qa.psk05_22 x2 c3 w3 w4 w5) (Qa.pKk05 n x) = Qa.glk05 n x k x2 c3 w3 w4 w5 :=
  (Vl Qa.pnk05_18_a).trans (Vk (by
    intro i hi
    simp only [List.mem_cons,List.not_mem_nil,or_false] at hi
    rcases hi with rfl | rfl | rfl
    · exact (Qa.pnk05_18_1 x2 c3 w3 w4 w5 _).trans (Qa.plk05_1 n x k x2 c3 w3 w4 w5)
    · exact (Qa.pnk05_18_6 x2 c3 w3 w4 w5 _).trans (Qa.pnk05_14 n x k x2 c3 w3 w4 w5)
    · exact (Qa.pnk05_18_9 x2 c3 w3 w4 w5 _).trans (Qa.pnk05_17 n x k x2 c3 w3 w4 w5)) )
set_option maxRecDepth 100000 in
theorem Qa.plk05_11 : Vc Qa.E Qa.Rk05 6 527 (Qa.psk05_30 x2 c3 w3 w4 w5) (Qa.pKk05 n x) = Qa.glk05 n x k x2 c3 w3 w4 w5 := by
 have h : Vc Qa.E Qa.Rk05 6 527 (Qa.psk05_30 x2 c3 w3 w4 w5) (Qa.pKk05 n x) = Qa.ptk05_11 (fun w2 w3 w4 w5 w6 w7 => Qa.LNk06 n x n (Qa.stk06 w2 w3 w4 w5 w6 w7)) (fun x2 c3 w3 w4 w5 => Qa.LNk05 n x k (Qa.stk05 x2 c3 w3 w4 w5)) x2 c3 w3 w4 w5 := by kernel_rfl
 rw [h,Qa.ptk05_11_eq]
 rfl
set_option maxRecDepth 100000 in
theorem Qa.pnk05_20_1 : ∀ F : St → Option YJ,step1 Qa.E Qa.Rk05 (Qa.psk05_23 x2 c3 w3 w4 w5) F 1 = F (Qa.psk05_30 x2 c3 w3 w4 w5) := by
 intro F
 kernel_rfl
set_option maxRecDepth 100000 in
theorem Qa.pnk05_20_5 : ∀ F : St → Option YJ,step1 Qa.E Qa.Rk05 (Qa.psk05_23 x2 c3 w3 w4 w5) F 5 = F (Qa.psk05_25 x2 c3 w3 w4 w5) := by
 intro F
 kernel_rfl
set_option maxRecDepth 100000 in
theorem Qa.pnk05_20_a : restM Qa.E Qa.Rk05 525 = false ∧ rdyM Qa.Rk05 525 = [1,5] ∧ Vp Qa.Rk05 525 [1,5] = none := by
 refine ⟨by kernel_rfl,by kernel_rfl,by kernel_rfl⟩
theorem Qa.pnk05_20 : Vc Qa.E Qa.Rk05 7 525 (Qa.psk05_23 x2 c3 w3 w4 w5) (Qa.pKk05 n x) = Qa.glk05 n x k x2 c3 w3 w4 w5 :=
  (Vl Qa.pnk05_20_a).trans (Vk (by
    intro i hi
    simp only [List.mem_cons,List.not_mem_nil,or_false] at hi
    rcases hi with rfl | rfl
    · exact (Qa.pnk05_20_1 x2 c3 w3 w4 w5 _).trans (Qa.plk05_11 n x k x2 c3 w3 w4 w5)
    · exact (Qa.pnk05_20_5 x2 c3 w3 w4 w5 _).trans (Qa.pnk05_17 n x k x2 c3 w3 w4 w5)) )
set_option maxRecDepth 100000 in
theorem Qa.pnk05_21_1 : ∀ F : St → Option YJ,step1 Qa.E Qa.Rk05 (Qa.psk05_8 x2 c3 w3 w4 w5) F 1 = F (Qa.psk05_11 x2 c3 w3 w4 w5) := by
 intro F
 kernel_rfl
set_option maxRecDepth 100000 in
theorem Qa.pnk05_21_5 : ∀ F : St → Option YJ,step1 Qa.E Qa.Rk05 (Qa.psk05_8 x2 c3 w3 w4 w5) F 5 = F (Qa.psk05_22 x2 c3 w3 w4 w5) := by
 intro F
 kernel_rfl
set_option maxRecDepth 100000 in
theorem Qa.pnk05_21_9 : ∀ F : St → Option YJ,step1 Qa.E Qa.Rk05 (Qa.psk05_8 x2 c3 w3 w4 w5) F 9 = F (Qa.psk05_23 x2 c3 w3 w4 w5) := by
 intro F
 kernel_rfl
set_option maxRecDepth 100000 in
theorem Qa.pnk05_21_a : restM Qa.E Qa.Rk05 13 = false ∧ rdyM Qa.Rk05 13 = [1,5,9] ∧ Vp Qa.Rk05 13 [1,5,9] = none := by
 refine ⟨by kernel_rfl,by kernel_rfl,by kernel_rfl⟩
theorem Qa.pnk05_21 : Vc Qa.E Qa.Rk05 8 13 (Qa.psk05_8 x2 c3 w3 w4 w5) (Qa.pKk05 n x) = Qa.glk05 n x k x2 c3 w3 w4 w5 :=
  (Vl Qa.pnk05_21_a).trans (Vk (by
    intro i hi
    simp only [List.mem_cons,List.not_mem_nil,or_false] at hi
    rcases hi with rfl | rfl | rfl
    · exact (Qa.pnk05_21_1 x2 c3 w3 w4 w5 _).trans (Qa.plk05_0 n x k x2 c3 w3 w4 w5)
    · exact (Qa.pnk05_21_5 x2 c3 w3 w4 w5 _).trans (Qa.pnk05_18 n x k x2 c3 w3 w4 w5)
    · exact (Qa.pnk05_21_9 x2 c3 w3 w4 w5 _).trans (Qa.pnk05_20 n x k x2 c3 w3 w4 w5)) )
set_option maxRecDepth 100000 in
theorem Qa.plk05_12 : Vc Qa.E Qa.Rk05 5 615 (Qa.psk05_35 x2 c3 w3 w4 w5) (Qa.pKk05 n x) = Qa.glk05 n x k x2 c3 w3 w4 w5 := by
 have h : Vc Qa.E Qa.Rk05 5 615 (Qa.psk05_35 x2 c3 w3 w4 w5) (Qa.pKk05 n x) = Qa.ptk05_12 (fun w2 w3 w4 w5 w6 w7 => Qa.LNk06 n x n (Qa.stk06 w2 w3 w4 w5 w6 w7)) (fun x2 c3 w3 w4 w5 => Qa.LNk05 n x k (Qa.stk05 x2 c3 w3 w4 w5)) x2 c3 w3 w4 w5 := by kernel_rfl
 rw [h,Qa.ptk05_12_eq]
 rfl
set_option maxRecDepth 100000 in
theorem Qa.pnk05_23_3 : ∀ F : St → Option YJ,step1 Qa.E Qa.Rk05 (Qa.psk05_33 x2 c3 w3 w4 w5) F 3 = F (Qa.psk05_26 x2 c3 w3 w4 w5) := by
 intro F
 kernel_rfl
set_option maxRecDepth 100000 in
theorem Qa.pnk05_23_9 : ∀ F : St → Option YJ,step1 Qa.E Qa.Rk05 (Qa.psk05_33 x2 c3 w3 w4 w5) F 9 = F (Qa.psk05_35 x2 c3 w3 w4 w5) := by
 intro F
 kernel_rfl
set_option maxRecDepth 100000 in
theorem Qa.pnk05_23_a : restM Qa.E Qa.Rk05 103 = false ∧ rdyM Qa.Rk05 103 = [3,9] ∧ Vp Qa.Rk05 103 [3,9] = none := by
 refine ⟨by kernel_rfl,by kernel_rfl,by kernel_rfl⟩
theorem Qa.pnk05_23 : Vc Qa.E Qa.Rk05 6 103 (Qa.psk05_33 x2 c3 w3 w4 w5) (Qa.pKk05 n x) = Qa.glk05 n x k x2 c3 w3 w4 w5 :=
  (Vl Qa.pnk05_23_a).trans (Vk (by
    intro i hi
    simp only [List.mem_cons,List.not_mem_nil,or_false] at hi
    rcases hi with rfl | rfl
    · exact (Qa.pnk05_23_3 x2 c3 w3 w4 w5 _).trans (Qa.plk05_7 n x k x2 c3 w3 w4 w5)
    · exact (Qa.pnk05_23_9 x2 c3 w3 w4 w5 _).trans (Qa.plk05_12 n x k x2 c3 w3 w4 w5)) )
set_option maxRecDepth 100000 in
theorem Qa.plk05_13 : Vc Qa.E Qa.Rk05 6 613 (Qa.psk05_34 x2 c3 w3 w4 w5) (Qa.pKk05 n x) = Qa.glk05 n x k x2 c3 w3 w4 w5 := by
 have h : Vc Qa.E Qa.Rk05 6 613 (Qa.psk05_34 x2 c3 w3 w4 w5) (Qa.pKk05 n x) = Qa.ptk05_13 (fun w2 w3 w4 w5 w6 w7 => Qa.LNk06 n x n (Qa.stk06 w2 w3 w4 w5 w6 w7)) (fun x2 c3 w3 w4 w5 => Qa.LNk05 n x k (Qa.stk05 x2 c3 w3 w4 w5)) x2 c3 w3 w4 w5 := by kernel_rfl
 rw [h,Qa.ptk05_13_eq]
 rfl
set_option maxRecDepth 100000 in
theorem Qa.pnk05_25_1 : ∀ F : St → Option YJ,step1 Qa.E Qa.Rk05 (Qa.psk05_31 x2 c3 w3 w4 w5) F 1 = F (Qa.psk05_33 x2 c3 w3 w4 w5) := by
 intro F
 kernel_rfl
set_option maxRecDepth 100000 in
theorem Qa.pnk05_25_3 : ∀ F : St → Option YJ,step1 Qa.E Qa.Rk05 (Qa.psk05_31 x2 c3 w3 w4 w5) F 3 = F (Qa.psk05_24 x2 c3 w3 w4 w5) := by
 intro F
 kernel_rfl
set_option maxRecDepth 100000 in
theorem Qa.pnk05_25_9 : ∀ F : St → Option YJ,step1 Qa.E Qa.Rk05 (Qa.psk05_31 x2 c3 w3 w4 w5) F 9 = F (Qa.psk05_34 x2 c3 w3 w4 w5) := by
 intro F
 kernel_rfl
set_option maxRecDepth 100000 in
theorem Qa.pnk05_25_a : restM Qa.E Qa.Rk05 101 = false ∧ rdyM Qa.Rk05 101 = [1,3,9] ∧ Vp Qa.Rk05 101 [1,3,9] = none := by
 refine ⟨by kernel_rfl,by kernel_rfl,by kernel_rfl⟩
theorem Qa.pnk05_25 : Vc Qa.E Qa.Rk05 7 101 (Qa.psk05_31 x2 c3 w3 w4 w5) (Qa.pKk05 n x) = Qa.glk05 n x k x2 c3 w3 w4 w5 :=
  (Vl Qa.pnk05_25_a).trans (Vk (by
    intro i hi
    simp only [List.mem_cons,List.not_mem_nil,or_false] at hi
    rcases hi with rfl | rfl | rfl
    · exact (Qa.pnk05_25_1 x2 c3 w3 w4 w5 _).trans (Qa.pnk05_23 n x k x2 c3 w3 w4 w5)
    · exact (Qa.pnk05_25_3 x2 c3 w3 w4 w5 _).trans (Qa.pnk05_14 n x k x2 c3 w3 w4 w5)
    · exact (Qa.pnk05_25_9 x2 c3 w3 w4 w5 _).trans (Qa.plk05_13 n x k x2 c3 w3 w4 w5)) )
set_option maxRecDepth 100000 in
theorem Qa.plk05_14 : Vc Qa.E Qa.Rk05 5 615 (Qa.psk05_38 x2 c3 w3 w4 w5) (Qa.pKk05 n x) = Qa.glk05 n x k x2 c3 w3 w4 w5 := by
 have h : Vc Qa.E Qa.Rk05 5 615 (Qa.psk05_38 x2 c3 w3 w4 w5) (Qa.pKk05 n x) = Qa.ptk05_14 (fun w2 w3 w4 w5 w6 w7 => Qa.LNk06 n x n (Qa.stk06 w2 w3 w4 w5 w6 w7)) (fun x2 c3 w3 w4 w5 => Qa.LNk05 n x k (Qa.stk05 x2 c3 w3 w4 w5)) x2 c3 w3 w4 w5 := by kernel_rfl
 rw [h,Qa.ptk05_14_eq]
 rfl
set_option maxRecDepth 100000 in
theorem Qa.pnk05_27_3 : ∀ F : St → Option YJ,step1 Qa.E Qa.Rk05 (Qa.psk05_36 x2 c3 w3 w4 w5) F 3 = F (Qa.psk05_28 x2 c3 w3 w4 w5) := by
 intro F
 kernel_rfl
set_option maxRecDepth 100000 in
theorem Qa.pnk05_27_6 : ∀ F : St → Option YJ,step1 Qa.E Qa.Rk05 (Qa.psk05_36 x2 c3 w3 w4 w5) F 6 = F (Qa.psk05_38 x2 c3 w3 w4 w5) := by
 intro F
 kernel_rfl
set_option maxRecDepth 100000 in
theorem Qa.pnk05_27_a : restM Qa.E Qa.Rk05 551 = false ∧ rdyM Qa.Rk05 551 = [3,6] ∧ Vp Qa.Rk05 551 [3,6] = none := by
 refine ⟨by kernel_rfl,by kernel_rfl,by kernel_rfl⟩
theorem Qa.pnk05_27 : Vc Qa.E Qa.Rk05 6 551 (Qa.psk05_36 x2 c3 w3 w4 w5) (Qa.pKk05 n x) = Qa.glk05 n x k x2 c3 w3 w4 w5 :=
  (Vl Qa.pnk05_27_a).trans (Vk (by
    intro i hi
    simp only [List.mem_cons,List.not_mem_nil,or_false] at hi
    rcases hi with rfl | rfl
    · exact (Qa.pnk05_27_3 x2 c3 w3 w4 w5 _).trans (Qa.plk05_9 n x k x2 c3 w3 w4 w5)
    · exact (Qa.pnk05_27_6 x2 c3 w3 w4 w5 _).trans (Qa.plk05_14 n x k x2 c3 w3 w4 w5)) )
set_option maxRecDepth 100000 in
theorem Qa.plk05_15 : Vc Qa.E Qa.Rk05 6 613 (Qa.psk05_37 x2 c3 w3 w4 w5) (Qa.pKk05 n x) = Qa.glk05 n x k x2 c3 w3 w4 w5 := by
 have h : Vc Qa.E Qa.Rk05 6 613 (Qa.psk05_37 x2 c3 w3 w4 w5) (Qa.pKk05 n x) = Qa.ptk05_15 (fun w2 w3 w4 w5 w6 w7 => Qa.LNk06 n x n (Qa.stk06 w2 w3 w4 w5 w6 w7)) (fun x2 c3 w3 w4 w5 => Qa.LNk05 n x k (Qa.stk05 x2 c3 w3 w4 w5)) x2 c3 w3 w4 w5 := by kernel_rfl
 rw [h,Qa.ptk05_15_eq]
 rfl
set_option maxRecDepth 100000 in
theorem Qa.pnk05_29_1 : ∀ F : St → Option YJ,step1 Qa.E Qa.Rk05 (Qa.psk05_32 x2 c3 w3 w4 w5) F 1 = F (Qa.psk05_36 x2 c3 w3 w4 w5) := by
 intro F
 kernel_rfl
set_option maxRecDepth 100000 in
theorem Qa.pnk05_29_3 : ∀ F : St → Option YJ,step1 Qa.E Qa.Rk05 (Qa.psk05_32 x2 c3 w3 w4 w5) F 3 = F (Qa.psk05_25 x2 c3 w3 w4 w5) := by
 intro F
 kernel_rfl
set_option maxRecDepth 100000 in
theorem Qa.pnk05_29_6 : ∀ F : St → Option YJ,step1 Qa.E Qa.Rk05 (Qa.psk05_32 x2 c3 w3 w4 w5) F 6 = F (Qa.psk05_37 x2 c3 w3 w4 w5) := by
 intro F
 kernel_rfl
set_option maxRecDepth 100000 in
theorem Qa.pnk05_29_a : restM Qa.E Qa.Rk05 549 = false ∧ rdyM Qa.Rk05 549 = [1,3,6] ∧ Vp Qa.Rk05 549 [1,3,6] = none := by
 refine ⟨by kernel_rfl,by kernel_rfl,by kernel_rfl⟩
theorem Qa.pnk05_29 : Vc Qa.E Qa.Rk05 7 549 (Qa.psk05_32 x2 c3 w3 w4 w5) (Qa.pKk05 n x) = Qa.glk05 n x k x2 c3 w3 w4 w5 :=
  (Vl Qa.pnk05_29_a).trans (Vk (by
    intro i hi
    simp only [List.mem_cons,List.not_mem_nil,or_false] at hi
    rcases hi with rfl | rfl | rfl
    · exact (Qa.pnk05_29_1 x2 c3 w3 w4 w5 _).trans (Qa.pnk05_27 n x k x2 c3 w3 w4 w5)
    · exact (Qa.pnk05_29_3 x2 c3 w3 w4 w5 _).trans (Qa.pnk05_17 n x k x2 c3 w3 w4 w5)
    · exact (Qa.pnk05_29_6 x2 c3 w3 w4 w5 _).trans (Qa.plk05_15 n x k x2 c3 w3 w4 w5)) )
set_option maxRecDepth 100000 in
theorem Qa.pnk05_30_1 : ∀ F : St → Option YJ,step1 Qa.E Qa.Rk05 (Qa.psk05_9 x2 c3 w3 w4 w5) F 1 = F (Qa.psk05_12 x2 c3 w3 w4 w5) := by
 intro F
 kernel_rfl
set_option maxRecDepth 100000 in
theorem Qa.pnk05_30_3 : ∀ F : St → Option YJ,step1 Qa.E Qa.Rk05 (Qa.psk05_9 x2 c3 w3 w4 w5) F 3 = F (Qa.psk05_22 x2 c3 w3 w4 w5) := by
 intro F
 kernel_rfl
set_option maxRecDepth 100000 in
theorem Qa.pnk05_30_6 : ∀ F : St → Option YJ,step1 Qa.E Qa.Rk05 (Qa.psk05_9 x2 c3 w3 w4 w5) F 6 = F (Qa.psk05_31 x2 c3 w3 w4 w5) := by
 intro F
 kernel_rfl
set_option maxRecDepth 100000 in
theorem Qa.pnk05_30_9 : ∀ F : St → Option YJ,step1 Qa.E Qa.Rk05 (Qa.psk05_9 x2 c3 w3 w4 w5) F 9 = F (Qa.psk05_32 x2 c3 w3 w4 w5) := by
 intro F
 kernel_rfl
set_option maxRecDepth 100000 in
theorem Qa.pnk05_30_a : restM Qa.E Qa.Rk05 37 = false ∧ rdyM Qa.Rk05 37 = [1,3,6,9] ∧ Vp Qa.Rk05 37 [1,3,6,9] = none := by
 refine ⟨by kernel_rfl,by kernel_rfl,by kernel_rfl⟩
theorem Qa.pnk05_30 : Vc Qa.E Qa.Rk05 8 37 (Qa.psk05_9 x2 c3 w3 w4 w5) (Qa.pKk05 n x) = Qa.glk05 n x k x2 c3 w3 w4 w5 :=
  (Vl Qa.pnk05_30_a).trans (Vk (by
    intro i hi
    simp only [List.mem_cons,List.not_mem_nil,or_false] at hi
    rcases hi with rfl | rfl | rfl | rfl
    · exact (Qa.pnk05_30_1 x2 c3 w3 w4 w5 _).trans (Qa.pnk05_8 n x k x2 c3 w3 w4 w5)
    · exact (Qa.pnk05_30_3 x2 c3 w3 w4 w5 _).trans (Qa.pnk05_18 n x k x2 c3 w3 w4 w5)
    · exact (Qa.pnk05_30_6 x2 c3 w3 w4 w5 _).trans (Qa.pnk05_25 n x k x2 c3 w3 w4 w5)
    · exact (Qa.pnk05_30_9 x2 c3 w3 w4 w5 _).trans (Qa.pnk05_29 n x k x2 c3 w3 w4 w5)) )
set_option maxRecDepth 100000 in
theorem Qa.pnk05_31_3 : ∀ F : St → Option YJ,step1 Qa.E Qa.Rk05 (Qa.psk05_39 x2 c3 w3 w4 w5) F 3 = F (Qa.psk05_30 x2 c3 w3 w4 w5) := by
 intro F
 kernel_rfl
set_option maxRecDepth 100000 in
theorem Qa.pnk05_31_5 : ∀ F : St → Option YJ,step1 Qa.E Qa.Rk05 (Qa.psk05_39 x2 c3 w3 w4 w5) F 5 = F (Qa.psk05_36 x2 c3 w3 w4 w5) := by
 intro F
 kernel_rfl
set_option maxRecDepth 100000 in
theorem Qa.pnk05_31_a : restM Qa.E Qa.Rk05 519 = false ∧ rdyM Qa.Rk05 519 = [3,5] ∧ Vp Qa.Rk05 519 [3,5] = none := by
 refine ⟨by kernel_rfl,by kernel_rfl,by kernel_rfl⟩
theorem Qa.pnk05_31 : Vc Qa.E Qa.Rk05 7 519 (Qa.psk05_39 x2 c3 w3 w4 w5) (Qa.pKk05 n x) = Qa.glk05 n x k x2 c3 w3 w4 w5 :=
  (Vl Qa.pnk05_31_a).trans (Vk (by
    intro i hi
    simp only [List.mem_cons,List.not_mem_nil,or_false] at hi
    rcases hi with rfl | rfl
    · exact (Qa.pnk05_31_3 x2 c3 w3 w4 w5 _).trans (Qa.plk05_11 n x k x2 c3 w3 w4 w5)
    · exact (Qa.pnk05_31_5 x2 c3 w3 w4 w5 _).trans (Qa.pnk05_27 n x k x2 c3 w3 w4 w5)) )
set_option maxRecDepth 100000 in
theorem Qa.pnk05_32_1 : ∀ F : St → Option YJ,step1 Qa.E Qa.Rk05 (Qa.psk05_10 x2 c3 w3 w4 w5) F 1 = F (Qa.psk05_39 x2 c3 w3 w4 w5) := by
 intro F
 kernel_rfl
set_option maxRecDepth 100000 in
theorem Qa.pnk05_32_3 : ∀ F : St → Option YJ,step1 Qa.E Qa.Rk05 (Qa.psk05_10 x2 c3 w3 w4 w5) F 3 = F (Qa.psk05_23 x2 c3 w3 w4 w5) := by
 intro F
 kernel_rfl
set_option maxRecDepth 100000 in
theorem Qa.pnk05_32_5 : ∀ F : St → Option YJ,step1 Qa.E Qa.Rk05 (Qa.psk05_10 x2 c3 w3 w4 w5) F 5 = F (Qa.psk05_32 x2 c3 w3 w4 w5) := by
 intro F
 kernel_rfl
set_option maxRecDepth 100000 in
theorem Qa.pnk05_32_a : restM Qa.E Qa.Rk05 517 = false ∧ rdyM Qa.Rk05 517 = [1,3,5] ∧ Vp Qa.Rk05 517 [1,3,5] = none := by
 refine ⟨by kernel_rfl,by kernel_rfl,by kernel_rfl⟩
theorem Qa.pnk05_32 : Vc Qa.E Qa.Rk05 8 517 (Qa.psk05_10 x2 c3 w3 w4 w5) (Qa.pKk05 n x) = Qa.glk05 n x k x2 c3 w3 w4 w5 :=
  (Vl Qa.pnk05_32_a).trans (Vk (by
    intro i hi
    simp only [List.mem_cons,List.not_mem_nil,or_false] at hi
    rcases hi with rfl | rfl | rfl
    · exact (Qa.pnk05_32_1 x2 c3 w3 w4 w5 _).trans (Qa.pnk05_31 n x k x2 c3 w3 w4 w5)
    · exact (Qa.pnk05_32_3 x2 c3 w3 w4 w5 _).trans (Qa.pnk05_20 n x k x2 c3 w3 w4 w5)
    · exact (Qa.pnk05_32_5 x2 c3 w3 w4 w5 _).trans (Qa.pnk05_29 n x k x2 c3 w3 w4 w5)) )
set_option maxRecDepth 100000 in
theorem Qa.pnk05_33_1 : ∀ F : St → Option YJ,step1 Qa.E Qa.Rk05 (Qa.psk05_2 x2 c3 w3 w4 w5) F 1 = F (Qa.psk05_7 x2 c3 w3 w4 w5) := by
 intro F
 kernel_rfl
set_option maxRecDepth 100000 in
theorem Qa.pnk05_33_3 : ∀ F : St → Option YJ,step1 Qa.E Qa.Rk05 (Qa.psk05_2 x2 c3 w3 w4 w5) F 3 = F (Qa.psk05_8 x2 c3 w3 w4 w5) := by
 intro F
 kernel_rfl
set_option maxRecDepth 100000 in
theorem Qa.pnk05_33_5 : ∀ F : St → Option YJ,step1 Qa.E Qa.Rk05 (Qa.psk05_2 x2 c3 w3 w4 w5) F 5 = F (Qa.psk05_9 x2 c3 w3 w4 w5) := by
 intro F
 kernel_rfl
set_option maxRecDepth 100000 in
theorem Qa.pnk05_33_9 : ∀ F : St → Option YJ,step1 Qa.E Qa.Rk05 (Qa.psk05_2 x2 c3 w3 w4 w5) F 9 = F (Qa.psk05_10 x2 c3 w3 w4 w5) := by
 intro F
 kernel_rfl
set_option maxRecDepth 100000 in
theorem Qa.pnk05_33_a : restM Qa.E Qa.Rk05 5 = false ∧ rdyM Qa.Rk05 5 = [1,3,5,9] ∧ Vp Qa.Rk05 5 [1,3,5,9] = none := by
 refine ⟨by kernel_rfl,by kernel_rfl,by kernel_rfl⟩
theorem Qa.pnk05_33 : Vc Qa.E Qa.Rk05 9 5 (Qa.psk05_2 x2 c3 w3 w4 w5) (Qa.pKk05 n x) = Qa.glk05 n x k x2 c3 w3 w4 w5 :=
  (Vl Qa.pnk05_33_a).trans (Vk (by
    intro i hi
    simp only [List.mem_cons,List.not_mem_nil,or_false] at hi
    rcases hi with rfl | rfl | rfl | rfl
    · exact (Qa.pnk05_33_1 x2 c3 w3 w4 w5 _).trans (Qa.pnk05_11 n x k x2 c3 w3 w4 w5)
    · exact (Qa.pnk05_33_3 x2 c3 w3 w4 w5 _).trans (Qa.pnk05_21 n x k x2 c3 w3 w4 w5)
    · exact (Qa.pnk05_33_5 x2 c3 w3 w4 w5 _).trans (Qa.pnk05_30 n x k x2 c3 w3 w4 w5)
    · exact (Qa.pnk05_33_9 x2 c3 w3 w4 w5 _).trans (Qa.pnk05_32 n x k x2 c3 w3 w4 w5)) )
set_option maxRecDepth 100000 in
theorem Qa.plk05_16 : Vc Qa.E Qa.Rk05 8 14 (Qa.psk05_40 x2 c3 w3 w4 w5) (Qa.pKk05 n x) = Qa.glk05 n x k x2 c3 w3 w4 w5 := by
 have h : Vc Qa.E Qa.Rk05 8 14 (Qa.psk05_40 x2 c3 w3 w4 w5) (Qa.pKk05 n x) = Qa.ptk05_16 (fun w2 w3 w4 w5 w6 w7 => Qa.LNk06 n x n (Qa.stk06 w2 w3 w4 w5 w6 w7)) (fun x2 c3 w3 w4 w5 => Qa.LNk05 n x k (Qa.stk05 x2 c3 w3 w4 w5)) x2 c3 w3 w4 w5 := by kernel_rfl
 rw [h,Qa.ptk05_16_eq]
 rfl
set_option maxRecDepth 100000 in
theorem Qa.plk05_17 : Vc Qa.E Qa.Rk05 7 46 (Qa.psk05_43 x2 c3 w3 w4 w5) (Qa.pKk05 n x) = Qa.glk05 n x k x2 c3 w3 w4 w5 := by
 have h : Vc Qa.E Qa.Rk05 7 46 (Qa.psk05_43 x2 c3 w3 w4 w5) (Qa.pKk05 n x) = Qa.ptk05_17 (fun w2 w3 w4 w5 w6 w7 => Qa.LNk06 n x n (Qa.stk06 w2 w3 w4 w5 w6 w7)) (fun x2 c3 w3 w4 w5 => Qa.LNk05 n x k (Qa.stk05 x2 c3 w3 w4 w5)) x2 c3 w3 w4 w5 := by kernel_rfl
 rw [h,Qa.ptk05_17_eq]
 rfl
set_option maxRecDepth 100000 in
theorem Qa.plk05_18 : Vc Qa.E Qa.Rk05 6 110 (Qa.psk05_46 x2 c3 w3 w4 w5) (Qa.pKk05 n x) = Qa.glk05 n x k x2 c3 w3 w4 w5 := by
 have h : Vc Qa.E Qa.Rk05 6 110 (Qa.psk05_46 x2 c3 w3 w4 w5) (Qa.pKk05 n x) = Qa.ptk05_18 (fun w2 w3 w4 w5 w6 w7 => Qa.LNk06 n x n (Qa.stk06 w2 w3 w4 w5 w6 w7)) (fun x2 c3 w3 w4 w5 => Qa.LNk05 n x k (Qa.stk05 x2 c3 w3 w4 w5)) x2 c3 w3 w4 w5 := by kernel_rfl
 rw [h,Qa.ptk05_18_eq]
 rfl
set_option maxRecDepth 100000 in
theorem Qa.plk05_19 : Vc Qa.E Qa.Rk05 5 622 (Qa.psk05_48 x2 c3 w3 w4 w5) (Qa.pKk05 n x) = Qa.glk05 n x k x2 c3 w3 w4 w5 := by
 have h : Vc Qa.E Qa.Rk05 5 622 (Qa.psk05_48 x2 c3 w3 w4 w5) (Qa.pKk05 n x) = Qa.ptk05_19 (fun w2 w3 w4 w5 w6 w7 => Qa.LNk06 n x n (Qa.stk06 w2 w3 w4 w5 w6 w7)) (fun x2 c3 w3 w4 w5 => Qa.LNk05 n x k (Qa.stk05 x2 c3 w3 w4 w5)) x2 c3 w3 w4 w5 := by kernel_rfl
 rw [h,Qa.ptk05_19_eq]
 rfl
set_option maxRecDepth 100000 in
theorem Qa.pnk05_38_0 : ∀ F : St → Option YJ,step1 Qa.E Qa.Rk05 (Qa.psk05_47 x2 c3 w3 w4 w5) F 0 = F (Qa.psk05_18 x2 c3 w3 w4 w5) := by
 intro F
 kernel_rfl
set_option maxRecDepth 100000 in
theorem Qa.pnk05_38_3 : ∀ F : St → Option YJ,step1 Qa.E Qa.Rk05 (Qa.psk05_47 x2 c3 w3 w4 w5) F 3 = F (Qa.psk05_48 x2 c3 w3 w4 w5) := by
 intro F
 kernel_rfl
set_option maxRecDepth 100000 in
theorem Qa.pnk05_38_a : restM Qa.E Qa.Rk05 614 = false ∧ rdyM Qa.Rk05 614 = [0,3] ∧ Vp Qa.Rk05 614 [0,3] = none := by
 refine ⟨by kernel_rfl,by kernel_rfl,by kernel_rfl⟩
theorem Qa.pnk05_38 : Vc Qa.E Qa.Rk05 6 614 (Qa.psk05_47 x2 c3 w3 w4 w5) (Qa.pKk05 n x) = Qa.glk05 n x k x2 c3 w3 w4 w5 :=
  (Vl Qa.pnk05_38_a).trans (Vk (by
    intro i hi
    simp only [List.mem_cons,List.not_mem_nil,or_false] at hi
    rcases hi with rfl | rfl
    · exact (Qa.pnk05_38_0 x2 c3 w3 w4 w5 _).trans (Qa.plk05_3 n x k x2 c3 w3 w4 w5)
    · exact (Qa.pnk05_38_3 x2 c3 w3 w4 w5 _).trans (Qa.plk05_19 n x k x2 c3 w3 w4 w5)) )
set_option maxRecDepth 100000 in
theorem Qa.pnk05_39_0 : ∀ F : St → Option YJ,step1 Qa.E Qa.Rk05 (Qa.psk05_44 x2 c3 w3 w4 w5) F 0 = F (Qa.psk05_15 x2 c3 w3 w4 w5) := by
 intro F
 kernel_rfl
set_option maxRecDepth 100000 in
theorem Qa.pnk05_39_3 : ∀ F : St → Option YJ,step1 Qa.E Qa.Rk05 (Qa.psk05_44 x2 c3 w3 w4 w5) F 3 = F (Qa.psk05_46 x2 c3 w3 w4 w5) := by
 intro F
 kernel_rfl
set_option maxRecDepth 100000 in
theorem Qa.pnk05_39_9 : ∀ F : St → Option YJ,step1 Qa.E Qa.Rk05 (Qa.psk05_44 x2 c3 w3 w4 w5) F 9 = F (Qa.psk05_47 x2 c3 w3 w4 w5) := by
 intro F
 kernel_rfl
set_option maxRecDepth 100000 in
theorem Qa.pnk05_39_a : restM Qa.E Qa.Rk05 102 = false ∧ rdyM Qa.Rk05 102 = [0,3,9] ∧ Vp Qa.Rk05 102 [0,3,9] = none := by
 refine ⟨by kernel_rfl,by kernel_rfl,by kernel_rfl⟩
theorem Qa.pnk05_39 : Vc Qa.E Qa.Rk05 7 102 (Qa.psk05_44 x2 c3 w3 w4 w5) (Qa.pKk05 n x) = Qa.glk05 n x k x2 c3 w3 w4 w5 :=
  (Vl Qa.pnk05_39_a).trans (Vk (by
    intro i hi
    simp only [List.mem_cons,List.not_mem_nil,or_false] at hi
    rcases hi with rfl | rfl | rfl
    · exact (Qa.pnk05_39_0 x2 c3 w3 w4 w5 _).trans (Qa.pnk05_4 n x k x2 c3 w3 w4 w5)
    · exact (Qa.pnk05_39_3 x2 c3 w3 w4 w5 _).trans (Qa.plk05_18 n x k x2 c3 w3 w4 w5)
    · exact (Qa.pnk05_39_9 x2 c3 w3 w4 w5 _).trans (Qa.pnk05_38 n x k x2 c3 w3 w4 w5)) )
set_option maxRecDepth 100000 in
theorem Qa.plk05_20 : Vc Qa.E Qa.Rk05 6 558 (Qa.psk05_49 x2 c3 w3 w4 w5) (Qa.pKk05 n x) = Qa.glk05 n x k x2 c3 w3 w4 w5 := by
 have h : Vc Qa.E Qa.Rk05 6 558 (Qa.psk05_49 x2 c3 w3 w4 w5) (Qa.pKk05 n x) = Qa.ptk05_20 (fun w2 w3 w4 w5 w6 w7 => Qa.LNk06 n x n (Qa.stk06 w2 w3 w4 w5 w6 w7)) (fun x2 c3 w3 w4 w5 => Qa.LNk05 n x k (Qa.stk05 x2 c3 w3 w4 w5)) x2 c3 w3 w4 w5 := by kernel_rfl
 rw [h,Qa.ptk05_20_eq]
 rfl
set_option maxRecDepth 100000 in
theorem Qa.plk05_21 : Vc Qa.E Qa.Rk05 5 622 (Qa.psk05_51 x2 c3 w3 w4 w5) (Qa.pKk05 n x) = Qa.glk05 n x k x2 c3 w3 w4 w5 := by
 have h : Vc Qa.E Qa.Rk05 5 622 (Qa.psk05_51 x2 c3 w3 w4 w5) (Qa.pKk05 n x) = Qa.ptk05_21 (fun w2 w3 w4 w5 w6 w7 => Qa.LNk06 n x n (Qa.stk06 w2 w3 w4 w5 w6 w7)) (fun x2 c3 w3 w4 w5 => Qa.LNk05 n x k (Qa.stk05 x2 c3 w3 w4 w5)) x2 c3 w3 w4 w5 := by kernel_rfl
 rw [h,Qa.ptk05_21_eq]
 rfl
set_option maxRecDepth 100000 in
theorem Qa.pnk05_42_0 : ∀ F : St → Option YJ,step1 Qa.E Qa.Rk05 (Qa.psk05_50 x2 c3 w3 w4 w5) F 0 = F (Qa.psk05_20 x2 c3 w3 w4 w5) := by
 intro F
 kernel_rfl
set_option maxRecDepth 100000 in
theorem Qa.pnk05_42_3 : ∀ F : St → Option YJ,step1 Qa.E Qa.Rk05 (Qa.psk05_50 x2 c3 w3 w4 w5) F 3 = F (Qa.psk05_51 x2 c3 w3 w4 w5) := by
 intro F
 kernel_rfl
set_option maxRecDepth 100000 in
theorem Qa.pnk05_42_a : restM Qa.E Qa.Rk05 614 = false ∧ rdyM Qa.Rk05 614 = [0,3] ∧ Vp Qa.Rk05 614 [0,3] = none := by
 refine ⟨by kernel_rfl,by kernel_rfl,by kernel_rfl⟩
theorem Qa.pnk05_42 : Vc Qa.E Qa.Rk05 6 614 (Qa.psk05_50 x2 c3 w3 w4 w5) (Qa.pKk05 n x) = Qa.glk05 n x k x2 c3 w3 w4 w5 :=
  (Vl Qa.pnk05_42_a).trans (Vk (by
    intro i hi
    simp only [List.mem_cons,List.not_mem_nil,or_false] at hi
    rcases hi with rfl | rfl
    · exact (Qa.pnk05_42_0 x2 c3 w3 w4 w5 _).trans (Qa.plk05_5 n x k x2 c3 w3 w4 w5)
    · exact (Qa.pnk05_42_3 x2 c3 w3 w4 w5 _).trans (Qa.plk05_21 n x k x2 c3 w3 w4 w5)) )
set_option maxRecDepth 100000 in
theorem Qa.pnk05_43_0 : ∀ F : St → Option YJ,step1 Qa.E Qa.Rk05 (Qa.psk05_45 x2 c3 w3 w4 w5) F 0 = F (Qa.psk05_16 x2 c3 w3 w4 w5) := by
 intro F
 kernel_rfl
set_option maxRecDepth 100000 in
theorem Qa.pnk05_43_3 : ∀ F : St → Option YJ,step1 Qa.E Qa.Rk05 (Qa.psk05_45 x2 c3 w3 w4 w5) F 3 = F (Qa.psk05_49 x2 c3 w3 w4 w5) := by
 intro F
 kernel_rfl
set_option maxRecDepth 100000 in
theorem Qa.pnk05_43_6 : ∀ F : St → Option YJ,step1 Qa.E Qa.Rk05 (Qa.psk05_45 x2 c3 w3 w4 w5) F 6 = F (Qa.psk05_50 x2 c3 w3 w4 w5) := by
 intro F
 kernel_rfl
set_option maxRecDepth 100000 in
theorem Qa.pnk05_43_a : restM Qa.E Qa.Rk05 550 = false ∧ rdyM Qa.Rk05 550 = [0,3,6] ∧ Vp Qa.Rk05 550 [0,3,6] = none := by
 refine ⟨by kernel_rfl,by kernel_rfl,by kernel_rfl⟩
theorem Qa.pnk05_43 : Vc Qa.E Qa.Rk05 7 550 (Qa.psk05_45 x2 c3 w3 w4 w5) (Qa.pKk05 n x) = Qa.glk05 n x k x2 c3 w3 w4 w5 :=
  (Vl Qa.pnk05_43_a).trans (Vk (by
    intro i hi
    simp only [List.mem_cons,List.not_mem_nil,or_false] at hi
    rcases hi with rfl | rfl | rfl
    · exact (Qa.pnk05_43_0 x2 c3 w3 w4 w5 _).trans (Qa.pnk05_7 n x k x2 c3 w3 w4 w5)
    · exact (Qa.pnk05_43_3 x2 c3 w3 w4 w5 _).trans (Qa.plk05_20 n x k x2 c3 w3 w4 w5)
    · exact (Qa.pnk05_43_6 x2 c3 w3 w4 w5 _).trans (Qa.pnk05_42 n x k x2 c3 w3 w4 w5)) )
set_option maxRecDepth 100000 in
theorem Qa.pnk05_44_0 : ∀ F : St → Option YJ,step1 Qa.E Qa.Rk05 (Qa.psk05_41 x2 c3 w3 w4 w5) F 0 = F (Qa.psk05_12 x2 c3 w3 w4 w5) := by
 intro F
 kernel_rfl
set_option maxRecDepth 100000 in
theorem Qa.pnk05_44_3 : ∀ F : St → Option YJ,step1 Qa.E Qa.Rk05 (Qa.psk05_41 x2 c3 w3 w4 w5) F 3 = F (Qa.psk05_43 x2 c3 w3 w4 w5) := by
 intro F
 kernel_rfl
set_option maxRecDepth 100000 in
theorem Qa.pnk05_44_6 : ∀ F : St → Option YJ,step1 Qa.E Qa.Rk05 (Qa.psk05_41 x2 c3 w3 w4 w5) F 6 = F (Qa.psk05_44 x2 c3 w3 w4 w5) := by
 intro F
 kernel_rfl
set_option maxRecDepth 100000 in
theorem Qa.pnk05_44_9 : ∀ F : St → Option YJ,step1 Qa.E Qa.Rk05 (Qa.psk05_41 x2 c3 w3 w4 w5) F 9 = F (Qa.psk05_45 x2 c3 w3 w4 w5) := by
 intro F
 kernel_rfl
set_option maxRecDepth 100000 in
theorem Qa.pnk05_44_a : restM Qa.E Qa.Rk05 38 = false ∧ rdyM Qa.Rk05 38 = [0,3,6,9] ∧ Vp Qa.Rk05 38 [0,3,6,9] = none := by
 refine ⟨by kernel_rfl,by kernel_rfl,by kernel_rfl⟩
theorem Qa.pnk05_44 : Vc Qa.E Qa.Rk05 8 38 (Qa.psk05_41 x2 c3 w3 w4 w5) (Qa.pKk05 n x) = Qa.glk05 n x k x2 c3 w3 w4 w5 :=
  (Vl Qa.pnk05_44_a).trans (Vk (by
    intro i hi
    simp only [List.mem_cons,List.not_mem_nil,or_false] at hi
    rcases hi with rfl | rfl | rfl | rfl
    · exact (Qa.pnk05_44_0 x2 c3 w3 w4 w5 _).trans (Qa.pnk05_8 n x k x2 c3 w3 w4 w5)
    · exact (Qa.pnk05_44_3 x2 c3 w3 w4 w5 _).trans (Qa.plk05_17 n x k x2 c3 w3 w4 w5)
    · exact (Qa.pnk05_44_6 x2 c3 w3 w4 w5 _).trans (Qa.pnk05_39 n x k x2 c3 w3 w4 w5)
    · exact (Qa.pnk05_44_9 x2 c3 w3 w4 w5 _).trans (Qa.pnk05_43 n x k x2 c3 w3 w4 w5)) )
set_option maxRecDepth 100000 in
theorem Qa.plk05_22 : Vc Qa.E Qa.Rk05 7 526 (Qa.psk05_52 x2 c3 w3 w4 w5) (Qa.pKk05 n x) = Qa.glk05 n x k x2 c3 w3 w4 w5 := by
 have h : Vc Qa.E Qa.Rk05 7 526 (Qa.psk05_52 x2 c3 w3 w4 w5) (Qa.pKk05 n x) = Qa.ptk05_22 (fun w2 w3 w4 w5 w6 w7 => Qa.LNk06 n x n (Qa.stk06 w2 w3 w4 w5 w6 w7)) (fun x2 c3 w3 w4 w5 => Qa.LNk05 n x k (Qa.stk05 x2 c3 w3 w4 w5)) x2 c3 w3 w4 w5 := by kernel_rfl
 rw [h,Qa.ptk05_22_eq]
 rfl
set_option maxRecDepth 100000 in
theorem Qa.pnk05_46_0 : ∀ F : St → Option YJ,step1 Qa.E Qa.Rk05 (Qa.psk05_42 x2 c3 w3 w4 w5) F 0 = F (Qa.psk05_13 x2 c3 w3 w4 w5) := by
 intro F
 kernel_rfl
set_option maxRecDepth 100000 in
theorem Qa.pnk05_46_3 : ∀ F : St → Option YJ,step1 Qa.E Qa.Rk05 (Qa.psk05_42 x2 c3 w3 w4 w5) F 3 = F (Qa.psk05_52 x2 c3 w3 w4 w5) := by
 intro F
 kernel_rfl
set_option maxRecDepth 100000 in
theorem Qa.pnk05_46_5 : ∀ F : St → Option YJ,step1 Qa.E Qa.Rk05 (Qa.psk05_42 x2 c3 w3 w4 w5) F 5 = F (Qa.psk05_45 x2 c3 w3 w4 w5) := by
 intro F
 kernel_rfl
set_option maxRecDepth 100000 in
theorem Qa.pnk05_46_a : restM Qa.E Qa.Rk05 518 = false ∧ rdyM Qa.Rk05 518 = [0,3,5] ∧ Vp Qa.Rk05 518 [0,3,5] = none := by
 refine ⟨by kernel_rfl,by kernel_rfl,by kernel_rfl⟩
theorem Qa.pnk05_46 : Vc Qa.E Qa.Rk05 8 518 (Qa.psk05_42 x2 c3 w3 w4 w5) (Qa.pKk05 n x) = Qa.glk05 n x k x2 c3 w3 w4 w5 :=
  (Vl Qa.pnk05_46_a).trans (Vk (by
    intro i hi
    simp only [List.mem_cons,List.not_mem_nil,or_false] at hi
    rcases hi with rfl | rfl | rfl
    · exact (Qa.pnk05_46_0 x2 c3 w3 w4 w5 _).trans (Qa.pnk05_10 n x k x2 c3 w3 w4 w5)
    · exact (Qa.pnk05_46_3 x2 c3 w3 w4 w5 _).trans (Qa.plk05_22 n x k x2 c3 w3 w4 w5)
    · exact (Qa.pnk05_46_5 x2 c3 w3 w4 w5 _).trans (Qa.pnk05_43 n x k x2 c3 w3 w4 w5)) )
set_option maxRecDepth 100000 in
theorem Qa.pnk05_47_0 : ∀ F : St → Option YJ,step1 Qa.E Qa.Rk05 (Qa.psk05_3 x2 c3 w3 w4 w5) F 0 = F (Qa.psk05_7 x2 c3 w3 w4 w5) := by
 intro F
 kernel_rfl
set_option maxRecDepth 100000 in
theorem Qa.pnk05_47_3 : ∀ F : St → Option YJ,step1 Qa.E Qa.Rk05 (Qa.psk05_3 x2 c3 w3 w4 w5) F 3 = F (Qa.psk05_40 x2 c3 w3 w4 w5) := by
 intro F
 kernel_rfl
set_option maxRecDepth 100000 in
theorem Qa.pnk05_47_5 : ∀ F : St → Option YJ,step1 Qa.E Qa.Rk05 (Qa.psk05_3 x2 c3 w3 w4 w5) F 5 = F (Qa.psk05_41 x2 c3 w3 w4 w5) := by
 intro F
 kernel_rfl
set_option maxRecDepth 100000 in
theorem Qa.pnk05_47_9 : ∀ F : St → Option YJ,step1 Qa.E Qa.Rk05 (Qa.psk05_3 x2 c3 w3 w4 w5) F 9 = F (Qa.psk05_42 x2 c3 w3 w4 w5) := by
 intro F
 kernel_rfl
set_option maxRecDepth 100000 in
theorem Qa.pnk05_47_a : restM Qa.E Qa.Rk05 6 = false ∧ rdyM Qa.Rk05 6 = [0,3,5,9] ∧ Vp Qa.Rk05 6 [0,3,5,9] = none := by
 refine ⟨by kernel_rfl,by kernel_rfl,by kernel_rfl⟩
theorem Qa.pnk05_47 : Vc Qa.E Qa.Rk05 9 6 (Qa.psk05_3 x2 c3 w3 w4 w5) (Qa.pKk05 n x) = Qa.glk05 n x k x2 c3 w3 w4 w5 :=
  (Vl Qa.pnk05_47_a).trans (Vk (by
    intro i hi
    simp only [List.mem_cons,List.not_mem_nil,or_false] at hi
    rcases hi with rfl | rfl | rfl | rfl
    · exact (Qa.pnk05_47_0 x2 c3 w3 w4 w5 _).trans (Qa.pnk05_11 n x k x2 c3 w3 w4 w5)
    · exact (Qa.pnk05_47_3 x2 c3 w3 w4 w5 _).trans (Qa.plk05_16 n x k x2 c3 w3 w4 w5)
    · exact (Qa.pnk05_47_5 x2 c3 w3 w4 w5 _).trans (Qa.pnk05_44 n x k x2 c3 w3 w4 w5)
    · exact (Qa.pnk05_47_9 x2 c3 w3 w4 w5 _).trans (Qa.pnk05_46 n x k x2 c3 w3 w4 w5)) )
set_option maxRecDepth 100000 in
theorem Qa.plk05_23 : Vc Qa.E Qa.Rk05 6 110 (Qa.psk05_57 x2 c3 w3 w4 w5) (Qa.pKk05 n x) = Qa.glk05 n x k x2 c3 w3 w4 w5 := by
 have h : Vc Qa.E Qa.Rk05 6 110 (Qa.psk05_57 x2 c3 w3 w4 w5) (Qa.pKk05 n x) = Qa.ptk05_23 (fun w2 w3 w4 w5 w6 w7 => Qa.LNk06 n x n (Qa.stk06 w2 w3 w4 w5 w6 w7)) (fun x2 c3 w3 w4 w5 => Qa.LNk05 n x k (Qa.stk05 x2 c3 w3 w4 w5)) x2 c3 w3 w4 w5 := by kernel_rfl
 rw [h,Qa.ptk05_23_eq]
 rfl
set_option maxRecDepth 100000 in
theorem Qa.plk05_24 : Vc Qa.E Qa.Rk05 5 622 (Qa.psk05_59 x2 c3 w3 w4 w5) (Qa.pKk05 n x) = Qa.glk05 n x k x2 c3 w3 w4 w5 := by
 have h : Vc Qa.E Qa.Rk05 5 622 (Qa.psk05_59 x2 c3 w3 w4 w5) (Qa.pKk05 n x) = Qa.ptk05_24 (fun w2 w3 w4 w5 w6 w7 => Qa.LNk06 n x n (Qa.stk06 w2 w3 w4 w5 w6 w7)) (fun x2 c3 w3 w4 w5 => Qa.LNk05 n x k (Qa.stk05 x2 c3 w3 w4 w5)) x2 c3 w3 w4 w5 := by kernel_rfl
 rw [h,Qa.ptk05_24_eq]
 rfl
set_option maxRecDepth 100000 in
theorem Qa.pnk05_50_0 : ∀ F : St → Option YJ,step1 Qa.E Qa.Rk05 (Qa.psk05_58 x2 c3 w3 w4 w5) F 0 = F (Qa.psk05_27 x2 c3 w3 w4 w5) := by
 intro F
 kernel_rfl
set_option maxRecDepth 100000 in
theorem Qa.pnk05_50_1 : ∀ F : St → Option YJ,step1 Qa.E Qa.Rk05 (Qa.psk05_58 x2 c3 w3 w4 w5) F 1 = F (Qa.psk05_59 x2 c3 w3 w4 w5) := by
 intro F
 kernel_rfl
set_option maxRecDepth 100000 in
theorem Qa.pnk05_50_a : restM Qa.E Qa.Rk05 620 = false ∧ rdyM Qa.Rk05 620 = [0,1] ∧ Vp Qa.Rk05 620 [0,1] = none := by
 refine ⟨by kernel_rfl,by kernel_rfl,by kernel_rfl⟩
theorem Qa.pnk05_50 : Vc Qa.E Qa.Rk05 6 620 (Qa.psk05_58 x2 c3 w3 w4 w5) (Qa.pKk05 n x) = Qa.glk05 n x k x2 c3 w3 w4 w5 :=
  (Vl Qa.pnk05_50_a).trans (Vk (by
    intro i hi
    simp only [List.mem_cons,List.not_mem_nil,or_false] at hi
    rcases hi with rfl | rfl
    · exact (Qa.pnk05_50_0 x2 c3 w3 w4 w5 _).trans (Qa.plk05_8 n x k x2 c3 w3 w4 w5)
    · exact (Qa.pnk05_50_1 x2 c3 w3 w4 w5 _).trans (Qa.plk05_24 n x k x2 c3 w3 w4 w5)) )
set_option maxRecDepth 100000 in
theorem Qa.pnk05_51_0 : ∀ F : St → Option YJ,step1 Qa.E Qa.Rk05 (Qa.psk05_55 x2 c3 w3 w4 w5) F 0 = F (Qa.psk05_24 x2 c3 w3 w4 w5) := by
 intro F
 kernel_rfl
set_option maxRecDepth 100000 in
theorem Qa.pnk05_51_1 : ∀ F : St → Option YJ,step1 Qa.E Qa.Rk05 (Qa.psk05_55 x2 c3 w3 w4 w5) F 1 = F (Qa.psk05_57 x2 c3 w3 w4 w5) := by
 intro F
 kernel_rfl
set_option maxRecDepth 100000 in
theorem Qa.pnk05_51_9 : ∀ F : St → Option YJ,step1 Qa.E Qa.Rk05 (Qa.psk05_55 x2 c3 w3 w4 w5) F 9 = F (Qa.psk05_58 x2 c3 w3 w4 w5) := by
 intro F
 kernel_rfl
set_option maxRecDepth 100000 in
theorem Qa.pnk05_51_a : restM Qa.E Qa.Rk05 108 = false ∧ rdyM Qa.Rk05 108 = [0,1,9] ∧ Vp Qa.Rk05 108 [0,1,9] = none := by
 refine ⟨by kernel_rfl,by kernel_rfl,by kernel_rfl⟩
theorem Qa.pnk05_51 : Vc Qa.E Qa.Rk05 7 108 (Qa.psk05_55 x2 c3 w3 w4 w5) (Qa.pKk05 n x) = Qa.glk05 n x k x2 c3 w3 w4 w5 :=
  (Vl Qa.pnk05_51_a).trans (Vk (by
    intro i hi
    simp only [List.mem_cons,List.not_mem_nil,or_false] at hi
    rcases hi with rfl | rfl | rfl
    · exact (Qa.pnk05_51_0 x2 c3 w3 w4 w5 _).trans (Qa.pnk05_14 n x k x2 c3 w3 w4 w5)
    · exact (Qa.pnk05_51_1 x2 c3 w3 w4 w5 _).trans (Qa.plk05_23 n x k x2 c3 w3 w4 w5)
    · exact (Qa.pnk05_51_9 x2 c3 w3 w4 w5 _).trans (Qa.pnk05_50 n x k x2 c3 w3 w4 w5)) )
set_option maxRecDepth 100000 in
theorem Qa.plk05_25 : Vc Qa.E Qa.Rk05 6 558 (Qa.psk05_60 x2 c3 w3 w4 w5) (Qa.pKk05 n x) = Qa.glk05 n x k x2 c3 w3 w4 w5 := by
 have h : Vc Qa.E Qa.Rk05 6 558 (Qa.psk05_60 x2 c3 w3 w4 w5) (Qa.pKk05 n x) = Qa.ptk05_25 (fun w2 w3 w4 w5 w6 w7 => Qa.LNk06 n x n (Qa.stk06 w2 w3 w4 w5 w6 w7)) (fun x2 c3 w3 w4 w5 => Qa.LNk05 n x k (Qa.stk05 x2 c3 w3 w4 w5)) x2 c3 w3 w4 w5 := by kernel_rfl
 rw [h,Qa.ptk05_25_eq]
 rfl
set_option maxRecDepth 100000 in
theorem Qa.plk05_26 : Vc Qa.E Qa.Rk05 5 622 (Qa.psk05_62 x2 c3 w3 w4 w5) (Qa.pKk05 n x) = Qa.glk05 n x k x2 c3 w3 w4 w5 := by
 have h : Vc Qa.E Qa.Rk05 5 622 (Qa.psk05_62 x2 c3 w3 w4 w5) (Qa.pKk05 n x) = Qa.ptk05_26 (fun w2 w3 w4 w5 w6 w7 => Qa.LNk06 n x n (Qa.stk06 w2 w3 w4 w5 w6 w7)) (fun x2 c3 w3 w4 w5 => Qa.LNk05 n x k (Qa.stk05 x2 c3 w3 w4 w5)) x2 c3 w3 w4 w5 := by kernel_rfl
 rw [h,Qa.ptk05_26_eq]
 rfl
set_option maxRecDepth 100000 in
theorem Qa.pnk05_54_0 : ∀ F : St → Option YJ,step1 Qa.E Qa.Rk05 (Qa.psk05_61 x2 c3 w3 w4 w5) F 0 = F (Qa.psk05_29 x2 c3 w3 w4 w5) := by
 intro F
 kernel_rfl
set_option maxRecDepth 100000 in
theorem Qa.pnk05_54_1 : ∀ F : St → Option YJ,step1 Qa.E Qa.Rk05 (Qa.psk05_61 x2 c3 w3 w4 w5) F 1 = F (Qa.psk05_62 x2 c3 w3 w4 w5) := by
 intro F
 kernel_rfl
set_option maxRecDepth 100000 in
theorem Qa.pnk05_54_a : restM Qa.E Qa.Rk05 620 = false ∧ rdyM Qa.Rk05 620 = [0,1] ∧ Vp Qa.Rk05 620 [0,1] = none := by
 refine ⟨by kernel_rfl,by kernel_rfl,by kernel_rfl⟩
theorem Qa.pnk05_54 : Vc Qa.E Qa.Rk05 6 620 (Qa.psk05_61 x2 c3 w3 w4 w5) (Qa.pKk05 n x) = Qa.glk05 n x k x2 c3 w3 w4 w5 :=
  (Vl Qa.pnk05_54_a).trans (Vk (by
    intro i hi
    simp only [List.mem_cons,List.not_mem_nil,or_false] at hi
    rcases hi with rfl | rfl
    · exact (Qa.pnk05_54_0 x2 c3 w3 w4 w5 _).trans (Qa.plk05_10 n x k x2 c3 w3 w4 w5)
    · exact (Qa.pnk05_54_1 x2 c3 w3 w4 w5 _).trans (Qa.plk05_26 n x k x2 c3 w3 w4 w5)) )
set_option maxRecDepth 100000 in
theorem Qa.pnk05_55_0 : ∀ F : St → Option YJ,step1 Qa.E Qa.Rk05 (Qa.psk05_56 x2 c3 w3 w4 w5) F 0 = F (Qa.psk05_25 x2 c3 w3 w4 w5) := by
 intro F
 kernel_rfl
set_option maxRecDepth 100000 in
theorem Qa.pnk05_55_1 : ∀ F : St → Option YJ,step1 Qa.E Qa.Rk05 (Qa.psk05_56 x2 c3 w3 w4 w5) F 1 = F (Qa.psk05_60 x2 c3 w3 w4 w5) := by
 intro F
 kernel_rfl
set_option maxRecDepth 100000 in
theorem Qa.pnk05_55_6 : ∀ F : St → Option YJ,step1 Qa.E Qa.Rk05 (Qa.psk05_56 x2 c3 w3 w4 w5) F 6 = F (Qa.psk05_61 x2 c3 w3 w4 w5) := by
 intro F
 kernel_rfl
set_option maxRecDepth 100000 in
theorem Qa.pnk05_55_a : restM Qa.E Qa.Rk05 556 = false ∧ rdyM Qa.Rk05 556 = [0,1,6] ∧ Vp Qa.Rk05 556 [0,1,6] = none := by
 refine ⟨by kernel_rfl,by kernel_rfl,by kernel_rfl⟩
theorem Qa.pnk05_55 : Vc Qa.E Qa.Rk05 7 556 (Qa.psk05_56 x2 c3 w3 w4 w5) (Qa.pKk05 n x) = Qa.glk05 n x k x2 c3 w3 w4 w5 :=
  (Vl Qa.pnk05_55_a).trans (Vk (by
    intro i hi
    simp only [List.mem_cons,List.not_mem_nil,or_false] at hi
    rcases hi with rfl | rfl | rfl
    · exact (Qa.pnk05_55_0 x2 c3 w3 w4 w5 _).trans (Qa.pnk05_17 n x k x2 c3 w3 w4 w5)
    · exact (Qa.pnk05_55_1 x2 c3 w3 w4 w5 _).trans (Qa.plk05_25 n x k x2 c3 w3 w4 w5)
    · exact (Qa.pnk05_55_6 x2 c3 w3 w4 w5 _).trans (Qa.pnk05_54 n x k x2 c3 w3 w4 w5)) )
set_option maxRecDepth 100000 in
theorem Qa.pnk05_56_0 : ∀ F : St → Option YJ,step1 Qa.E Qa.Rk05 (Qa.psk05_53 x2 c3 w3 w4 w5) F 0 = F (Qa.psk05_22 x2 c3 w3 w4 w5) := by
 intro F
 kernel_rfl
set_option maxRecDepth 100000 in
theorem Qa.pnk05_56_1 : ∀ F : St → Option YJ,step1 Qa.E Qa.Rk05 (Qa.psk05_53 x2 c3 w3 w4 w5) F 1 = F (Qa.psk05_43 x2 c3 w3 w4 w5) := by
 intro F
 kernel_rfl
set_option maxRecDepth 100000 in
theorem Qa.pnk05_56_6 : ∀ F : St → Option YJ,step1 Qa.E Qa.Rk05 (Qa.psk05_53 x2 c3 w3 w4 w5) F 6 = F (Qa.psk05_55 x2 c3 w3 w4 w5) := by
 intro F
 kernel_rfl
set_option maxRecDepth 100000 in
theorem Qa.pnk05_56_9 : ∀ F : St → Option YJ,step1 Qa.E Qa.Rk05 (Qa.psk05_53 x2 c3 w3 w4 w5) F 9 = F (Qa.psk05_56 x2 c3 w3 w4 w5) := by
 intro F
 kernel_rfl
set_option maxRecDepth 100000 in
theorem Qa.pnk05_56_a : restM Qa.E Qa.Rk05 44 = false ∧ rdyM Qa.Rk05 44 = [0,1,6,9] ∧ Vp Qa.Rk05 44 [0,1,6,9] = none := by
 refine ⟨by kernel_rfl,by kernel_rfl,by kernel_rfl⟩
theorem Qa.pnk05_56 : Vc Qa.E Qa.Rk05 8 44 (Qa.psk05_53 x2 c3 w3 w4 w5) (Qa.pKk05 n x) = Qa.glk05 n x k x2 c3 w3 w4 w5 :=
  (Vl Qa.pnk05_56_a).trans (Vk (by
    intro i hi
    simp only [List.mem_cons,List.not_mem_nil,or_false] at hi
    rcases hi with rfl | rfl | rfl | rfl
    · exact (Qa.pnk05_56_0 x2 c3 w3 w4 w5 _).trans (Qa.pnk05_18 n x k x2 c3 w3 w4 w5)
    · exact (Qa.pnk05_56_1 x2 c3 w3 w4 w5 _).trans (Qa.plk05_17 n x k x2 c3 w3 w4 w5)
    · exact (Qa.pnk05_56_6 x2 c3 w3 w4 w5 _).trans (Qa.pnk05_51 n x k x2 c3 w3 w4 w5)
    · exact (Qa.pnk05_56_9 x2 c3 w3 w4 w5 _).trans (Qa.pnk05_55 n x k x2 c3 w3 w4 w5)) )
set_option maxRecDepth 100000 in
theorem Qa.plk05_27 : Vc Qa.E Qa.Rk05 7 526 (Qa.psk05_63 x2 c3 w3 w4 w5) (Qa.pKk05 n x) = Qa.glk05 n x k x2 c3 w3 w4 w5 := by
 have h : Vc Qa.E Qa.Rk05 7 526 (Qa.psk05_63 x2 c3 w3 w4 w5) (Qa.pKk05 n x) = Qa.ptk05_27 (fun w2 w3 w4 w5 w6 w7 => Qa.LNk06 n x n (Qa.stk06 w2 w3 w4 w5 w6 w7)) (fun x2 c3 w3 w4 w5 => Qa.LNk05 n x k (Qa.stk05 x2 c3 w3 w4 w5)) x2 c3 w3 w4 w5 := by kernel_rfl
 rw [h,Qa.ptk05_27_eq]
 rfl
set_option maxRecDepth 100000 in
theorem Qa.pnk05_58_0 : ∀ F : St → Option YJ,step1 Qa.E Qa.Rk05 (Qa.psk05_54 x2 c3 w3 w4 w5) F 0 = F (Qa.psk05_23 x2 c3 w3 w4 w5) := by
 intro F
 kernel_rfl
set_option maxRecDepth 100000 in
theorem Qa.pnk05_58_1 : ∀ F : St → Option YJ,step1 Qa.E Qa.Rk05 (Qa.psk05_54 x2 c3 w3 w4 w5) F 1 = F (Qa.psk05_63 x2 c3 w3 w4 w5) := by
 intro F
 kernel_rfl
set_option maxRecDepth 100000 in
theorem Qa.pnk05_58_5 : ∀ F : St → Option YJ,step1 Qa.E Qa.Rk05 (Qa.psk05_54 x2 c3 w3 w4 w5) F 5 = F (Qa.psk05_56 x2 c3 w3 w4 w5) := by
 intro F
 kernel_rfl
set_option maxRecDepth 100000 in
theorem Qa.pnk05_58_a : restM Qa.E Qa.Rk05 524 = false ∧ rdyM Qa.Rk05 524 = [0,1,5] ∧ Vp Qa.Rk05 524 [0,1,5] = none := by
 refine ⟨by kernel_rfl,by kernel_rfl,by kernel_rfl⟩
theorem Qa.pnk05_58 : Vc Qa.E Qa.Rk05 8 524 (Qa.psk05_54 x2 c3 w3 w4 w5) (Qa.pKk05 n x) = Qa.glk05 n x k x2 c3 w3 w4 w5 :=
  (Vl Qa.pnk05_58_a).trans (Vk (by
    intro i hi
    simp only [List.mem_cons,List.not_mem_nil,or_false] at hi
    rcases hi with rfl | rfl | rfl
    · exact (Qa.pnk05_58_0 x2 c3 w3 w4 w5 _).trans (Qa.pnk05_20 n x k x2 c3 w3 w4 w5)
    · exact (Qa.pnk05_58_1 x2 c3 w3 w4 w5 _).trans (Qa.plk05_27 n x k x2 c3 w3 w4 w5)
    · exact (Qa.pnk05_58_5 x2 c3 w3 w4 w5 _).trans (Qa.pnk05_55 n x k x2 c3 w3 w4 w5)) )
set_option maxRecDepth 100000 in
theorem Qa.pnk05_59_0 : ∀ F : St → Option YJ,step1 Qa.E Qa.Rk05 (Qa.psk05_4 x2 c3 w3 w4 w5) F 0 = F (Qa.psk05_8 x2 c3 w3 w4 w5) := by
 intro F
 kernel_rfl
set_option maxRecDepth 100000 in
theorem Qa.pnk05_59_1 : ∀ F : St → Option YJ,step1 Qa.E Qa.Rk05 (Qa.psk05_4 x2 c3 w3 w4 w5) F 1 = F (Qa.psk05_40 x2 c3 w3 w4 w5) := by
 intro F
 kernel_rfl
set_option maxRecDepth 100000 in
theorem Qa.pnk05_59_5 : ∀ F : St → Option YJ,step1 Qa.E Qa.Rk05 (Qa.psk05_4 x2 c3 w3 w4 w5) F 5 = F (Qa.psk05_53 x2 c3 w3 w4 w5) := by
 intro F
 kernel_rfl
set_option maxRecDepth 100000 in
theorem Qa.pnk05_59_9 : ∀ F : St → Option YJ,step1 Qa.E Qa.Rk05 (Qa.psk05_4 x2 c3 w3 w4 w5) F 9 = F (Qa.psk05_54 x2 c3 w3 w4 w5) := by
 intro F
 kernel_rfl
set_option maxRecDepth 100000 in
theorem Qa.pnk05_59_a : restM Qa.E Qa.Rk05 12 = false ∧ rdyM Qa.Rk05 12 = [0,1,5,9] ∧ Vp Qa.Rk05 12 [0,1,5,9] = none := by
 refine ⟨by kernel_rfl,by kernel_rfl,by kernel_rfl⟩
theorem Qa.pnk05_59 : Vc Qa.E Qa.Rk05 9 12 (Qa.psk05_4 x2 c3 w3 w4 w5) (Qa.pKk05 n x) = Qa.glk05 n x k x2 c3 w3 w4 w5 :=
  (Vl Qa.pnk05_59_a).trans (Vk (by
    intro i hi
    simp only [List.mem_cons,List.not_mem_nil,or_false] at hi
    rcases hi with rfl | rfl | rfl | rfl
    · exact (Qa.pnk05_59_0 x2 c3 w3 w4 w5 _).trans (Qa.pnk05_21 n x k x2 c3 w3 w4 w5)
    · exact (Qa.pnk05_59_1 x2 c3 w3 w4 w5 _).trans (Qa.plk05_16 n x k x2 c3 w3 w4 w5)
    · exact (Qa.pnk05_59_5 x2 c3 w3 w4 w5 _).trans (Qa.pnk05_56 n x k x2 c3 w3 w4 w5)
    · exact (Qa.pnk05_59_9 x2 c3 w3 w4 w5 _).trans (Qa.pnk05_58 n x k x2 c3 w3 w4 w5)) )
set_option maxRecDepth 100000 in
theorem Qa.plk05_28 : Vc Qa.E Qa.Rk05 5 622 (Qa.psk05_69 x2 c3 w3 w4 w5) (Qa.pKk05 n x) = Qa.glk05 n x k x2 c3 w3 w4 w5 := by
 have h : Vc Qa.E Qa.Rk05 5 622 (Qa.psk05_69 x2 c3 w3 w4 w5) (Qa.pKk05 n x) = Qa.ptk05_28 (fun w2 w3 w4 w5 w6 w7 => Qa.LNk06 n x n (Qa.stk06 w2 w3 w4 w5 w6 w7)) (fun x2 c3 w3 w4 w5 => Qa.LNk05 n x k (Qa.stk05 x2 c3 w3 w4 w5)) x2 c3 w3 w4 w5 := by kernel_rfl
 rw [h,Qa.ptk05_28_eq]
 rfl
set_option maxRecDepth 100000 in
theorem Qa.pnk05_61_0 : ∀ F : St → Option YJ,step1 Qa.E Qa.Rk05 (Qa.psk05_68 x2 c3 w3 w4 w5) F 0 = F (Qa.psk05_35 x2 c3 w3 w4 w5) := by
 intro F
 kernel_rfl
set_option maxRecDepth 100000 in
theorem Qa.pnk05_61_3 : ∀ F : St → Option YJ,step1 Qa.E Qa.Rk05 (Qa.psk05_68 x2 c3 w3 w4 w5) F 3 = F (Qa.psk05_69 x2 c3 w3 w4 w5) := by
 intro F
 kernel_rfl
set_option maxRecDepth 100000 in
theorem Qa.pnk05_61_a : restM Qa.E Qa.Rk05 614 = false ∧ rdyM Qa.Rk05 614 = [0,3] ∧ Vp Qa.Rk05 614 [0,3] = none := by
 refine ⟨by kernel_rfl,by kernel_rfl,by kernel_rfl⟩
theorem Qa.pnk05_61 : Vc Qa.E Qa.Rk05 6 614 (Qa.psk05_68 x2 c3 w3 w4 w5) (Qa.pKk05 n x) = Qa.glk05 n x k x2 c3 w3 w4 w5 :=
  (Vl Qa.pnk05_61_a).trans (Vk (by
    intro i hi
    simp only [List.mem_cons,List.not_mem_nil,or_false] at hi
    rcases hi with rfl | rfl
    · exact (Qa.pnk05_61_0 x2 c3 w3 w4 w5 _).trans (Qa.plk05_12 n x k x2 c3 w3 w4 w5)
    · exact (Qa.pnk05_61_3 x2 c3 w3 w4 w5 _).trans (Qa.plk05_28 n x k x2 c3 w3 w4 w5)) )
set_option maxRecDepth 100000 in
theorem Qa.pnk05_62_0 : ∀ F : St → Option YJ,step1 Qa.E Qa.Rk05 (Qa.psk05_66 x2 c3 w3 w4 w5) F 0 = F (Qa.psk05_33 x2 c3 w3 w4 w5) := by
 intro F
 kernel_rfl
set_option maxRecDepth 100000 in
theorem Qa.pnk05_62_3 : ∀ F : St → Option YJ,step1 Qa.E Qa.Rk05 (Qa.psk05_66 x2 c3 w3 w4 w5) F 3 = F (Qa.psk05_57 x2 c3 w3 w4 w5) := by
 intro F
 kernel_rfl
set_option maxRecDepth 100000 in
theorem Qa.pnk05_62_9 : ∀ F : St → Option YJ,step1 Qa.E Qa.Rk05 (Qa.psk05_66 x2 c3 w3 w4 w5) F 9 = F (Qa.psk05_68 x2 c3 w3 w4 w5) := by
 intro F
 kernel_rfl
set_option maxRecDepth 100000 in
theorem Qa.pnk05_62_a : restM Qa.E Qa.Rk05 102 = false ∧ rdyM Qa.Rk05 102 = [0,3,9] ∧ Vp Qa.Rk05 102 [0,3,9] = none := by
 refine ⟨by kernel_rfl,by kernel_rfl,by kernel_rfl⟩
theorem Qa.pnk05_62 : Vc Qa.E Qa.Rk05 7 102 (Qa.psk05_66 x2 c3 w3 w4 w5) (Qa.pKk05 n x) = Qa.glk05 n x k x2 c3 w3 w4 w5 :=
  (Vl Qa.pnk05_62_a).trans (Vk (by
    intro i hi
    simp only [List.mem_cons,List.not_mem_nil,or_false] at hi
    rcases hi with rfl | rfl | rfl
    · exact (Qa.pnk05_62_0 x2 c3 w3 w4 w5 _).trans (Qa.pnk05_23 n x k x2 c3 w3 w4 w5)
    · exact (Qa.pnk05_62_3 x2 c3 w3 w4 w5 _).trans (Qa.plk05_23 n x k x2 c3 w3 w4 w5)
    · exact (Qa.pnk05_62_9 x2 c3 w3 w4 w5 _).trans (Qa.pnk05_61 n x k x2 c3 w3 w4 w5)) )
set_option maxRecDepth 100000 in
theorem Qa.plk05_29 : Vc Qa.E Qa.Rk05 5 615 (Qa.psk05_71 x2 c3 w3 w4 w5) (Qa.pKk05 n x) = Qa.glk05 n x k x2 c3 w3 w4 w5 := by
 have h : Vc Qa.E Qa.Rk05 5 615 (Qa.psk05_71 x2 c3 w3 w4 w5) (Qa.pKk05 n x) = Qa.ptk05_29 (fun w2 w3 w4 w5 w6 w7 => Qa.LNk06 n x n (Qa.stk06 w2 w3 w4 w5 w6 w7)) (fun x2 c3 w3 w4 w5 => Qa.LNk05 n x k (Qa.stk05 x2 c3 w3 w4 w5)) x2 c3 w3 w4 w5 := by kernel_rfl
 rw [h,Qa.ptk05_29_eq]
 rfl
set_option maxRecDepth 100000 in
theorem Qa.pnk05_64_0 : ∀ F : St → Option YJ,step1 Qa.E Qa.Rk05 (Qa.psk05_70 x2 c3 w3 w4 w5) F 0 = F (Qa.psk05_71 x2 c3 w3 w4 w5) := by
 intro F
 kernel_rfl
set_option maxRecDepth 100000 in
theorem Qa.pnk05_64_3 : ∀ F : St → Option YJ,step1 Qa.E Qa.Rk05 (Qa.psk05_70 x2 c3 w3 w4 w5) F 3 = F (Qa.psk05_59 x2 c3 w3 w4 w5) := by
 intro F
 kernel_rfl
set_option maxRecDepth 100000 in
theorem Qa.pnk05_64_a : restM Qa.E Qa.Rk05 614 = false ∧ rdyM Qa.Rk05 614 = [0,3] ∧ Vp Qa.Rk05 614 [0,3] = none := by
 refine ⟨by kernel_rfl,by kernel_rfl,by kernel_rfl⟩
theorem Qa.pnk05_64 : Vc Qa.E Qa.Rk05 6 614 (Qa.psk05_70 x2 c3 w3 w4 w5) (Qa.pKk05 n x) = Qa.glk05 n x k x2 c3 w3 w4 w5 :=
  (Vl Qa.pnk05_64_a).trans (Vk (by
    intro i hi
    simp only [List.mem_cons,List.not_mem_nil,or_false] at hi
    rcases hi with rfl | rfl
    · exact (Qa.pnk05_64_0 x2 c3 w3 w4 w5 _).trans (Qa.plk05_29 n x k x2 c3 w3 w4 w5)
    · exact (Qa.pnk05_64_3 x2 c3 w3 w4 w5 _).trans (Qa.plk05_24 n x k x2 c3 w3 w4 w5)) )
set_option maxRecDepth 100000 in
theorem Qa.pnk05_65_0 : ∀ F : St → Option YJ,step1 Qa.E Qa.Rk05 (Qa.psk05_67 x2 c3 w3 w4 w5) F 0 = F (Qa.psk05_34 x2 c3 w3 w4 w5) := by
 intro F
 kernel_rfl
set_option maxRecDepth 100000 in
theorem Qa.pnk05_65_1 : ∀ F : St → Option YJ,step1 Qa.E Qa.Rk05 (Qa.psk05_67 x2 c3 w3 w4 w5) F 1 = F (Qa.psk05_70 x2 c3 w3 w4 w5) := by
 intro F
 kernel_rfl
set_option maxRecDepth 100000 in
theorem Qa.pnk05_65_3 : ∀ F : St → Option YJ,step1 Qa.E Qa.Rk05 (Qa.psk05_67 x2 c3 w3 w4 w5) F 3 = F (Qa.psk05_58 x2 c3 w3 w4 w5) := by
 intro F
 kernel_rfl
set_option maxRecDepth 100000 in
theorem Qa.pnk05_65_a : restM Qa.E Qa.Rk05 612 = false ∧ rdyM Qa.Rk05 612 = [0,1,3] ∧ Vp Qa.Rk05 612 [0,1,3] = none := by
 refine ⟨by kernel_rfl,by kernel_rfl,by kernel_rfl⟩
theorem Qa.pnk05_65 : Vc Qa.E Qa.Rk05 7 612 (Qa.psk05_67 x2 c3 w3 w4 w5) (Qa.pKk05 n x) = Qa.glk05 n x k x2 c3 w3 w4 w5 :=
  (Vl Qa.pnk05_65_a).trans (Vk (by
    intro i hi
    simp only [List.mem_cons,List.not_mem_nil,or_false] at hi
    rcases hi with rfl | rfl | rfl
    · exact (Qa.pnk05_65_0 x2 c3 w3 w4 w5 _).trans (Qa.plk05_13 n x k x2 c3 w3 w4 w5)
    · exact (Qa.pnk05_65_1 x2 c3 w3 w4 w5 _).trans (Qa.pnk05_64 n x k x2 c3 w3 w4 w5)
    · exact (Qa.pnk05_65_3 x2 c3 w3 w4 w5 _).trans (Qa.pnk05_50 n x k x2 c3 w3 w4 w5)) )
set_option maxRecDepth 100000 in
theorem Qa.pnk05_66_0 : ∀ F : St → Option YJ,step1 Qa.E Qa.Rk05 (Qa.psk05_64 x2 c3 w3 w4 w5) F 0 = F (Qa.psk05_31 x2 c3 w3 w4 w5) := by
 intro F
 kernel_rfl
set_option maxRecDepth 100000 in
theorem Qa.pnk05_66_1 : ∀ F : St → Option YJ,step1 Qa.E Qa.Rk05 (Qa.psk05_64 x2 c3 w3 w4 w5) F 1 = F (Qa.psk05_66 x2 c3 w3 w4 w5) := by
 intro F
 kernel_rfl
set_option maxRecDepth 100000 in
theorem Qa.pnk05_66_3 : ∀ F : St → Option YJ,step1 Qa.E Qa.Rk05 (Qa.psk05_64 x2 c3 w3 w4 w5) F 3 = F (Qa.psk05_55 x2 c3 w3 w4 w5) := by
 intro F
 kernel_rfl
set_option maxRecDepth 100000 in
theorem Qa.pnk05_66_9 : ∀ F : St → Option YJ,step1 Qa.E Qa.Rk05 (Qa.psk05_64 x2 c3 w3 w4 w5) F 9 = F (Qa.psk05_67 x2 c3 w3 w4 w5) := by
 intro F
 kernel_rfl
set_option maxRecDepth 100000 in
theorem Qa.pnk05_66_a : restM Qa.E Qa.Rk05 100 = false ∧ rdyM Qa.Rk05 100 = [0,1,3,9] ∧ Vp Qa.Rk05 100 [0,1,3,9] = none := by
 refine ⟨by kernel_rfl,by kernel_rfl,by kernel_rfl⟩
theorem Qa.pnk05_66 : Vc Qa.E Qa.Rk05 8 100 (Qa.psk05_64 x2 c3 w3 w4 w5) (Qa.pKk05 n x) = Qa.glk05 n x k x2 c3 w3 w4 w5 :=
  (Vl Qa.pnk05_66_a).trans (Vk (by
    intro i hi
    simp only [List.mem_cons,List.not_mem_nil,or_false] at hi
    rcases hi with rfl | rfl | rfl | rfl
    · exact (Qa.pnk05_66_0 x2 c3 w3 w4 w5 _).trans (Qa.pnk05_25 n x k x2 c3 w3 w4 w5)
    · exact (Qa.pnk05_66_1 x2 c3 w3 w4 w5 _).trans (Qa.pnk05_62 n x k x2 c3 w3 w4 w5)
    · exact (Qa.pnk05_66_3 x2 c3 w3 w4 w5 _).trans (Qa.pnk05_51 n x k x2 c3 w3 w4 w5)
    · exact (Qa.pnk05_66_9 x2 c3 w3 w4 w5 _).trans (Qa.pnk05_65 n x k x2 c3 w3 w4 w5)) )
set_option maxRecDepth 100000 in
theorem Qa.plk05_30 : Vc Qa.E Qa.Rk05 5 622 (Qa.psk05_75 x2 c3 w3 w4 w5) (Qa.pKk05 n x) = Qa.glk05 n x k x2 c3 w3 w4 w5 := by
 have h : Vc Qa.E Qa.Rk05 5 622 (Qa.psk05_75 x2 c3 w3 w4 w5) (Qa.pKk05 n x) = Qa.ptk05_30 (fun w2 w3 w4 w5 w6 w7 => Qa.LNk06 n x n (Qa.stk06 w2 w3 w4 w5 w6 w7)) (fun x2 c3 w3 w4 w5 => Qa.LNk05 n x k (Qa.stk05 x2 c3 w3 w4 w5)) x2 c3 w3 w4 w5 := by kernel_rfl
 rw [h,Qa.ptk05_30_eq]
 rfl
set_option maxRecDepth 100000 in
theorem Qa.pnk05_68_0 : ∀ F : St → Option YJ,step1 Qa.E Qa.Rk05 (Qa.psk05_74 x2 c3 w3 w4 w5) F 0 = F (Qa.psk05_38 x2 c3 w3 w4 w5) := by
 intro F
 kernel_rfl
set_option maxRecDepth 100000 in
theorem Qa.pnk05_68_3 : ∀ F : St → Option YJ,step1 Qa.E Qa.Rk05 (Qa.psk05_74 x2 c3 w3 w4 w5) F 3 = F (Qa.psk05_75 x2 c3 w3 w4 w5) := by
 intro F
 kernel_rfl
set_option maxRecDepth 100000 in
theorem Qa.pnk05_68_a : restM Qa.E Qa.Rk05 614 = false ∧ rdyM Qa.Rk05 614 = [0,3] ∧ Vp Qa.Rk05 614 [0,3] = none := by
 refine ⟨by kernel_rfl,by kernel_rfl,by kernel_rfl⟩
theorem Qa.pnk05_68 : Vc Qa.E Qa.Rk05 6 614 (Qa.psk05_74 x2 c3 w3 w4 w5) (Qa.pKk05 n x) = Qa.glk05 n x k x2 c3 w3 w4 w5 :=
  (Vl Qa.pnk05_68_a).trans (Vk (by
    intro i hi
    simp only [List.mem_cons,List.not_mem_nil,or_false] at hi
    rcases hi with rfl | rfl
    · exact (Qa.pnk05_68_0 x2 c3 w3 w4 w5 _).trans (Qa.plk05_14 n x k x2 c3 w3 w4 w5)
    · exact (Qa.pnk05_68_3 x2 c3 w3 w4 w5 _).trans (Qa.plk05_30 n x k x2 c3 w3 w4 w5)) )
set_option maxRecDepth 100000 in
theorem Qa.pnk05_69_0 : ∀ F : St → Option YJ,step1 Qa.E Qa.Rk05 (Qa.psk05_72 x2 c3 w3 w4 w5) F 0 = F (Qa.psk05_36 x2 c3 w3 w4 w5) := by
 intro F
 kernel_rfl
set_option maxRecDepth 100000 in
theorem Qa.pnk05_69_3 : ∀ F : St → Option YJ,step1 Qa.E Qa.Rk05 (Qa.psk05_72 x2 c3 w3 w4 w5) F 3 = F (Qa.psk05_60 x2 c3 w3 w4 w5) := by
 intro F
 kernel_rfl
set_option maxRecDepth 100000 in
theorem Qa.pnk05_69_6 : ∀ F : St → Option YJ,step1 Qa.E Qa.Rk05 (Qa.psk05_72 x2 c3 w3 w4 w5) F 6 = F (Qa.psk05_74 x2 c3 w3 w4 w5) := by
 intro F
 kernel_rfl
set_option maxRecDepth 100000 in
theorem Qa.pnk05_69_a : restM Qa.E Qa.Rk05 550 = false ∧ rdyM Qa.Rk05 550 = [0,3,6] ∧ Vp Qa.Rk05 550 [0,3,6] = none := by
 refine ⟨by kernel_rfl,by kernel_rfl,by kernel_rfl⟩
theorem Qa.pnk05_69 : Vc Qa.E Qa.Rk05 7 550 (Qa.psk05_72 x2 c3 w3 w4 w5) (Qa.pKk05 n x) = Qa.glk05 n x k x2 c3 w3 w4 w5 :=
  (Vl Qa.pnk05_69_a).trans (Vk (by
    intro i hi
    simp only [List.mem_cons,List.not_mem_nil,or_false] at hi
    rcases hi with rfl | rfl | rfl
    · exact (Qa.pnk05_69_0 x2 c3 w3 w4 w5 _).trans (Qa.pnk05_27 n x k x2 c3 w3 w4 w5)
    · exact (Qa.pnk05_69_3 x2 c3 w3 w4 w5 _).trans (Qa.plk05_25 n x k x2 c3 w3 w4 w5)
    · exact (Qa.pnk05_69_6 x2 c3 w3 w4 w5 _).trans (Qa.pnk05_68 n x k x2 c3 w3 w4 w5)) )
set_option maxRecDepth 100000 in
theorem Qa.plk05_31 : Vc Qa.E Qa.Rk05 5 615 (Qa.psk05_77 x2 c3 w3 w4 w5) (Qa.pKk05 n x) = Qa.glk05 n x k x2 c3 w3 w4 w5 := by
 have h : Vc Qa.E Qa.Rk05 5 615 (Qa.psk05_77 x2 c3 w3 w4 w5) (Qa.pKk05 n x) = Qa.ptk05_31 (fun w2 w3 w4 w5 w6 w7 => Qa.LNk06 n x n (Qa.stk06 w2 w3 w4 w5 w6 w7)) (fun x2 c3 w3 w4 w5 => Qa.LNk05 n x k (Qa.stk05 x2 c3 w3 w4 w5)) x2 c3 w3 w4 w5 := by kernel_rfl
 rw [h,Qa.ptk05_31_eq]
 rfl
set_option maxRecDepth 100000 in
theorem Qa.pnk05_71_0 : ∀ F : St → Option YJ,step1 Qa.E Qa.Rk05 (Qa.psk05_76 x2 c3 w3 w4 w5) F 0 = F (Qa.psk05_77 x2 c3 w3 w4 w5) := by
 intro F
 kernel_rfl
set_option maxRecDepth 100000 in
theorem Qa.pnk05_71_3 : ∀ F : St → Option YJ,step1 Qa.E Qa.Rk05 (Qa.psk05_76 x2 c3 w3 w4 w5) F 3 = F (Qa.psk05_62 x2 c3 w3 w4 w5) := by
 intro F
 kernel_rfl
set_option maxRecDepth 100000 in
theorem Qa.pnk05_71_a : restM Qa.E Qa.Rk05 614 = false ∧ rdyM Qa.Rk05 614 = [0,3] ∧ Vp Qa.Rk05 614 [0,3] = none := by
 refine ⟨by kernel_rfl,by kernel_rfl,by kernel_rfl⟩
theorem Qa.pnk05_71 : Vc Qa.E Qa.Rk05 6 614 (Qa.psk05_76 x2 c3 w3 w4 w5) (Qa.pKk05 n x) = Qa.glk05 n x k x2 c3 w3 w4 w5 :=
  (Vl Qa.pnk05_71_a).trans (Vk (by
    intro i hi
    simp only [List.mem_cons,List.not_mem_nil,or_false] at hi
    rcases hi with rfl | rfl
    · exact (Qa.pnk05_71_0 x2 c3 w3 w4 w5 _).trans (Qa.plk05_31 n x k x2 c3 w3 w4 w5)
    · exact (Qa.pnk05_71_3 x2 c3 w3 w4 w5 _).trans (Qa.plk05_26 n x k x2 c3 w3 w4 w5)) )
set_option maxRecDepth 100000 in
theorem Qa.pnk05_72_0 : ∀ F : St → Option YJ,step1 Qa.E Qa.Rk05 (Qa.psk05_73 x2 c3 w3 w4 w5) F 0 = F (Qa.psk05_37 x2 c3 w3 w4 w5) := by
 intro F
 kernel_rfl
set_option maxRecDepth 100000 in
theorem Qa.pnk05_72_1 : ∀ F : St → Option YJ,step1 Qa.E Qa.Rk05 (Qa.psk05_73 x2 c3 w3 w4 w5) F 1 = F (Qa.psk05_76 x2 c3 w3 w4 w5) := by
 intro F
 kernel_rfl
set_option maxRecDepth 100000 in
theorem Qa.pnk05_72_3 : ∀ F : St → Option YJ,step1 Qa.E Qa.Rk05 (Qa.psk05_73 x2 c3 w3 w4 w5) F 3 = F (Qa.psk05_61 x2 c3 w3 w4 w5) := by
 intro F
 kernel_rfl
set_option maxRecDepth 100000 in
theorem Qa.pnk05_72_a : restM Qa.E Qa.Rk05 612 = false ∧ rdyM Qa.Rk05 612 = [0,1,3] ∧ Vp Qa.Rk05 612 [0,1,3] = none := by
 refine ⟨by kernel_rfl,by kernel_rfl,by kernel_rfl⟩
theorem Qa.pnk05_72 : Vc Qa.E Qa.Rk05 7 612 (Qa.psk05_73 x2 c3 w3 w4 w5) (Qa.pKk05 n x) = Qa.glk05 n x k x2 c3 w3 w4 w5 :=
  (Vl Qa.pnk05_72_a).trans (Vk (by
    intro i hi
    simp only [List.mem_cons,List.not_mem_nil,or_false] at hi
    rcases hi with rfl | rfl | rfl
    · exact (Qa.pnk05_72_0 x2 c3 w3 w4 w5 _).trans (Qa.plk05_15 n x k x2 c3 w3 w4 w5)
    · exact (Qa.pnk05_72_1 x2 c3 w3 w4 w5 _).trans (Qa.pnk05_71 n x k x2 c3 w3 w4 w5)
    · exact (Qa.pnk05_72_3 x2 c3 w3 w4 w5 _).trans (Qa.pnk05_54 n x k x2 c3 w3 w4 w5)) )
set_option maxRecDepth 100000 in
theorem Qa.pnk05_73_0 : ∀ F : St → Option YJ,step1 Qa.E Qa.Rk05 (Qa.psk05_65 x2 c3 w3 w4 w5) F 0 = F (Qa.psk05_32 x2 c3 w3 w4 w5) := by
 intro F
 kernel_rfl
set_option maxRecDepth 100000 in
theorem Qa.pnk05_73_1 : ∀ F : St → Option YJ,step1 Qa.E Qa.Rk05 (Qa.psk05_65 x2 c3 w3 w4 w5) F 1 = F (Qa.psk05_72 x2 c3 w3 w4 w5) := by
 intro F
 kernel_rfl
set_option maxRecDepth 100000 in
theorem Qa.pnk05_73_3 : ∀ F : St → Option YJ,step1 Qa.E Qa.Rk05 (Qa.psk05_65 x2 c3 w3 w4 w5) F 3 = F (Qa.psk05_56 x2 c3 w3 w4 w5) := by
 intro F
 kernel_rfl
set_option maxRecDepth 100000 in
theorem Qa.pnk05_73_6 : ∀ F : St → Option YJ,step1 Qa.E Qa.Rk05 (Qa.psk05_65 x2 c3 w3 w4 w5) F 6 = F (Qa.psk05_73 x2 c3 w3 w4 w5) := by
 intro F
 kernel_rfl
set_option maxRecDepth 100000 in
theorem Qa.pnk05_73_a : restM Qa.E Qa.Rk05 548 = false ∧ rdyM Qa.Rk05 548 = [0,1,3,6] ∧ Vp Qa.Rk05 548 [0,1,3,6] = none := by
 refine ⟨by kernel_rfl,by kernel_rfl,by kernel_rfl⟩
theorem Qa.pnk05_73 : Vc Qa.E Qa.Rk05 8 548 (Qa.psk05_65 x2 c3 w3 w4 w5) (Qa.pKk05 n x) = Qa.glk05 n x k x2 c3 w3 w4 w5 :=
  (Vl Qa.pnk05_73_a).trans (Vk (by
    intro i hi
    simp only [List.mem_cons,List.not_mem_nil,or_false] at hi
    rcases hi with rfl | rfl | rfl | rfl
    · exact (Qa.pnk05_73_0 x2 c3 w3 w4 w5 _).trans (Qa.pnk05_29 n x k x2 c3 w3 w4 w5)
    · exact (Qa.pnk05_73_1 x2 c3 w3 w4 w5 _).trans (Qa.pnk05_69 n x k x2 c3 w3 w4 w5)
    · exact (Qa.pnk05_73_3 x2 c3 w3 w4 w5 _).trans (Qa.pnk05_55 n x k x2 c3 w3 w4 w5)
    · exact (Qa.pnk05_73_6 x2 c3 w3 w4 w5 _).trans (Qa.pnk05_72 n x k x2 c3 w3 w4 w5)) )
set_option maxRecDepth 100000 in
theorem Qa.pnk05_74_0 : ∀ F : St → Option YJ,step1 Qa.E Qa.Rk05 (Qa.psk05_5 x2 c3 w3 w4 w5) F 0 = F (Qa.psk05_9 x2 c3 w3 w4 w5) := by
 intro F
 kernel_rfl
set_option maxRecDepth 100000 in
theorem Qa.pnk05_74_1 : ∀ F : St → Option YJ,step1 Qa.E Qa.Rk05 (Qa.psk05_5 x2 c3 w3 w4 w5) F 1 = F (Qa.psk05_41 x2 c3 w3 w4 w5) := by
 intro F
 kernel_rfl
set_option maxRecDepth 100000 in
theorem Qa.pnk05_74_3 : ∀ F : St → Option YJ,step1 Qa.E Qa.Rk05 (Qa.psk05_5 x2 c3 w3 w4 w5) F 3 = F (Qa.psk05_53 x2 c3 w3 w4 w5) := by
 intro F
 kernel_rfl
set_option maxRecDepth 100000 in
theorem Qa.pnk05_74_6 : ∀ F : St → Option YJ,step1 Qa.E Qa.Rk05 (Qa.psk05_5 x2 c3 w3 w4 w5) F 6 = F (Qa.psk05_64 x2 c3 w3 w4 w5) := by
 intro F
 kernel_rfl
set_option maxRecDepth 100000 in
theorem Qa.pnk05_74_9 : ∀ F : St → Option YJ,step1 Qa.E Qa.Rk05 (Qa.psk05_5 x2 c3 w3 w4 w5) F 9 = F (Qa.psk05_65 x2 c3 w3 w4 w5) := by
 intro F
 kernel_rfl
set_option maxRecDepth 100000 in
theorem Qa.pnk05_74_a : restM Qa.E Qa.Rk05 36 = false ∧ rdyM Qa.Rk05 36 = [0,1,3,6,9] ∧ Vp Qa.Rk05 36 [0,1,3,6,9] = none := by
 refine ⟨by kernel_rfl,by kernel_rfl,by kernel_rfl⟩
theorem Qa.pnk05_74 : Vc Qa.E Qa.Rk05 9 36 (Qa.psk05_5 x2 c3 w3 w4 w5) (Qa.pKk05 n x) = Qa.glk05 n x k x2 c3 w3 w4 w5 :=
  (Vl Qa.pnk05_74_a).trans (Vk (by
    intro i hi
    simp only [List.mem_cons,List.not_mem_nil,or_false] at hi
    rcases hi with rfl | rfl | rfl | rfl | rfl
    · exact (Qa.pnk05_74_0 x2 c3 w3 w4 w5 _).trans (Qa.pnk05_30 n x k x2 c3 w3 w4 w5)
    · exact (Qa.pnk05_74_1 x2 c3 w3 w4 w5 _).trans (Qa.pnk05_44 n x k x2 c3 w3 w4 w5)
    · exact (Qa.pnk05_74_3 x2 c3 w3 w4 w5 _).trans (Qa.pnk05_56 n x k x2 c3 w3 w4 w5)
    · exact (Qa.pnk05_74_6 x2 c3 w3 w4 w5 _).trans (Qa.pnk05_66 n x k x2 c3 w3 w4 w5)
    · exact (Qa.pnk05_74_9 x2 c3 w3 w4 w5 _).trans (Qa.pnk05_73 n x k x2 c3 w3 w4 w5)) )
set_option maxRecDepth 100000 in
theorem Qa.pnk05_75_0 : ∀ F : St → Option YJ,step1 Qa.E Qa.Rk05 (Qa.psk05_78 x2 c3 w3 w4 w5) F 0 = F (Qa.psk05_39 x2 c3 w3 w4 w5) := by
 intro F
 kernel_rfl
set_option maxRecDepth 100000 in
theorem Qa.pnk05_75_3 : ∀ F : St → Option YJ,step1 Qa.E Qa.Rk05 (Qa.psk05_78 x2 c3 w3 w4 w5) F 3 = F (Qa.psk05_63 x2 c3 w3 w4 w5) := by
 intro F
 kernel_rfl
set_option maxRecDepth 100000 in
theorem Qa.pnk05_75_5 : ∀ F : St → Option YJ,step1 Qa.E Qa.Rk05 (Qa.psk05_78 x2 c3 w3 w4 w5) F 5 = F (Qa.psk05_72 x2 c3 w3 w4 w5) := by
 intro F
 kernel_rfl
set_option maxRecDepth 100000 in
theorem Qa.pnk05_75_a : restM Qa.E Qa.Rk05 518 = false ∧ rdyM Qa.Rk05 518 = [0,3,5] ∧ Vp Qa.Rk05 518 [0,3,5] = none := by
 refine ⟨by kernel_rfl,by kernel_rfl,by kernel_rfl⟩
theorem Qa.pnk05_75 : Vc Qa.E Qa.Rk05 8 518 (Qa.psk05_78 x2 c3 w3 w4 w5) (Qa.pKk05 n x) = Qa.glk05 n x k x2 c3 w3 w4 w5 :=
  (Vl Qa.pnk05_75_a).trans (Vk (by
    intro i hi
    simp only [List.mem_cons,List.not_mem_nil,or_false] at hi
    rcases hi with rfl | rfl | rfl
    · exact (Qa.pnk05_75_0 x2 c3 w3 w4 w5 _).trans (Qa.pnk05_31 n x k x2 c3 w3 w4 w5)
    · exact (Qa.pnk05_75_3 x2 c3 w3 w4 w5 _).trans (Qa.plk05_27 n x k x2 c3 w3 w4 w5)
    · exact (Qa.pnk05_75_5 x2 c3 w3 w4 w5 _).trans (Qa.pnk05_69 n x k x2 c3 w3 w4 w5)) )
set_option maxRecDepth 100000 in
theorem Qa.pnk05_76_0 : ∀ F : St → Option YJ,step1 Qa.E Qa.Rk05 (Qa.psk05_6 x2 c3 w3 w4 w5) F 0 = F (Qa.psk05_10 x2 c3 w3 w4 w5) := by
 intro F
 kernel_rfl
set_option maxRecDepth 100000 in
theorem Qa.pnk05_76_1 : ∀ F : St → Option YJ,step1 Qa.E Qa.Rk05 (Qa.psk05_6 x2 c3 w3 w4 w5) F 1 = F (Qa.psk05_78 x2 c3 w3 w4 w5) := by
 intro F
 kernel_rfl
set_option maxRecDepth 100000 in
theorem Qa.pnk05_76_3 : ∀ F : St → Option YJ,step1 Qa.E Qa.Rk05 (Qa.psk05_6 x2 c3 w3 w4 w5) F 3 = F (Qa.psk05_54 x2 c3 w3 w4 w5) := by
 intro F
 kernel_rfl
set_option maxRecDepth 100000 in
theorem Qa.pnk05_76_5 : ∀ F : St → Option YJ,step1 Qa.E Qa.Rk05 (Qa.psk05_6 x2 c3 w3 w4 w5) F 5 = F (Qa.psk05_65 x2 c3 w3 w4 w5) := by
 intro F
 kernel_rfl
set_option maxRecDepth 100000 in
theorem Qa.pnk05_76_a : restM Qa.E Qa.Rk05 516 = false ∧ rdyM Qa.Rk05 516 = [0,1,3,5] ∧ Vp Qa.Rk05 516 [0,1,3,5] = none := by
 refine ⟨by kernel_rfl,by kernel_rfl,by kernel_rfl⟩
theorem Qa.pnk05_76 : Vc Qa.E Qa.Rk05 9 516 (Qa.psk05_6 x2 c3 w3 w4 w5) (Qa.pKk05 n x) = Qa.glk05 n x k x2 c3 w3 w4 w5 :=
  (Vl Qa.pnk05_76_a).trans (Vk (by
    intro i hi
    simp only [List.mem_cons,List.not_mem_nil,or_false] at hi
    rcases hi with rfl | rfl | rfl | rfl
    · exact (Qa.pnk05_76_0 x2 c3 w3 w4 w5 _).trans (Qa.pnk05_32 n x k x2 c3 w3 w4 w5)
    · exact (Qa.pnk05_76_1 x2 c3 w3 w4 w5 _).trans (Qa.pnk05_75 n x k x2 c3 w3 w4 w5)
    · exact (Qa.pnk05_76_3 x2 c3 w3 w4 w5 _).trans (Qa.pnk05_58 n x k x2 c3 w3 w4 w5)
    · exact (Qa.pnk05_76_5 x2 c3 w3 w4 w5 _).trans (Qa.pnk05_73 n x k x2 c3 w3 w4 w5)) )
set_option maxRecDepth 100000 in
theorem Qa.pnk05_77_0 : ∀ F : St → Option YJ,step1 Qa.E Qa.Rk05 (Qa.psk05_1 x2 c3 w3 w4 w5) F 0 = F (Qa.psk05_2 x2 c3 w3 w4 w5) := by
 intro F
 kernel_rfl
set_option maxRecDepth 100000 in
theorem Qa.pnk05_77_1 : ∀ F : St → Option YJ,step1 Qa.E Qa.Rk05 (Qa.psk05_1 x2 c3 w3 w4 w5) F 1 = F (Qa.psk05_3 x2 c3 w3 w4 w5) := by
 intro F
 kernel_rfl
set_option maxRecDepth 100000 in
theorem Qa.pnk05_77_3 : ∀ F : St → Option YJ,step1 Qa.E Qa.Rk05 (Qa.psk05_1 x2 c3 w3 w4 w5) F 3 = F (Qa.psk05_4 x2 c3 w3 w4 w5) := by
 intro F
 kernel_rfl
set_option maxRecDepth 100000 in
theorem Qa.pnk05_77_5 : ∀ F : St → Option YJ,step1 Qa.E Qa.Rk05 (Qa.psk05_1 x2 c3 w3 w4 w5) F 5 = F (Qa.psk05_5 x2 c3 w3 w4 w5) := by
 intro F
 kernel_rfl
set_option maxRecDepth 100000 in
theorem Qa.pnk05_77_9 : ∀ F : St → Option YJ,step1 Qa.E Qa.Rk05 (Qa.psk05_1 x2 c3 w3 w4 w5) F 9 = F (Qa.psk05_6 x2 c3 w3 w4 w5) := by
 intro F
 kernel_rfl
set_option maxRecDepth 100000 in
theorem Qa.pnk05_77_a : restM Qa.E Qa.Rk05 4 = false ∧ rdyM Qa.Rk05 4 = [0,1,3,5,9] ∧ Vp Qa.Rk05 4 [0,1,3,5,9] = none := by
 refine ⟨by kernel_rfl,by kernel_rfl,by kernel_rfl⟩
theorem Qa.pnk05_77 : Vc Qa.E Qa.Rk05 10 4 (Qa.psk05_1 x2 c3 w3 w4 w5) (Qa.pKk05 n x) = Qa.glk05 n x k x2 c3 w3 w4 w5 :=
  (Vl Qa.pnk05_77_a).trans (Vk (by
    intro i hi
    simp only [List.mem_cons,List.not_mem_nil,or_false] at hi
    rcases hi with rfl | rfl | rfl | rfl | rfl
    · exact (Qa.pnk05_77_0 x2 c3 w3 w4 w5 _).trans (Qa.pnk05_33 n x k x2 c3 w3 w4 w5)
    · exact (Qa.pnk05_77_1 x2 c3 w3 w4 w5 _).trans (Qa.pnk05_47 n x k x2 c3 w3 w4 w5)
    · exact (Qa.pnk05_77_3 x2 c3 w3 w4 w5 _).trans (Qa.pnk05_59 n x k x2 c3 w3 w4 w5)
    · exact (Qa.pnk05_77_5 x2 c3 w3 w4 w5 _).trans (Qa.pnk05_74 n x k x2 c3 w3 w4 w5)
    · exact (Qa.pnk05_77_9 x2 c3 w3 w4 w5 _).trans (Qa.pnk05_76 n x k x2 c3 w3 w4 w5)) )
set_option maxRecDepth 100000 in
theorem Qa.pnk05_78_2 : ∀ F : St → Option YJ,step1 Qa.E Qa.Rk05 (Qa.psk05_0 x2 c3 w3 w4 w5) F 2 = F (Qa.psk05_1 x2 c3 w3 w4 w5) := by
 intro F
 kernel_rfl
set_option maxRecDepth 100000 in
theorem Qa.pnk05_78_a : restM Qa.E Qa.Rk05 0 = false ∧ rdyM Qa.Rk05 0 = [0,1,2,5,9] ∧ Vp Qa.Rk05 0 [0,1,2,5,9] = some 2 := by
 refine ⟨by kernel_rfl,by kernel_rfl,by kernel_rfl⟩
theorem Qa.pnk05_78 : Vc Qa.E Qa.Rk05 11 0 (Qa.psk05_0 x2 c3 w3 w4 w5) (Qa.pKk05 n x) = Qa.glk05 n x k x2 c3 w3 w4 w5 :=
 (Ve4 Qa.pnk05_78_a).trans ((Qa.pnk05_78_2 x2 c3 w3 w4 w5 _).trans (Qa.pnk05_77 n x k x2 c3 w3 w4 w5))
end
set_option maxRecDepth 100000 in
theorem Qa.lemk05 (n : Nat) (x : YH × Int × Int × ByteArray × Int) : ∀ (k : Nat) (x2 : YF × YG × List YB) (c3 : Int × Int × ByteArray × Int) (w3 : List YC) (w4 : List YA) (w5 : List YB),Qa.LNk05 n x k (Qa.stk05 x2 c3 w3 w4 w5) = Qa.lk05 n k x2 c3 w3 w4 w5 := by
 intro k
 induction k with
 | zero => intro x2 c3 w3 w4 w5; rfl
 | succ k ih =>
  intro x2 c3 w3 w4 w5
  have m1 : Qa.LNk05 n x (k + 1) (Qa.stk05 x2 c3 w3 w4 w5) = Vc Qa.E Qa.Rk05 11 0 (Qa.psk05_0 x2 c3 w3 w4 w5) (Qa.pKk05 n x) := by kernel_rfl
  have h : Qa.LNk05 n x (k + 1) (Qa.stk05 x2 c3 w3 w4 w5) = Qa.gk05 (fun w2 w3 w4 w5 w6 w7 => Qa.LNk06 n x n (Qa.stk06 w2 w3 w4 w5 w6 w7)) (fun x2 c3 w3 w4 w5 => Qa.LNk05 n x k (Qa.stk05 x2 c3 w3 w4 w5)) x2 c3 w3 w4 w5 := m1.trans (Qa.pnk05_78 n x k x2 c3 w3 w4 w5)
  rw [h]
  simp only [ih,Qa.lemk06]
  rfl
set_option maxRecDepth 100000 in
theorem Qa.lemk03 (n : Nat) (x : YH × Int × Int × ByteArray × Int) : ∀ (k : Nat) (x2 : YF × YG × List YB) (c3 : Int × Int × ByteArray × Int) (w3 : List YC) (w4 : List YA) (w5 : List YB),Qa.LNk03 n x k (Qa.stk03 x2 c3 w3 w4 w5) = Qa.lk03 n k x2 c3 w3 w4 w5 := by
 intro k
 induction k with
 | zero => intro x2 c3 w3 w4 w5; rfl
 | succ k ih =>
  intro x2 c3 w3 w4 w5
  have h : Qa.LNk03 n x (k + 1) (Qa.stk03 x2 c3 w3 w4 w5) = Qa.gk03 (fun x2 c3 w3 w4 w5 => Qa.LNk05 n x n (Qa.stk05 x2 c3 w3 w4 w5)) (fun x2 c3 w3 w4 w5 => Qa.LNk03 n x k (Qa.stk03 x2 c3 w3 w4 w5)) x2 c3 w3 w4 w5 := by kernel_rfl
  rw [h]
  simp only [ih,Qa.lemk05]
  rfl
set_option maxRecDepth 100000 in
theorem Qa.lemk01 (n : Nat) (x : YH × Int × Int × ByteArray × Int) : ∀ (k : Nat) (x2 : YF × YG × List YB) (c3 : Int × Int × ByteArray × Int) (w3 : List YC) (w4 : List YA) (w5 : List YB),Qa.LNk01 n x k (Qa.stk01 x2 c3 w3 w4 w5) = Qa.lk01 n k x2 c3 w3 w4 w5 := by
 intro k
 induction k with
 | zero => intro x2 c3 w3 w4 w5; rfl
 | succ k ih =>
  intro x2 c3 w3 w4 w5
  have h : Qa.LNk01 n x (k + 1) (Qa.stk01 x2 c3 w3 w4 w5) = Qa.gk01 (fun x2 c3 w3 w4 w5 => Qa.LNk03 n x n (Qa.stk03 x2 c3 w3 w4 w5)) (fun x2 c3 w3 w4 w5 => Qa.LNk01 n x k (Qa.stk01 x2 c3 w3 w4 w5)) x2 c3 w3 w4 w5 := by kernel_rfl
  rw [h]
  simp only [ih,Qa.lemk03]
  rfl
set_option maxRecDepth 100000 in
theorem Qa.body (n : Nat) (x : YH × Int × Int × ByteArray × Int) : bodyF Qa.E Qa.keep n Tryz.f99 Qa.con x = Qa.fn n x.1 x.2 := by
 have h : bodyF Qa.E Qa.keep n Tryz.f99 Qa.con x = Qa.top (fun x2 c3 w3 w4 w5 => Qa.LNk01 n x n (Qa.stk01 x2 c3 w3 w4 w5)) x.1 x.2 := by kernel_rfl
 rw [h]
 simp only [Qa.lemk01]
 rfl
set_option maxRecDepth 100000 in
theorem Qa.good : Good Tryz.prog 99 Qa.con :=
 Vg tabok (cs := Qa.cs) ⟨Q4.good,Qh.good,trivial⟩ 0 false (fn := Tryz.f99) Tryz.func99 rfl (by decide) (by simp [Qa.con]) Qa.keep NN (fun _ => rfl) (fun x => Qa.body NN x)
end
end Go.Ev.Tryz

namespace Go.Ev.Tryz
open Go.Proofs Go.Pl
set_option linter.unusedVariables false
noncomputable section
def Qe.stk17 (n7 : Int) (q : Int) (s0 : List Int × Int × Int) (w4 : List YC) (w5 : List YA) (w6 : List YB) (w7 : List YC) (w8 : List YA) (w9 : List YB) (w10 : List YC) (w11 : List YA) (w12 : List YB) : St := ⟨[.ptr 0 [],.gone,.ptr 1 [],.ptr 2 [],.gone,.gone,.gone,.dat (.int .i64) n7,.gone,.gone,.ptr 3 [],.dat (.int .i64) q,.gone,.gone,.gone,.gone,.gone,.gone,.gone,.gone,.gone,.gone,.gone,.gone,.gone,.gone,.gone,.gone,.gone,.gone,.gone,.gone,.gone,.gone,.gone,.gone,.gone,.gone,.gone,.gone,.gone,.gone,.gone,.gone,.gone,.gone,.gone,.gone,.gone,.gone,.gone,.gone,.gone,.gone,.gone,.gone,.gone,.gone,.gone,.gone,.gone,.gone,.gone,.gone,.gone,.gone,.gone,.gone,.gone,.gone,.gone,.gone,.gone,.gone,.gone,.gone,.gone,.gone,.gone,.gone,.gone,.gone,.gone,.gone,.gone,.gone,.gone,.gone,.gone,.gone,.gone,.gone,.gone,.gone,.gone,.gone,.gone,.gone],[.box 98 (.pair (.sl 5 (.int .u8)) (.pair (.int .i64) (.int .i64))) (.dat (.pair (.sl 5 (.int .u8)) (.pair (.int .i64) (.int .i64))) s0),.box 36 (.pair (.sl 119 (.pair (.int .i64) (.int .i64))) (.pair (.sl 78 (.pair .str (.pair (.int .i64) (.pair (.int .i64) (.pair (.int .i64) (.pair (.int .i64) (.pair (.int .i64) (.pair (.int .i64) (.pair (.int .i64) (.int .i64)))))))))) (.sl 59 (.pair (.int .i64) (.pair (.int .i64) (.pair .str (.int .i64))))))) (.pr (.ref 4) (.pr (.ref 5) (.ref 6))),.box 36 (.pair (.sl 119 (.pair (.int .i64) (.int .i64))) (.pair (.sl 78 (.pair .str (.pair (.int .i64) (.pair (.int .i64) (.pair (.int .i64) (.pair (.int .i64) (.pair (.int .i64) (.pair (.int .i64) (.pair (.int .i64) (.int .i64)))))))))) (.sl 59 (.pair (.int .i64) (.pair (.int .i64) (.pair .str (.int .i64))))))) (.pr (.ref 7) (.pr (.ref 8) (.ref 9))),.box 36 (.pair (.sl 119 (.pair (.int .i64) (.int .i64))) (.pair (.sl 78 (.pair .str (.pair (.int .i64) (.pair (.int .i64) (.pair (.int .i64) (.pair (.int .i64) (.pair (.int .i64) (.pair (.int .i64) (.pair (.int .i64) (.int .i64)))))))))) (.sl 59 (.pair (.int .i64) (.pair (.int .i64) (.pair .str (.int .i64))))))) (.pr (.ref 10) (.pr (.ref 11) (.ref 12))),.row 119 (.pair (.int .i64) (.int .i64)) w4 none,.row 78 (.pair .str (.pair (.int .i64) (.pair (.int .i64) (.pair (.int .i64) (.pair (.int .i64) (.pair (.int .i64) (.pair (.int .i64) (.pair (.int .i64) (.int .i64))))))))) w5 none,.row 59 (.pair (.int .i64) (.pair (.int .i64) (.pair .str (.int .i64)))) w6 none,.row 119 (.pair (.int .i64) (.int .i64)) w7 none,.row 78 (.pair .str (.pair (.int .i64) (.pair (.int .i64) (.pair (.int .i64) (.pair (.int .i64) (.pair (.int .i64) (.pair (.int .i64) (.pair (.int .i64) (.int .i64))))))))) w8 none,.row 59 (.pair (.int .i64) (.pair (.int .i64) (.pair .str (.int .i64)))) w9 none,.row 119 (.pair (.int .i64) (.int .i64)) w10 none,.row 78 (.pair .str (.pair (.int .i64) (.pair (.int .i64) (.pair (.int .i64) (.pair (.int .i64) (.pair (.int .i64) (.pair (.int .i64) (.pair (.int .i64) (.int .i64))))))))) w11 none,.row 59 (.pair (.int .i64) (.pair (.int .i64) (.pair .str (.int .i64)))) w12 none]⟩
def Qe.stk16 (n7 : Int) (s0 : List Int × Int × Int) (c9a : Int) (u : Int) (s : ByteArray) (t : Int) (w4 : List YC) (w5 : List YA) (w6 : List YB) (w7 : List YC) (w8 : List YA) (w9 : List YB) : St := ⟨[.ptr 0 [],.gone,.ptr 1 [],.ptr 2 [],.gone,.gone,.gone,.dat (.int .i64) n7,.gone,.ptr 3 [],.gone,.gone,.gone,.gone,.gone,.gone,.gone,.gone,.gone,.gone,.gone,.gone,.gone,.gone,.gone,.gone,.gone,.gone,.gone,.gone,.gone,.gone,.gone,.gone,.gone,.gone,.gone,.gone,.gone,.gone,.gone,.gone,.gone,.gone,.gone,.gone,.gone,.gone,.gone,.gone,.gone,.gone,.gone,.gone,.gone,.gone,.gone,.gone,.gone,.gone,.gone,.gone,.gone,.gone,.gone,.gone,.gone,.gone,.gone,.gone,.gone,.gone,.gone,.gone,.gone,.gone,.gone,.gone,.gone,.gone,.gone,.gone,.gone,.gone,.gone,.gone,.gone,.gone,.gone,.gone,.gone,.gone,.gone,.gone,.gone,.gone,.gone,.gone],[.box 98 (.pair (.sl 5 (.int .u8)) (.pair (.int .i64) (.int .i64))) (.dat (.pair (.sl 5 (.int .u8)) (.pair (.int .i64) (.int .i64))) s0),.box 36 (.pair (.sl 119 (.pair (.int .i64) (.int .i64))) (.pair (.sl 78 (.pair .str (.pair (.int .i64) (.pair (.int .i64) (.pair (.int .i64) (.pair (.int .i64) (.pair (.int .i64) (.pair (.int .i64) (.pair (.int .i64) (.int .i64)))))))))) (.sl 59 (.pair (.int .i64) (.pair (.int .i64) (.pair .str (.int .i64))))))) (.pr (.ref 4) (.pr (.ref 5) (.ref 6))),.box 36 (.pair (.sl 119 (.pair (.int .i64) (.int .i64))) (.pair (.sl 78 (.pair .str (.pair (.int .i64) (.pair (.int .i64) (.pair (.int .i64) (.pair (.int .i64) (.pair (.int .i64) (.pair (.int .i64) (.pair (.int .i64) (.int .i64)))))))))) (.sl 59 (.pair (.int .i64) (.pair (.int .i64) (.pair .str (.int .i64))))))) (.pr (.ref 7) (.pr (.ref 8) (.ref 9))),.box 59 (.pair (.int .i64) (.pair (.int .i64) (.pair .str (.int .i64)))) (.pr (.dat (.int .i64) c9a) (.pr (.dat (.int .i64) u) (.pr (.dat .str s) (.dat (.int .i64) t)))),.row 119 (.pair (.int .i64) (.int .i64)) w4 none,.row 78 (.pair .str (.pair (.int .i64) (.pair (.int .i64) (.pair (.int .i64) (.pair (.int .i64) (.pair (.int .i64) (.pair (.int .i64) (.pair (.int .i64) (.int .i64))))))))) w5 none,.row 59 (.pair (.int .i64) (.pair (.int .i64) (.pair .str (.int .i64)))) w6 none,.row 119 (.pair (.int .i64) (.int .i64)) w7 none,.row 78 (.pair .str (.pair (.int .i64) (.pair (.int .i64) (.pair (.int .i64) (.pair (.int .i64) (.pair (.int .i64) (.pair (.int .i64) (.pair (.int .i64) (.int .i64))))))))) w8 none,.row 59 (.pair (.int .i64) (.pair (.int .i64) (.pair .str (.int .i64)))) w9 none]⟩
def Qe.stk15 (n7 : Int) (p : Int) (s0 : List Int × Int × Int) (w3 : List YC) (w4 : List YA) (w5 : List YB) (w6 : List YC) (w7 : List YA) (w8 : List YB) : St := ⟨[.ptr 0 [],.gone,.ptr 1 [],.ptr 2 [],.gone,.gone,.gone,.dat (.int .i64) n7,.dat (.int .i64) p,.gone,.gone,.gone,.gone,.gone,.gone,.gone,.gone,.gone,.gone,.gone,.gone,.gone,.gone,.gone,.gone,.gone,.gone,.gone,.gone,.gone,.gone,.gone,.gone,.gone,.gone,.gone,.gone,.gone,.gone,.gone,.gone,.gone,.gone,.gone,.gone,.gone,.gone,.gone,.gone,.gone,.gone,.gone,.gone,.gone,.gone,.gone,.gone,.gone,.gone,.gone,.gone,.gone,.gone,.gone,.gone,.gone,.gone,.gone,.gone,.gone,.gone,.gone,.gone,.gone,.gone,.gone,.gone,.gone,.gone,.gone,.gone,.gone,.gone,.gone,.gone,.gone,.gone,.gone,.gone,.gone,.gone,.gone,.gone,.gone,.gone,.gone,.gone,.gone],[.box 98 (.pair (.sl 5 (.int .u8)) (.pair (.int .i64) (.int .i64))) (.dat (.pair (.sl 5 (.int .u8)) (.pair (.int .i64) (.int .i64))) s0),.box 36 (.pair (.sl 119 (.pair (.int .i64) (.int .i64))) (.pair (.sl 78 (.pair .str (.pair (.int .i64) (.pair (.int .i64) (.pair (.int .i64) (.pair (.int .i64) (.pair (.int .i64) (.pair (.int .i64) (.pair (.int .i64) (.int .i64)))))))))) (.sl 59 (.pair (.int .i64) (.pair (.int .i64) (.pair .str (.int .i64))))))) (.pr (.ref 3) (.pr (.ref 4) (.ref 5))),.box 36 (.pair (.sl 119 (.pair (.int .i64) (.int .i64))) (.pair (.sl 78 (.pair .str (.pair (.int .i64) (.pair (.int .i64) (.pair (.int .i64) (.pair (.int .i64) (.pair (.int .i64) (.pair (.int .i64) (.pair (.int .i64) (.int .i64)))))))))) (.sl 59 (.pair (.int .i64) (.pair (.int .i64) (.pair .str (.int .i64))))))) (.pr (.ref 6) (.pr (.ref 7) (.ref 8))),.row 119 (.pair (.int .i64) (.int .i64)) w3 none,.row 78 (.pair .str (.pair (.int .i64) (.pair (.int .i64) (.pair (.int .i64) (.pair (.int .i64) (.pair (.int .i64) (.pair (.int .i64) (.pair (.int .i64) (.int .i64))))))))) w4 none,.row 59 (.pair (.int .i64) (.pair (.int .i64) (.pair .str (.int .i64)))) w5 none,.row 119 (.pair (.int .i64) (.int .i64)) w6 none,.row 78 (.pair .str (.pair (.int .i64) (.pair (.int .i64) (.pair (.int .i64) (.pair (.int .i64) (.pair (.int .i64) (.pair (.int .i64) (.pair (.int .i64) (.int .i64))))))))) w7 none,.row 59 (.pair (.int .i64) (.pair (.int .i64) (.pair .str (.int .i64)))) w8 none]⟩
def Qe.tr0 (Ik16 : YO) (n7 : Int) (p : Int) (w3 : List YC) (w4 : List YA) (w5 : List YB) (w6 : List YC) (w7 : List YA) (w8 : List YB) (r7 : YU) (r8 : YU) (r9 : YU) : Option YI :=
 Ik16 n7 r9.2 p r7.1 ((w7.getD (r8.1 : Int).toNat (ByteArray.empty,(0,(0,(0,(0,(0,(0,(0,0))))))))).1) r9.1 w3 w4 w5 w6 w7 w8
def Qe.tr1 (Ik16 : YO) (n7 : Int) (p : Int) (w3 : List YC) (w4 : List YA) (w5 : List YB) (w6 : List YC) (w7 : List YA) (w8 : List YB) (r7 : YU) (r8 : YU) : Option YI :=
 (Qd.f r8.2 12).bind fun r9 =>
 Qe.tr0 Ik16 n7 p w3 w4 w5 w6 w7 w8 r7 r8 r9
def Qe.tr2 (Ik16 : YO) (n7 : Int) (p : Int) (w3 : List YC) (w4 : List YA) (w5 : List YB) (w6 : List YC) (w7 : List YA) (w8 : List YB) (r7 : YU) (r8 : YU) : Option YI :=
 agree (
  Qe.tr1 Ik16 n7 p w3 w4 w5 w6 w7 w8 r7 r8
 ) (
  Qe.tr1 Ik16 n7 p w3 w4 w5 w6 w7 w8 r7 r8
 )
def Qe.tr3 (Ik16 : YO) (n7 : Int) (p : Int) (w3 : List YC) (w4 : List YA) (w5 : List YB) (w6 : List YC) (w7 : List YA) (w8 : List YB) (r7 : YU) (r8 : YU) : Option YI :=
 if (0 : Int) ≤ r8.1 ∧ (r8.1 : Int) < w7.length then
  agree (
   Qe.tr2 Ik16 n7 p w3 w4 w5 w6 w7 w8 r7 r8
  ) (
   agree (
    Qe.tr1 Ik16 n7 p w3 w4 w5 w6 w7 w8 r7 r8
   ) (
    Qe.tr2 Ik16 n7 p w3 w4 w5 w6 w7 w8 r7 r8
   )
  )
 else
  none
def Qe.tr4 (Ik16 : YO) (n7 : Int) (p : Int) (w3 : List YC) (w4 : List YA) (w5 : List YB) (w6 : List YC) (w7 : List YA) (w8 : List YB) (r7 : YU) (r8 : YU) : Option YI :=
 if (0 : Int) ≤ r8.1 ∧ (r8.1 : Int) < w7.length then
  Qe.tr2 Ik16 n7 p w3 w4 w5 w6 w7 w8 r7 r8
 else
  none
def Qe.tr5 (Ik16 : YO) (n7 : Int) (p : Int) (w3 : List YC) (w4 : List YA) (w5 : List YB) (w6 : List YC) (w7 : List YA) (w8 : List YB) (r7 : YU) : Option YI :=
 (Qd.f r7.2 (w7.length : Int)).bind fun r8 =>
 Qe.tr4 Ik16 n7 p w3 w4 w5 w6 w7 w8 r7 r8
def Qe.tr6 (Ik16 : YO) (n7 : Int) (p : Int) (w3 : List YC) (w4 : List YA) (w5 : List YB) (w6 : List YC) (w7 : List YA) (w8 : List YB) (r7 : YU) : Option YI :=
 agree (
  (Qd.f r7.2 (w7.length : Int)).bind fun r8 =>
  Qe.tr3 Ik16 n7 p w3 w4 w5 w6 w7 w8 r7 r8
 ) (
  Qe.tr5 Ik16 n7 p w3 w4 w5 w6 w7 w8 r7
 )
def Qe.tr7 (Ik16 : YO) (n7 : Int) (p : Int) (w3 : List YC) (w4 : List YA) (w5 : List YB) (w6 : List YC) (w7 : List YA) (w8 : List YB) (r7 : YU) : Option YI :=
 agree (
  Qe.tr6 Ik16 n7 p w3 w4 w5 w6 w7 w8 r7
 ) (
  Qe.tr5 Ik16 n7 p w3 w4 w5 w6 w7 w8 r7
 )
def Qe.tr8 (Ik16 : YO) (n7 : Int) (p : Int) (w3 : List YC) (w4 : List YA) (w5 : List YB) (w6 : List YC) (w7 : List YA) (w8 : List YB) (r7 : YU) (r8 : YU) : Option YI :=
 (Qd.f r8.2 12).bind fun r9 =>
 if (0 : Int) ≤ r8.1 ∧ (r8.1 : Int) < w7.length then
  Qe.tr0 Ik16 n7 p w3 w4 w5 w6 w7 w8 r7 r8 r9
 else
  none
def Qe.tr9 (Ik16 : YO) (n7 : Int) (p : Int) (w3 : List YC) (w4 : List YA) (w5 : List YB) (w6 : List YC) (w7 : List YA) (w8 : List YB) (r7 : YU) (r8 : YU) : Option YI :=
 agree (
  Qe.tr4 Ik16 n7 p w3 w4 w5 w6 w7 w8 r7 r8
 ) (
  Qe.tr8 Ik16 n7 p w3 w4 w5 w6 w7 w8 r7 r8
 )
def Qe.tr10 (Ik16 : YO) (n7 : Int) (p : Int) (w3 : List YC) (w4 : List YA) (w5 : List YB) (w6 : List YC) (w7 : List YA) (w8 : List YB) (r7 : YU) : Option YI :=
 agree (
  Qe.tr5 Ik16 n7 p w3 w4 w5 w6 w7 w8 r7
 ) (
  (Qd.f r7.2 (w7.length : Int)).bind fun r8 =>
  Qe.tr9 Ik16 n7 p w3 w4 w5 w6 w7 w8 r7 r8
 )
def Qe.tr11 (Ik16 : YO) (n7 : Int) (p : Int) (w3 : List YC) (w4 : List YA) (w5 : List YB) (w6 : List YC) (w7 : List YA) (w8 : List YB) (r7 : YU) : Option YI :=
 agree (
  Qe.tr6 Ik16 n7 p w3 w4 w5 w6 w7 w8 r7
 ) (
  agree (
   (Qd.f r7.2 (w7.length : Int)).bind fun r8 =>
   agree (
    Qe.tr3 Ik16 n7 p w3 w4 w5 w6 w7 w8 r7 r8
   ) (
    agree (
     Qe.tr8 Ik16 n7 p w3 w4 w5 w6 w7 w8 r7 r8
    ) (
     Qe.tr9 Ik16 n7 p w3 w4 w5 w6 w7 w8 r7 r8
    )
   )
  ) (
   Qe.tr10 Ik16 n7 p w3 w4 w5 w6 w7 w8 r7
  )
 )
def Qe.tr12 (Ik16 : YO) (n7 : Int) (p : Int) (w3 : List YC) (w4 : List YA) (w5 : List YB) (w6 : List YC) (w7 : List YA) (w8 : List YB) (r7 : YU) : Option YI :=
 agree (
  Qe.tr5 Ik16 n7 p w3 w4 w5 w6 w7 w8 r7
 ) (
  Qe.tr10 Ik16 n7 p w3 w4 w5 w6 w7 w8 r7
 )
def Qe.tr13 (Ik16 : YO) (n7 : Int) (p : Int) (s0 : List Int × Int × Int) (w3 : List YC) (w4 : List YA) (w5 : List YB) (w6 : List YC) (w7 : List YA) (w8 : List YB) : Option YI :=
 (Qd.f s0 ((w6.getD (p : Int).toNat (0,0)).1)).bind fun r7 =>
 Qe.tr5 Ik16 n7 p w3 w4 w5 w6 w7 w8 r7
def Qe.tr14 (Ik16 : YO) (n7 : Int) (p : Int) (s0 : List Int × Int × Int) (w3 : List YC) (w4 : List YA) (w5 : List YB) (w6 : List YC) (w7 : List YA) (w8 : List YB) : Option YI :=
 agree (
  (Qd.f s0 ((w6.getD (p : Int).toNat (0,0)).1)).bind fun r7 =>
  Qe.tr6 Ik16 n7 p w3 w4 w5 w6 w7 w8 r7
 ) (
  Qe.tr13 Ik16 n7 p s0 w3 w4 w5 w6 w7 w8
 )
def Qe.tr15 (Ik16 : YO) (n7 : Int) (p : Int) (s0 : List Int × Int × Int) (w3 : List YC) (w4 : List YA) (w5 : List YB) (w6 : List YC) (w7 : List YA) (w8 : List YB) : Option YI :=
 agree (
  Qe.tr13 Ik16 n7 p s0 w3 w4 w5 w6 w7 w8
 ) (
  Qe.tr13 Ik16 n7 p s0 w3 w4 w5 w6 w7 w8
 )
def Qe.tr16 (Ik16 : YO) (n7 : Int) (p : Int) (s0 : List Int × Int × Int) (w3 : List YC) (w4 : List YA) (w5 : List YB) (w6 : List YC) (w7 : List YA) (w8 : List YB) : Option YI :=
 agree (
  (Qd.f s0 ((w6.getD (p : Int).toNat (0,0)).1)).bind fun r7 =>
  Qe.tr7 Ik16 n7 p w3 w4 w5 w6 w7 w8 r7
 ) (
  agree (
   Qe.tr14 Ik16 n7 p s0 w3 w4 w5 w6 w7 w8
  ) (
   Qe.tr15 Ik16 n7 p s0 w3 w4 w5 w6 w7 w8
  )
 )
def Qe.tr17 (Ik16 : YO) (n7 : Int) (p : Int) (s0 : List Int × Int × Int) (w3 : List YC) (w4 : List YA) (w5 : List YB) (w6 : List YC) (w7 : List YA) (w8 : List YB) : Option YI :=
 agree (
  (Qd.f s0 ((w6.getD (p : Int).toNat (0,0)).1)).bind fun r7 =>
  Qe.tr10 Ik16 n7 p w3 w4 w5 w6 w7 w8 r7
 ) (
  Qe.tr13 Ik16 n7 p s0 w3 w4 w5 w6 w7 w8
 )
def Qe.tr18 (Ik16 : YO) (n7 : Int) (p : Int) (s0 : List Int × Int × Int) (w3 : List YC) (w4 : List YA) (w5 : List YB) (w6 : List YC) (w7 : List YA) (w8 : List YB) : Option YI :=
 agree (
  (Qd.f s0 ((w6.getD (p : Int).toNat (0,0)).1)).bind fun r7 =>
  Qe.tr11 Ik16 n7 p w3 w4 w5 w6 w7 w8 r7
 ) (
  agree (
   Qe.tr14 Ik16 n7 p s0 w3 w4 w5 w6 w7 w8
  ) (
   Qe.tr17 Ik16 n7 p s0 w3 w4 w5 w6 w7 w8
  )
 )
def Qe.tr19 (Ik16 : YO) (n7 : Int) (p : Int) (s0 : List Int × Int × Int) (w3 : List YC) (w4 : List YA) (w5 : List YB) (w6 : List YC) (w7 : List YA) (w8 : List YB) : Option YI :=
 agree (
  (Qd.f s0 ((w6.getD (p : Int).toNat (0,0)).1)).bind fun r7 =>
  Qe.tr12 Ik16 n7 p w3 w4 w5 w6 w7 w8 r7
 ) (
  agree (
   Qe.tr15 Ik16 n7 p s0 w3 w4 w5 w6 w7 w8
  ) (
   Qe.tr17 Ik16 n7 p s0 w3 w4 w5 w6 w7 w8
  )
 )
def Qe.tr20 (Ik16 : YO) (n7 : Int) (p : Int) (s0 : List Int × Int × Int) (w3 : List YC) (w4 : List YA) (w5 : List YB) (w6 : List YC) (w7 : List YA) (w8 : List YB) : Option YI :=
 agree (
  Qe.tr14 Ik16 n7 p s0 w3 w4 w5 w6 w7 w8
 ) (
  Qe.tr13 Ik16 n7 p s0 w3 w4 w5 w6 w7 w8
 )
def Qe.tr21 (Ik16 : YO) (n7 : Int) (p : Int) (s0 : List Int × Int × Int) (w3 : List YC) (w4 : List YA) (w5 : List YB) (w6 : List YC) (w7 : List YA) (w8 : List YB) : Option YI :=
 agree (
  Qe.tr15 Ik16 n7 p s0 w3 w4 w5 w6 w7 w8
 ) (
  Qe.tr13 Ik16 n7 p s0 w3 w4 w5 w6 w7 w8
 )
def Qe.tr22 (Ik16 : YO) (n7 : Int) (p : Int) (s0 : List Int × Int × Int) (w3 : List YC) (w4 : List YA) (w5 : List YB) (w6 : List YC) (w7 : List YA) (w8 : List YB) : Option YI :=
 agree (
  Qe.tr16 Ik16 n7 p s0 w3 w4 w5 w6 w7 w8
 ) (
  agree (
   Qe.tr20 Ik16 n7 p s0 w3 w4 w5 w6 w7 w8
  ) (
   Qe.tr21 Ik16 n7 p s0 w3 w4 w5 w6 w7 w8
  )
 )
def Qe.tr23 (Ik16 : YO) (n7 : Int) (p : Int) (s0 : List Int × Int × Int) (w3 : List YC) (w4 : List YA) (w5 : List YB) (w6 : List YC) (w7 : List YA) (w8 : List YB) : Option YI :=
 agree (
  Qe.tr17 Ik16 n7 p s0 w3 w4 w5 w6 w7 w8
 ) (
  Qe.tr13 Ik16 n7 p s0 w3 w4 w5 w6 w7 w8
 )
def Qe.tr24 (Ik16 : YO) (n7 : Int) (p : Int) (s0 : List Int × Int × Int) (w3 : List YC) (w4 : List YA) (w5 : List YB) (w6 : List YC) (w7 : List YA) (w8 : List YB) : Option YI :=
 agree (
  Qe.tr18 Ik16 n7 p s0 w3 w4 w5 w6 w7 w8
 ) (
  agree (
   Qe.tr20 Ik16 n7 p s0 w3 w4 w5 w6 w7 w8
  ) (
   Qe.tr23 Ik16 n7 p s0 w3 w4 w5 w6 w7 w8
  )
 )
def Qe.tr25 (Ik16 : YO) (n7 : Int) (p : Int) (s0 : List Int × Int × Int) (w3 : List YC) (w4 : List YA) (w5 : List YB) (w6 : List YC) (w7 : List YA) (w8 : List YB) : Option YI :=
 agree (
  Qe.tr19 Ik16 n7 p s0 w3 w4 w5 w6 w7 w8
 ) (
  agree (
   Qe.tr21 Ik16 n7 p s0 w3 w4 w5 w6 w7 w8
  ) (
   Qe.tr23 Ik16 n7 p s0 w3 w4 w5 w6 w7 w8
  )
 )
def Qe.tr26 (Ik16 : YO) (n7 : Int) (p : Int) (s0 : List Int × Int × Int) (w3 : List YC) (w4 : List YA) (w5 : List YB) (w6 : List YC) (w7 : List YA) (w8 : List YB) : Option YI :=
 if (0 : Int) ≤ p ∧ (p : Int) < w6.length then
  Qe.tr13 Ik16 n7 p s0 w3 w4 w5 w6 w7 w8
 else
  none
def Qe.tr27 (Ik16 : YO) (n7 : Int) (p : Int) (s0 : List Int × Int × Int) (w3 : List YC) (w4 : List YA) (w5 : List YB) (w6 : List YC) (w7 : List YA) (w8 : List YB) : Option YI :=
 agree (
  if (0 : Int) ≤ p ∧ (p : Int) < w6.length then
   Qe.tr20 Ik16 n7 p s0 w3 w4 w5 w6 w7 w8
  else
   none
 ) (
  Qe.tr26 Ik16 n7 p s0 w3 w4 w5 w6 w7 w8
 )
def Qe.tr28 (Ik16 : YO) (n7 : Int) (p : Int) (s0 : List Int × Int × Int) (w3 : List YC) (w4 : List YA) (w5 : List YB) (w6 : List YC) (w7 : List YA) (w8 : List YB) : Option YI :=
 agree (
  if (0 : Int) ≤ p ∧ (p : Int) < w6.length then
   Qe.tr21 Ik16 n7 p s0 w3 w4 w5 w6 w7 w8
  else
   none
 ) (
  Qe.tr26 Ik16 n7 p s0 w3 w4 w5 w6 w7 w8
 )
def Qe.tr29 (Ik16 : YO) (n7 : Int) (p : Int) (s0 : List Int × Int × Int) (w3 : List YC) (w4 : List YA) (w5 : List YB) (w6 : List YC) (w7 : List YA) (w8 : List YB) : Option YI :=
 agree (
  if (0 : Int) ≤ p ∧ (p : Int) < w6.length then
   Qe.tr23 Ik16 n7 p s0 w3 w4 w5 w6 w7 w8
  else
   none
 ) (
  Qe.tr26 Ik16 n7 p s0 w3 w4 w5 w6 w7 w8
 )
def Qe.gk15raw (Ik16 : YO) (L12 : YAA) (Lk15 : YAP) (n7 : Int) (p : Int) (s0 : List Int × Int × Int) (w3 : List YC) (w4 : List YA) (w5 : List YB) (w6 : List YC) (w7 : List YA) (w8 : List YB) : Option YI :=
 agree (
  if (0 : Int) ≤ p ∧ (p : Int) < w6.length then
   agree (
    agree (
     (Qd.f s0 ((w6.getD (p : Int).toNat (0,0)).1)).bind fun r7 =>
     agree (
      Qe.tr7 Ik16 n7 p w3 w4 w5 w6 w7 w8 r7
     ) (
      agree (
       Qe.tr11 Ik16 n7 p w3 w4 w5 w6 w7 w8 r7
      ) (
       Qe.tr12 Ik16 n7 p w3 w4 w5 w6 w7 w8 r7
      )
     )
    ) (
     agree (
      Qe.tr16 Ik16 n7 p s0 w3 w4 w5 w6 w7 w8
     ) (
      agree (
       Qe.tr18 Ik16 n7 p s0 w3 w4 w5 w6 w7 w8
      ) (
       Qe.tr19 Ik16 n7 p s0 w3 w4 w5 w6 w7 w8
      )
     )
    )
   ) (
    agree (
     Qe.tr22 Ik16 n7 p s0 w3 w4 w5 w6 w7 w8
    ) (
     agree (
      Qe.tr24 Ik16 n7 p s0 w3 w4 w5 w6 w7 w8
     ) (
      Qe.tr25 Ik16 n7 p s0 w3 w4 w5 w6 w7 w8
     )
    )
   )
  else
   none
 ) (
  agree (
   agree (
    if (0 : Int) ≤ p ∧ (p : Int) < w6.length then
     Qe.tr22 Ik16 n7 p s0 w3 w4 w5 w6 w7 w8
    else
     none
   ) (
    agree (
     Qe.tr27 Ik16 n7 p s0 w3 w4 w5 w6 w7 w8
    ) (
     Qe.tr28 Ik16 n7 p s0 w3 w4 w5 w6 w7 w8
    )
   )
  ) (
   agree (
    agree (
     if (0 : Int) ≤ p ∧ (p : Int) < w6.length then
      Qe.tr24 Ik16 n7 p s0 w3 w4 w5 w6 w7 w8
     else
      none
    ) (
     agree (
      Qe.tr27 Ik16 n7 p s0 w3 w4 w5 w6 w7 w8
     ) (
      Qe.tr29 Ik16 n7 p s0 w3 w4 w5 w6 w7 w8
     )
    )
   ) (
    agree (
     if (0 : Int) ≤ p ∧ (p : Int) < w6.length then
      Qe.tr25 Ik16 n7 p s0 w3 w4 w5 w6 w7 w8
     else
      none
    ) (
     agree (
      Qe.tr28 Ik16 n7 p s0 w3 w4 w5 w6 w7 w8
     ) (
      Qe.tr29 Ik16 n7 p s0 w3 w4 w5 w6 w7 w8
     )
    )
   )
  )
 )
theorem Qe.gk15raw_eq (Ik16 : YO) (L12 : YAA) (Lk15 : YAP) (n7 : Int) (p : Int) (s0 : List Int × Int × Int) (w3 : List YC) (w4 : List YA) (w5 : List YB) (w6 : List YC) (w7 : List YA) (w8 : List YB) : Qe.gk15raw Ik16 L12 Lk15 n7 p s0 w3 w4 w5 w6 w7 w8 = Qe.gk15 Ik16 L12 Lk15 n7 p s0 w3 w4 w5 w6 w7 w8 := by
 unfold Qe.gk15raw Qe.gk15
 simp only [Vi,Qe.tr0,Qe.tr1,Qe.tr2,Qe.tr3,Qe.tr4,Qe.tr5,Qe.tr6,Qe.tr7,Qe.tr8,Qe.tr9,Qe.tr10,Qe.tr11,Qe.tr12,Qe.tr13,Qe.tr14,Qe.tr15,Qe.tr16,Qe.tr17,Qe.tr18,Qe.tr19,Qe.tr20,Qe.tr21,Qe.tr22,Qe.tr23,Qe.tr24,Qe.tr25,Qe.tr26,Qe.tr27,Qe.tr28,Qe.tr29]
def Qe.st12 (n7 : Int) (s0 : List Int × Int × Int) (w3 : List YC) (w4 : List YA) (w5 : List YB) (w6 : List YC) (w7 : List YA) (w8 : List YB) : St := ⟨[.ptr 0 [],.gone,.ptr 1 [],.ptr 2 [],.gone,.gone,.gone,.dat (.int .i64) n7,.gone,.gone,.gone,.gone,.gone,.gone,.gone,.gone,.gone,.gone,.gone,.gone,.gone,.gone,.gone,.gone,.gone,.gone,.gone,.gone,.gone,.gone,.gone,.gone,.gone,.gone,.gone,.gone,.gone,.gone,.gone,.gone,.gone,.gone,.gone,.gone,.gone,.gone,.gone,.gone,.gone,.gone,.gone,.gone,.gone,.gone,.gone,.gone,.gone,.gone,.gone,.gone,.gone,.gone,.gone,.gone,.gone,.gone,.gone,.gone,.gone,.gone,.gone,.gone,.gone,.gone,.gone,.gone,.gone,.gone,.gone,.gone,.gone,.gone,.gone,.gone,.gone,.gone,.gone,.gone,.gone,.gone,.gone,.gone,.gone,.gone,.gone,.gone,.gone,.gone],[.box 98 (.pair (.sl 5 (.int .u8)) (.pair (.int .i64) (.int .i64))) (.dat (.pair (.sl 5 (.int .u8)) (.pair (.int .i64) (.int .i64))) s0),.box 36 (.pair (.sl 119 (.pair (.int .i64) (.int .i64))) (.pair (.sl 78 (.pair .str (.pair (.int .i64) (.pair (.int .i64) (.pair (.int .i64) (.pair (.int .i64) (.pair (.int .i64) (.pair (.int .i64) (.pair (.int .i64) (.int .i64)))))))))) (.sl 59 (.pair (.int .i64) (.pair (.int .i64) (.pair .str (.int .i64))))))) (.pr (.ref 3) (.pr (.ref 4) (.ref 5))),.box 36 (.pair (.sl 119 (.pair (.int .i64) (.int .i64))) (.pair (.sl 78 (.pair .str (.pair (.int .i64) (.pair (.int .i64) (.pair (.int .i64) (.pair (.int .i64) (.pair (.int .i64) (.pair (.int .i64) (.pair (.int .i64) (.int .i64)))))))))) (.sl 59 (.pair (.int .i64) (.pair (.int .i64) (.pair .str (.int .i64))))))) (.pr (.ref 6) (.pr (.ref 7) (.ref 8))),.row 119 (.pair (.int .i64) (.int .i64)) w3 none,.row 78 (.pair .str (.pair (.int .i64) (.pair (.int .i64) (.pair (.int .i64) (.pair (.int .i64) (.pair (.int .i64) (.pair (.int .i64) (.pair (.int .i64) (.int .i64))))))))) w4 none,.row 59 (.pair (.int .i64) (.pair (.int .i64) (.pair .str (.int .i64)))) w5 none,.row 119 (.pair (.int .i64) (.int .i64)) w6 none,.row 78 (.pair .str (.pair (.int .i64) (.pair (.int .i64) (.pair (.int .i64) (.pair (.int .i64) (.pair (.int .i64) (.pair (.int .i64) (.pair (.int .i64) (.int .i64))))))))) w7 none,.row 59 (.pair (.int .i64) (.pair (.int .i64) (.pair .str (.int .i64)))) w8 none]⟩
def Qe.st4 (i5 : Int) (s0 : List Int × Int × Int) (r : List ByteArray) (w4 : List YC) (w5 : List YA) (w6 : List YB) (w7 : List YC) (w8 : List YA) (w9 : List YB) : St := ⟨[.ptr 0 [],.gone,.ptr 1 [],.ptr 2 [],.ref 3,.dat (.int .i64) i5,.gone,.gone,.gone,.gone,.gone,.gone,.gone,.gone,.gone,.gone,.gone,.gone,.gone,.gone,.gone,.gone,.gone,.gone,.gone,.gone,.gone,.gone,.gone,.gone,.gone,.gone,.gone,.gone,.gone,.gone,.gone,.gone,.gone,.gone,.gone,.gone,.gone,.gone,.gone,.gone,.gone,.gone,.gone,.gone,.gone,.gone,.gone,.gone,.gone,.gone,.gone,.gone,.gone,.gone,.gone,.gone,.gone,.gone,.gone,.gone,.gone,.gone,.gone,.gone,.gone,.gone,.gone,.gone,.gone,.gone,.gone,.gone,.gone,.gone,.gone,.gone,.gone,.gone,.gone,.gone,.gone,.gone,.gone,.gone,.gone,.gone,.gone,.gone,.gone,.gone,.gone,.gone],[.box 98 (.pair (.sl 5 (.int .u8)) (.pair (.int .i64) (.int .i64))) (.dat (.pair (.sl 5 (.int .u8)) (.pair (.int .i64) (.int .i64))) s0),.box 36 (.pair (.sl 119 (.pair (.int .i64) (.int .i64))) (.pair (.sl 78 (.pair .str (.pair (.int .i64) (.pair (.int .i64) (.pair (.int .i64) (.pair (.int .i64) (.pair (.int .i64) (.pair (.int .i64) (.pair (.int .i64) (.int .i64)))))))))) (.sl 59 (.pair (.int .i64) (.pair (.int .i64) (.pair .str (.int .i64))))))) (.pr (.ref 4) (.pr (.ref 5) (.ref 6))),.box 36 (.pair (.sl 119 (.pair (.int .i64) (.int .i64))) (.pair (.sl 78 (.pair .str (.pair (.int .i64) (.pair (.int .i64) (.pair (.int .i64) (.pair (.int .i64) (.pair (.int .i64) (.pair (.int .i64) (.pair (.int .i64) (.int .i64)))))))))) (.sl 59 (.pair (.int .i64) (.pair (.int .i64) (.pair .str (.int .i64))))))) (.pr (.ref 7) (.pr (.ref 8) (.ref 9))),.row 9 .str r none,.row 119 (.pair (.int .i64) (.int .i64)) w4 none,.row 78 (.pair .str (.pair (.int .i64) (.pair (.int .i64) (.pair (.int .i64) (.pair (.int .i64) (.pair (.int .i64) (.pair (.int .i64) (.pair (.int .i64) (.int .i64))))))))) w5 none,.row 59 (.pair (.int .i64) (.pair (.int .i64) (.pair .str (.int .i64)))) w6 none,.row 119 (.pair (.int .i64) (.int .i64)) w7 none,.row 78 (.pair .str (.pair (.int .i64) (.pair (.int .i64) (.pair (.int .i64) (.pair (.int .i64) (.pair (.int .i64) (.pair (.int .i64) (.pair (.int .i64) (.int .i64))))))))) w8 none,.row 59 (.pair (.int .i64) (.pair (.int .i64) (.pair .str (.int .i64)))) w9 none]⟩
def Qe.con : Con := { ps := [(.bx 98,(.pair (.sl 5 (.int .u8)) (.pair (.int .i64) (.int .i64))))],rs := [(.own,(.pair (.sl 119 (.pair (.int .i64) (.int .i64))) (.pair (.sl 78 (.pair .str (.pair (.int .i64) (.pair (.int .i64) (.pair (.int .i64) (.pair (.int .i64) (.pair (.int .i64) (.pair (.int .i64) (.pair (.int .i64) (.int .i64)))))))))) (.sl 59 (.pair (.int .i64) (.pair (.int .i64) (.pair .str (.int .i64))))))))],F := fun x => Qe.f x }
def Qe.cs : List (FuncId × Con) := [(25,Qd.con),(96,QY.con),(97,Qar.con),(98,Qat.con),(99,Qa.con)]
def Qe.E : Env := envOf tab Qe.cs 1 false
def Qe.keep (i : Nat) : List Nat := if i = 1000017 then [0,2,3,7,10,11] else if i = 1000016 then [0,2,3,7,9] else if i = 1000015 then [0,2,3,7,8] else if i = 12 then [0,2,3,7] else if i = 4 then [0,2,3,4,5] else []
def Qe.atk17 (n : Nat) (x : List Int × Int × Int) (M12 : St → Option (YI)) : Code × (Ex → St → Option (YI)) := ctx Qe.E Qe.keep n [.snd,.snd,.snd,.snd,.fst,.snd,.blk,.rd M12,.snd,.fst,.blk,.snd,.snd,.snd] (Vh Tryz.f68) (kEnd Qe.E Tryz.f68 Qe.con x)
def Qe.LNk17 (n : Nat) (x : List Int × Int × Int) (M12 : St → Option (YI)) : Nat → St → Option (YI) := cutN (exec Qe.E Qe.keep n (Qe.atk17 n x M12).1 (Qe.atk17 n x M12).2)
def Qe.atk16 (n : Nat) (x : List Int × Int × Int) (M12 : St → Option (YI)) : Code × (Ex → St → Option (YI)) := ctx Qe.E Qe.keep n [.snd,.snd,.snd,.snd,.fst,.snd,.blk,.rd M12,.snd,.fst,.blk,.snd,.snd] (Vh Tryz.f68) (kEnd Qe.E Tryz.f68 Qe.con x)
def Qe.LNk16 (n : Nat) (x : List Int × Int × Int) (M12 : St → Option (YI)) : Nat → St → Option (YI) := cutN (exec Qe.E Qe.keep n (Qe.atk16 n x M12).1 (Qe.atk16 n x M12).2)
def Qe.atk15 (n : Nat) (x : List Int × Int × Int) (M12 : St → Option (YI)) : Code × (Ex → St → Option (YI)) := ctx Qe.E Qe.keep n [.snd,.snd,.snd,.snd,.fst,.snd,.blk,.rd M12,.snd,.fst,.blk,.snd] (Vh Tryz.f68) (kEnd Qe.E Tryz.f68 Qe.con x)
def Qe.LNk15 (n : Nat) (x : List Int × Int × Int) (M12 : St → Option (YI)) : Nat → St → Option (YI) := cutN (exec Qe.E Qe.keep n (Qe.atk15 n x M12).1 (Qe.atk15 n x M12).2)
def Qe.at12 (n : Nat) (x : List Int × Int × Int) : Code × (Ex → St → Option (YI)) := ctx Qe.E Qe.keep n [.snd,.snd,.snd,.snd,.fst,.snd,.blk] (Vh Tryz.f68) (kEnd Qe.E Tryz.f68 Qe.con x)
def Qe.LN12 (n : Nat) (x : List Int × Int × Int) : Nat → St → Option (YI) := loopN (exec Qe.E Qe.keep n (Vm (Qe.at12 n x).1)) (St.norm 1 (Qe.keep 12)) (Qe.at12 n x).2
def Qe.at4 (n : Nat) (x : List Int × Int × Int) : Code × (Ex → St → Option (YI)) := ctx Qe.E Qe.keep n [.snd,.snd,.snd,.fst,.snd,.blk] (Vh Tryz.f68) (kEnd Qe.E Tryz.f68 Qe.con x)
def Qe.LN4 (n : Nat) (x : List Int × Int × Int) : Nat → St → Option (YI) := loopN (exec Qe.E Qe.keep n (Vm (Qe.at4 n x).1)) (St.norm 1 (Qe.keep 4)) (Qe.at4 n x).2
set_option maxRecDepth 100000 in
theorem Qe.lemk17 (n : Nat) (x : List Int × Int × Int) (M12 : St → Option (YI)) : ∀ (k : Nat) (n7 : Int) (q : Int) (s0 : List Int × Int × Int) (w4 : List YC) (w5 : List YA) (w6 : List YB) (w7 : List YC) (w8 : List YA) (w9 : List YB) (w10 : List YC) (w11 : List YA) (w12 : List YB),Qe.LNk17 n x M12 k (Qe.stk17 n7 q s0 w4 w5 w6 w7 w8 w9 w10 w11 w12) = Qe.lk17 n (fun n7 s0 w3 w4 w5 w6 w7 w8 => M12 (Qe.st12 n7 s0 w3 w4 w5 w6 w7 w8)) k n7 q s0 w4 w5 w6 w7 w8 w9 w10 w11 w12 := by
 intro k
 induction k with
 | zero => intro n7 q s0 w4 w5 w6 w7 w8 w9 w10 w11 w12; rfl
 | succ k ih =>
  intro n7 q s0 w4 w5 w6 w7 w8 w9 w10 w11 w12
  have h : Qe.LNk17 n x M12 (k + 1) (Qe.stk17 n7 q s0 w4 w5 w6 w7 w8 w9 w10 w11 w12) = Qe.gk17 (fun n7 s0 w3 w4 w5 w6 w7 w8 => M12 (Qe.st12 n7 s0 w3 w4 w5 w6 w7 w8)) (fun n7 q s0 w4 w5 w6 w7 w8 w9 w10 w11 w12 => Qe.LNk17 n x M12 k (Qe.stk17 n7 q s0 w4 w5 w6 w7 w8 w9 w10 w11 w12)) n7 q s0 w4 w5 w6 w7 w8 w9 w10 w11 w12 := by kernel_rfl
  rw [h]
  simp only [ih]
  rfl
set_option maxRecDepth 100000 in
theorem Qe.lemk16 (n : Nat) (x : List Int × Int × Int) (M12 : St → Option (YI)) : ∀ (k : Nat) (n7 : Int) (s0 : List Int × Int × Int) (c9a : Int) (u : Int) (s : ByteArray) (t : Int) (w4 : List YC) (w5 : List YA) (w6 : List YB) (w7 : List YC) (w8 : List YA) (w9 : List YB),Qe.LNk16 n x M12 k (Qe.stk16 n7 s0 c9a u s t w4 w5 w6 w7 w8 w9) = Qe.lk16 n (fun n7 s0 w3 w4 w5 w6 w7 w8 => M12 (Qe.st12 n7 s0 w3 w4 w5 w6 w7 w8)) k n7 s0 c9a u s t w4 w5 w6 w7 w8 w9 := by
 intro k
 induction k with
 | zero => intro n7 s0 c9a u s t w4 w5 w6 w7 w8 w9; rfl
 | succ k ih =>
  intro n7 s0 c9a u s t w4 w5 w6 w7 w8 w9
  have h : Qe.LNk16 n x M12 (k + 1) (Qe.stk16 n7 s0 c9a u s t w4 w5 w6 w7 w8 w9) = Qe.gk16 (fun n7 q s0 w4 w5 w6 w7 w8 w9 w10 w11 w12 => Qe.LNk17 n x M12 n (Qe.stk17 n7 q s0 w4 w5 w6 w7 w8 w9 w10 w11 w12)) (fun n7 s0 w3 w4 w5 w6 w7 w8 => M12 (Qe.st12 n7 s0 w3 w4 w5 w6 w7 w8)) (fun n7 s0 c9a u s t w4 w5 w6 w7 w8 w9 => Qe.LNk16 n x M12 k (Qe.stk16 n7 s0 c9a u s t w4 w5 w6 w7 w8 w9)) n7 s0 c9a u s t w4 w5 w6 w7 w8 w9 := by kernel_rfl
  rw [h]
  simp only [ih,Qe.lemk17]
  rfl
set_option maxRecDepth 100000 in
theorem Qe.lemk15 (n : Nat) (x : List Int × Int × Int) (M12 : St → Option (YI)) : ∀ (k : Nat) (n7 : Int) (p : Int) (s0 : List Int × Int × Int) (w3 : List YC) (w4 : List YA) (w5 : List YB) (w6 : List YC) (w7 : List YA) (w8 : List YB),Qe.LNk15 n x M12 k (Qe.stk15 n7 p s0 w3 w4 w5 w6 w7 w8) = Qe.lk15 n (fun n7 s0 w3 w4 w5 w6 w7 w8 => M12 (Qe.st12 n7 s0 w3 w4 w5 w6 w7 w8)) k n7 p s0 w3 w4 w5 w6 w7 w8 := by
 intro k
 induction k with
 | zero => intro n7 p s0 w3 w4 w5 w6 w7 w8; rfl
 | succ k ih =>
  intro n7 p s0 w3 w4 w5 w6 w7 w8
  have h : Qe.LNk15 n x M12 (k + 1) (Qe.stk15 n7 p s0 w3 w4 w5 w6 w7 w8) = Qe.gk15raw (fun n7 s0 c9a u s t w4 w5 w6 w7 w8 w9 => Qe.LNk16 n x M12 n (Qe.stk16 n7 s0 c9a u s t w4 w5 w6 w7 w8 w9)) (fun n7 s0 w3 w4 w5 w6 w7 w8 => M12 (Qe.st12 n7 s0 w3 w4 w5 w6 w7 w8)) (fun n7 p s0 w3 w4 w5 w6 w7 w8 => Qe.LNk15 n x M12 k (Qe.stk15 n7 p s0 w3 w4 w5 w6 w7 w8)) n7 p s0 w3 w4 w5 w6 w7 w8 := by kernel_rfl
  rw [Qe.gk15raw_eq] at h
  rw [h]
  simp only [ih,Qe.lemk16]
  rfl
set_option maxRecDepth 100000 in
theorem Qe.lem12 (n : Nat) (x : List Int × Int × Int) : ∀ (k : Nat) (n7 : Int) (s0 : List Int × Int × Int) (w3 : List YC) (w4 : List YA) (w5 : List YB) (w6 : List YC) (w7 : List YA) (w8 : List YB),Qe.LN12 n x k (Qe.st12 n7 s0 w3 w4 w5 w6 w7 w8) = Qe.l12 n k n7 s0 w3 w4 w5 w6 w7 w8 := by
 intro k
 induction k with
 | zero => intro n7 s0 w3 w4 w5 w6 w7 w8; rfl
 | succ k ih =>
  intro n7 s0 w3 w4 w5 w6 w7 w8
  have h : Qe.LN12 n x (k + 1) (Qe.st12 n7 s0 w3 w4 w5 w6 w7 w8) = Qe.g12 (fun n7 p s0 w3 w4 w5 w6 w7 w8 => Qe.LNk15 n x (Qe.LN12 n x k) n (Qe.stk15 n7 p s0 w3 w4 w5 w6 w7 w8)) (fun n7 s0 w3 w4 w5 w6 w7 w8 => Qe.LN12 n x k (Qe.st12 n7 s0 w3 w4 w5 w6 w7 w8)) n7 s0 w3 w4 w5 w6 w7 w8 := by kernel_rfl
  rw [h]
  simp only [ih,Qe.lemk15]
  rfl
set_option maxRecDepth 100000 in
theorem Qe.lem4 (n : Nat) (x : List Int × Int × Int) : ∀ (k : Nat) (i5 : Int) (s0 : List Int × Int × Int) (r : List ByteArray) (w4 : List YC) (w5 : List YA) (w6 : List YB) (w7 : List YC) (w8 : List YA) (w9 : List YB),Qe.LN4 n x k (Qe.st4 i5 s0 r w4 w5 w6 w7 w8 w9) = Qe.l4 n k i5 s0 r w4 w5 w6 w7 w8 w9 := by
 intro k
 induction k with
 | zero => intro i5 s0 r w4 w5 w6 w7 w8 w9; rfl
 | succ k ih =>
  intro i5 s0 r w4 w5 w6 w7 w8 w9
  have h : Qe.LN4 n x (k + 1) (Qe.st4 i5 s0 r w4 w5 w6 w7 w8 w9) = Qe.g4 (fun n7 s0 w3 w4 w5 w6 w7 w8 => Qe.LN12 n x n (Qe.st12 n7 s0 w3 w4 w5 w6 w7 w8)) (fun i5 s0 r w4 w5 w6 w7 w8 w9 => Qe.LN4 n x k (Qe.st4 i5 s0 r w4 w5 w6 w7 w8 w9)) i5 s0 r w4 w5 w6 w7 w8 w9 := by kernel_rfl
  rw [h]
  simp only [ih,Qe.lem12]
  rfl
set_option maxRecDepth 100000 in
theorem Qe.body (n : Nat) (x : List Int × Int × Int) : bodyF Qe.E Qe.keep n Tryz.f68 Qe.con x = Qe.fn n x := by
 have h : bodyF Qe.E Qe.keep n Tryz.f68 Qe.con x = Qe.top (fun i5 s0 r w4 w5 w6 w7 w8 w9 => Qe.LN4 n x n (Qe.st4 i5 s0 r w4 w5 w6 w7 w8 w9)) x := by kernel_rfl
 rw [h]
 simp only [Qe.lem4]
 rfl
set_option maxRecDepth 100000 in
theorem Qe.good : Good Tryz.prog 68 Qe.con :=
 Vg tabok (cs := Qe.cs) ⟨Qd.good,QY.good,Qar.good,Qat.good,Qa.good,trivial⟩ 1 false (fn := Tryz.f68) Tryz.func68 rfl (by decide) (by simp [Qe.con]) Qe.keep NN (fun _ => rfl) (fun x => Qe.body NN x)
end
end Go.Ev.Tryz

namespace Go.Ev.Tryz
open Go.Proofs Go.Pl
set_option linter.unusedVariables false
noncomputable section
def Q3.st8 (s0 : List Int × Int × Int) (p : List YC) : St := ⟨[.ptr 0 [],.gone,.gone,.ref 1,.gone,.gone,.gone,.gone,.gone,.gone,.gone,.gone,.gone,.gone,.gone,.gone,.gone,.gone,.gone,.gone,.gone,.gone,.gone,.gone,.gone,.gone,.gone,.gone,.gone,.gone,.gone,.gone,.gone,.gone,.gone,.gone,.gone,.gone,.gone,.gone,.gone],[.box 98 (.pair (.sl 5 (.int .u8)) (.pair (.int .i64) (.int .i64))) (.dat (.pair (.sl 5 (.int .u8)) (.pair (.int .i64) (.int .i64))) s0),.row 119 (.pair (.int .i64) (.int .i64)) p none]⟩
def Q3.con : Con := { ps := [(.bx 98,(.pair (.sl 5 (.int .u8)) (.pair (.int .i64) (.int .i64))))],rs := [(.val,(.sl 119 (.pair (.int .i64) (.int .i64))))],F := fun x => Q3.f x }
def Q3.cs : List (FuncId × Con) := [(25,Qd.con),(56,QM.con),(96,QY.con)]
def Q3.E : Env := envOf tab Q3.cs 1 false
def Q3.keep (i : Nat) : List Nat := if i = 8 then [0,3] else []
def Q3.at8 (n : Nat) (x : List Int × Int × Int) : Code × (Ex → St → Option (YV)) := ctx Q3.E Q3.keep n [.snd,.snd,.fst,.snd,.blk,.snd,.no,.snd,.no,.snd,.yes,.blk] (Vh Tryz.f69) (kEnd Q3.E Tryz.f69 Q3.con x)
def Q3.LN8 (n : Nat) (x : List Int × Int × Int) : Nat → St → Option (YV) := loopN (exec Q3.E Q3.keep n (Vm (Q3.at8 n x).1)) (St.norm 1 (Q3.keep 8)) (Q3.at8 n x).2
set_option maxRecDepth 100000 in
theorem Q3.lem8 (n : Nat) (x : List Int × Int × Int) : ∀ (k : Nat) (s0 : List Int × Int × Int) (p : List YC),Q3.LN8 n x k (Q3.st8 s0 p) = Q3.l8 n k s0 p := by
 intro k
 induction k with
 | zero => intro s0 p; rfl
 | succ k ih =>
  intro s0 p
  have h : Q3.LN8 n x (k + 1) (Q3.st8 s0 p) = Q3.g8 (fun s0 p => Q3.LN8 n x k (Q3.st8 s0 p)) s0 p := by kernel_rfl
  rw [h]
  simp only [ih]
  rfl
set_option maxRecDepth 100000 in
theorem Q3.body (n : Nat) (x : List Int × Int × Int) : bodyF Q3.E Q3.keep n Tryz.f69 Q3.con x = Q3.fn n x := by
 have h : bodyF Q3.E Q3.keep n Tryz.f69 Q3.con x = Q3.top (fun s0 p => Q3.LN8 n x n (Q3.st8 s0 p)) x := by kernel_rfl
 rw [h]
 simp only [Q3.lem8]
 rfl
set_option maxRecDepth 100000 in
theorem Q3.good : Good Tryz.prog 69 Q3.con :=
 Vg tabok (cs := Q3.cs) ⟨Qd.good,QM.good,QY.good,trivial⟩ 1 false (fn := Tryz.f69) Tryz.func69 rfl (by decide) (by simp [Q3.con]) Q3.keep NN (fun _ => rfl) (fun x => Q3.body NN x)
end
end Go.Ev.Tryz

namespace Go.Ev.Tryz
open Go.Proofs Go.Pl
set_option linter.unusedVariables false
noncomputable section
def QaO.con : Con := { ps := [(.bx 98,(.pair (.sl 5 (.int .u8)) (.pair (.int .i64) (.int .i64)))),(.val,.str)],rs := [(.val,(.pair .str (.pair (.int .i64) (.pair (.int .i64) (.pair (.int .i64) (.pair (.int .i64) (.pair (.int .i64) (.pair (.int .i64) (.pair (.int .i64) (.int .i64))))))))))],F := fun x => QaO.f x.1 x.2 }
def QaO.cs : List (FuncId × Con) := [(25,Qd.con),(26,Qad.con),(56,QM.con),(98,Qat.con)]
def QaO.E : Env := envOf tab QaO.cs 1 false
def QaO.keep (i : Nat) : List Nat := []
set_option maxRecDepth 100000 in
theorem QaO.body (n : Nat) (x : YK × ByteArray) : bodyF QaO.E QaO.keep n Tryz.f100 QaO.con x = QaO.fn n x.1 x.2 := by
 have h : bodyF QaO.E QaO.keep n Tryz.f100 QaO.con x = QaO.top x.1 x.2 := by kernel_rfl
 exact h
set_option maxRecDepth 100000 in
theorem QaO.good : Good Tryz.prog 100 QaO.con :=
 Vg tabok (cs := QaO.cs) ⟨Qd.good,Qad.good,QM.good,Qat.good,trivial⟩ 1 false (fn := Tryz.f100) Tryz.func100 rfl (by decide) (by simp [QaO.con]) QaO.keep NN (fun _ => rfl) (fun x => QaO.body NN x)
end
end Go.Ev.Tryz

namespace Go.Ev.Tryz
open Go.Proofs Go.Pl
set_option linter.unusedVariables false
noncomputable section
def Qn.st13 (k6 : Int) (s0 : List Int × Int × Int) (p : List YA) : St := ⟨[.ptr 0 [],.gone,.gone,.ref 1,.gone,.gone,.dat (.int .i64) k6,.gone,.gone,.gone,.gone,.gone,.gone,.gone,.gone,.gone,.gone,.gone,.gone,.gone,.gone,.gone,.gone,.gone,.gone,.gone,.gone,.gone,.gone,.gone,.gone,.gone,.gone,.gone,.gone,.gone,.gone,.gone,.gone,.gone,.gone,.gone,.gone,.gone,.gone,.gone,.gone,.gone,.gone,.gone,.gone,.gone,.gone,.gone,.gone,.gone,.gone,.gone,.gone,.gone,.gone],[.box 98 (.pair (.sl 5 (.int .u8)) (.pair (.int .i64) (.int .i64))) (.dat (.pair (.sl 5 (.int .u8)) (.pair (.int .i64) (.int .i64))) s0),.row 78 (.pair .str (.pair (.int .i64) (.pair (.int .i64) (.pair (.int .i64) (.pair (.int .i64) (.pair (.int .i64) (.pair (.int .i64) (.pair (.int .i64) (.int .i64))))))))) p none]⟩
def Qn.st4 (i5 : Int) (s0 : List Int × Int × Int) (p : List YA) (q : List ByteArray) : St := ⟨[.ptr 0 [],.gone,.gone,.ref 1,.ref 2,.dat (.int .i64) i5,.gone,.gone,.gone,.gone,.gone,.gone,.gone,.gone,.gone,.gone,.gone,.gone,.gone,.gone,.gone,.gone,.gone,.gone,.gone,.gone,.gone,.gone,.gone,.gone,.gone,.gone,.gone,.gone,.gone,.gone,.gone,.gone,.gone,.gone,.gone,.gone,.gone,.gone,.gone,.gone,.gone,.gone,.gone,.gone,.gone,.gone,.gone,.gone,.gone,.gone,.gone,.gone,.gone,.gone,.gone],[.box 98 (.pair (.sl 5 (.int .u8)) (.pair (.int .i64) (.int .i64))) (.dat (.pair (.sl 5 (.int .u8)) (.pair (.int .i64) (.int .i64))) s0),.row 78 (.pair .str (.pair (.int .i64) (.pair (.int .i64) (.pair (.int .i64) (.pair (.int .i64) (.pair (.int .i64) (.pair (.int .i64) (.pair (.int .i64) (.int .i64))))))))) p none,.row 9 .str q none]⟩
def Qn.con : Con := { ps := [(.bx 98,(.pair (.sl 5 (.int .u8)) (.pair (.int .i64) (.int .i64))))],rs := [(.own,(.sl 78 (.pair .str (.pair (.int .i64) (.pair (.int .i64) (.pair (.int .i64) (.pair (.int .i64) (.pair (.int .i64) (.pair (.int .i64) (.pair (.int .i64) (.int .i64)))))))))))],F := fun x => Qn.f x }
def Qn.cs : List (FuncId × Con) := [(25,Qd.con),(97,Qar.con),(98,Qat.con),(100,QaO.con)]
def Qn.E : Env := envOf tab Qn.cs 1 false
def Qn.keep (i : Nat) : List Nat := if i = 13 then [0,3,6] else if i = 4 then [0,3,4,5] else []
def Qn.at13 (n : Nat) (x : List Int × Int × Int) : Code × (Ex → St → Option (YAE)) := ctx Qn.E Qn.keep n [.snd,.snd,.snd,.snd,.fst,.snd,.blk,.snd,.no,.snd,.yes,.snd,.blk] (Vh Tryz.f70) (kEnd Qn.E Tryz.f70 Qn.con x)
def Qn.LN13 (n : Nat) (x : List Int × Int × Int) : Nat → St → Option (YAE) := loopN (exec Qn.E Qn.keep n (Vm (Qn.at13 n x).1)) (St.norm 1 (Qn.keep 13)) (Qn.at13 n x).2
def Qn.at4 (n : Nat) (x : List Int × Int × Int) : Code × (Ex → St → Option (YAE)) := ctx Qn.E Qn.keep n [.snd,.snd,.snd,.fst,.snd,.blk] (Vh Tryz.f70) (kEnd Qn.E Tryz.f70 Qn.con x)
def Qn.LN4 (n : Nat) (x : List Int × Int × Int) : Nat → St → Option (YAE) := loopN (exec Qn.E Qn.keep n (Vm (Qn.at4 n x).1)) (St.norm 1 (Qn.keep 4)) (Qn.at4 n x).2
set_option maxRecDepth 100000 in
theorem Qn.lem13 (n : Nat) (x : List Int × Int × Int) : ∀ (k : Nat) (k6 : Int) (s0 : List Int × Int × Int) (p : List YA),Qn.LN13 n x k (Qn.st13 k6 s0 p) = Qn.l13 n k k6 s0 p := by
 intro k
 induction k with
 | zero => intro k6 s0 p; rfl
 | succ k ih =>
  intro k6 s0 p
  have h : Qn.LN13 n x (k + 1) (Qn.st13 k6 s0 p) = Qn.g13 (fun k6 s0 p => Qn.LN13 n x k (Qn.st13 k6 s0 p)) k6 s0 p := by kernel_rfl
  rw [h]
  simp only [ih]
  rfl
set_option maxRecDepth 100000 in
theorem Qn.lem4 (n : Nat) (x : List Int × Int × Int) : ∀ (k : Nat) (i5 : Int) (s0 : List Int × Int × Int) (p : List YA) (q : List ByteArray),Qn.LN4 n x k (Qn.st4 i5 s0 p q) = Qn.l4 n k i5 s0 p q := by
 intro k
 induction k with
 | zero => intro i5 s0 p q; rfl
 | succ k ih =>
  intro i5 s0 p q
  have h : Qn.LN4 n x (k + 1) (Qn.st4 i5 s0 p q) = Qn.g4 (fun k6 s0 p => Qn.LN13 n x n (Qn.st13 k6 s0 p)) (fun i5 s0 p q => Qn.LN4 n x k (Qn.st4 i5 s0 p q)) i5 s0 p q := by kernel_rfl
  rw [h]
  simp only [ih,Qn.lem13]
  rfl
set_option maxRecDepth 100000 in
theorem Qn.body (n : Nat) (x : List Int × Int × Int) : bodyF Qn.E Qn.keep n Tryz.f70 Qn.con x = Qn.fn n x := by
 have h : bodyF Qn.E Qn.keep n Tryz.f70 Qn.con x = Qn.top (fun i5 s0 p q => Qn.LN4 n x n (Qn.st4 i5 s0 p q)) x := by kernel_rfl
 rw [h]
 simp only [Qn.lem4]
 rfl
set_option maxRecDepth 100000 in
theorem Qn.good : Good Tryz.prog 70 Qn.con :=
 Vg tabok (cs := Qn.cs) ⟨Qd.good,Qar.good,Qat.good,QaO.good,trivial⟩ 1 false (fn := Tryz.f70) Tryz.func70 rfl (by decide) (by simp [Qn.con]) Qn.keep NN (fun _ => rfl) (fun x => Qn.body NN x)
end
end Go.Ev.Tryz

namespace Go.Ev.Tryz
open Go.Proofs Go.Pl
set_option linter.unusedVariables false
noncomputable section
def Qq.st12 (s0 : List Int × Int × Int) (c4 : Int × Int × ByteArray × Int) (w4 : List YC) (w5 : List YA) (w6 : List YB) (w7 : List YC) (w8 : List YA) (w9 : List YB) : St := ⟨[.ptr 0 [],.gone,.ptr 1 [],.ptr 2 [],.ptr 3 [],.gone,.gone,.gone,.gone,.gone,.gone,.gone,.gone,.gone,.gone,.gone,.gone,.gone,.gone,.gone,.gone,.gone,.gone,.gone,.gone,.gone,.gone,.gone,.gone,.gone,.gone,.gone,.gone,.gone,.gone,.gone,.gone,.gone,.gone,.gone,.gone,.gone,.gone,.gone,.gone,.gone,.gone,.gone,.gone,.gone,.gone,.gone,.gone,.gone,.gone,.gone,.gone,.gone,.gone],[.box 98 (.pair (.sl 5 (.int .u8)) (.pair (.int .i64) (.int .i64))) (.dat (.pair (.sl 5 (.int .u8)) (.pair (.int .i64) (.int .i64))) s0),.box 36 (.pair (.sl 119 (.pair (.int .i64) (.int .i64))) (.pair (.sl 78 (.pair .str (.pair (.int .i64) (.pair (.int .i64) (.pair (.int .i64) (.pair (.int .i64) (.pair (.int .i64) (.pair (.int .i64) (.pair (.int .i64) (.int .i64)))))))))) (.sl 59 (.pair (.int .i64) (.pair (.int .i64) (.pair .str (.int .i64))))))) (.pr (.ref 4) (.pr (.ref 5) (.ref 6))),.box 36 (.pair (.sl 119 (.pair (.int .i64) (.int .i64))) (.pair (.sl 78 (.pair .str (.pair (.int .i64) (.pair (.int .i64) (.pair (.int .i64) (.pair (.int .i64) (.pair (.int .i64) (.pair (.int .i64) (.pair (.int .i64) (.int .i64)))))))))) (.sl 59 (.pair (.int .i64) (.pair (.int .i64) (.pair .str (.int .i64))))))) (.pr (.ref 7) (.pr (.ref 8) (.ref 9))),.box 59 (.pair (.int .i64) (.pair (.int .i64) (.pair .str (.int .i64)))) (.dat (.pair (.int .i64) (.pair (.int .i64) (.pair .str (.int .i64)))) c4),.row 119 (.pair (.int .i64) (.int .i64)) w4 none,.row 78 (.pair .str (.pair (.int .i64) (.pair (.int .i64) (.pair (.int .i64) (.pair (.int .i64) (.pair (.int .i64) (.pair (.int .i64) (.pair (.int .i64) (.int .i64))))))))) w5 none,.row 59 (.pair (.int .i64) (.pair (.int .i64) (.pair .str (.int .i64)))) w6 none,.row 119 (.pair (.int .i64) (.int .i64)) w7 none,.row 78 (.pair .str (.pair (.int .i64) (.pair (.int .i64) (.pair (.int .i64) (.pair (.int .i64) (.pair (.int .i64) (.pair (.int .i64) (.pair (.int .i64) (.int .i64))))))))) w8 none,.row 59 (.pair (.int .i64) (.pair (.int .i64) (.pair .str (.int .i64)))) w9 none]⟩
def Qq.tr0 (L12 : YAF) (s0 : List Int × Int × Int) (c4 : Int × Int × ByteArray × Int) (w4 : List YC) (w5 : List YA) (w6 : List YB) (w7 : List YC) (w8 : List YA) (w9 : List YB) : Option YI :=
 (Qd.f s0 2).bind fun r8 =>
 if (decide (((w9.length : Int) : Int) < (IntKind.i64.wrap (20 + r8.1)))) = true then
  if w9.length + ([c4]).length < room 40 then
   L12 r8.2 c4 w4 w5 w6 w7 w8 (w9 ++ ([c4]))
  else
   none
 else
  some ((w7,(w8,w9)),r8.2)
def Qq.g12raw (L12 : YAF) (s0 : List Int × Int × Int) (c4 : Int × Int × ByteArray × Int) (w4 : List YC) (w5 : List YA) (w6 : List YB) (w7 : List YC) (w8 : List YA) (w9 : List YB) : Option YI :=
 agree (
  Qq.tr0 L12 s0 c4 w4 w5 w6 w7 w8 w9
 ) (
  Qq.tr0 L12 s0 c4 w4 w5 w6 w7 w8 w9
 )
theorem Qq.g12raw_eq (L12 : YAF) (s0 : List Int × Int × Int) (c4 : Int × Int × ByteArray × Int) (w4 : List YC) (w5 : List YA) (w6 : List YB) (w7 : List YC) (w8 : List YA) (w9 : List YB) : Qq.g12raw L12 s0 c4 w4 w5 w6 w7 w8 w9 = Qq.g12 L12 s0 c4 w4 w5 w6 w7 w8 w9 := by
 unfold Qq.g12raw Qq.g12
 simp only [Vi,Qq.tr0]
def Qq.tr1 (r1 : YI) (r5 : YU) (r6 : YU) : Option YI :=
 (Qd.f r6.2 14).bind fun r7 =>
 if r1.1.2.2.length + ([(IntKind.i64.wrap (r5.1 - 1),(r6.1,((⟨#[112,101,111,110,121]⟩ : ByteArray),IntKind.i64.wrap (r7.1 - 1))))]).length < room 40 then
  some ((r1.1.1,(r1.1.2.1,r1.1.2.2 ++ ([(IntKind.i64.wrap (r5.1 - 1),(r6.1,((⟨#[112,101,111,110,121]⟩ : ByteArray),IntKind.i64.wrap (r7.1 - 1))))]))),r7.2)
 else
  none
def Qq.tr2 (r1 : YI) (r5 : YU) : Option YI :=
 (Qd.f r5.2 5).bind fun r6 =>
 Qq.tr1 r1 r5 r6
def Qq.topraw (I12 : YAF) (s0 : List Int × Int × Int) : Option YI :=
 (Qe.f s0).bind fun r1 =>
 (Qd.f r1.2 40).bind fun r2 =>
 if ((r2.1 : Int) == 0) = true then
  (Q3.f r2.2).bind fun r3 =>
  some ((r3.1,(r1.1.2.1,r1.1.2.2)),r3.2)
 else if ((r2.1 : Int) == 1) = true then
  (Qn.f r2.2).bind fun r4 =>
  some ((r1.1.1,(r4.1,r1.1.2.2)),r4.2)
 else if ((r2.1 : Int) == 2) = true then
  agree (
   (Qd.f r2.2 8).bind fun r5 =>
   Qq.tr2 r1 r5
  ) (
   (Qd.f r2.2 8).bind fun r5 =>
   agree (
    Qq.tr2 r1 r5
   ) (
    (Qd.f r5.2 5).bind fun r6 =>
    agree (
     Qq.tr1 r1 r5 r6
    ) (
     Qq.tr1 r1 r5 r6
    )
   )
  )
 else if ((r2.1 : Int) == 3) = true then
  if (decide ((0 : Int) < (r1.1.2.2.length : Int))) = true then
   if (0 : Int) ≤ 0 ∧ (0 : Int) < r1.1.2.2.length then
    I12 r2.2 (r1.1.2.2.getD (0 : Int).toNat (0,(0,(ByteArray.empty,0)))) [] [] [] r1.1.1 r1.1.2.1 r1.1.2.2
   else
    none
  else
   some ((r1.1.1,(r1.1.2.1,r1.1.2.2)),r2.2)
 else
  some ((r1.1.1,(r1.1.2.1,r1.1.2.2)),r2.2)
theorem Qq.topraw_eq (I12 : YAF) (s0 : List Int × Int × Int) : Qq.topraw I12 s0 = Qq.top I12 s0 := by
 unfold Qq.topraw Qq.top
 simp only [Vi,Qq.tr1,Qq.tr2]
def Qq.con : Con := { ps := [(.bx 98,(.pair (.sl 5 (.int .u8)) (.pair (.int .i64) (.int .i64))))],rs := [(.val,(.pair (.sl 119 (.pair (.int .i64) (.int .i64))) (.pair (.sl 78 (.pair .str (.pair (.int .i64) (.pair (.int .i64) (.pair (.int .i64) (.pair (.int .i64) (.pair (.int .i64) (.pair (.int .i64) (.pair (.int .i64) (.int .i64)))))))))) (.sl 59 (.pair (.int .i64) (.pair (.int .i64) (.pair .str (.int .i64))))))))],F := fun x => Qq.f x }
def Qq.cs : List (FuncId × Con) := [(25,Qd.con),(68,Qe.con),(69,Q3.con),(70,Qn.con)]
def Qq.E : Env := envOf tab Qq.cs 1 false
def Qq.keep (i : Nat) : List Nat := if i = 12 then [0,2,3,4] else []
def Qq.at12 (n : Nat) (x : List Int × Int × Int) : Code × (Ex → St → Option (YI)) := ctx Qq.E Qq.keep n [.snd,.snd,.fst,.snd,.blk,.snd,.no,.snd,.no,.snd,.no,.snd,.yes,.snd,.yes,.snd,.blk] (Vh Tryz.f31) (kEnd Qq.E Tryz.f31 Qq.con x)
def Qq.LN12 (n : Nat) (x : List Int × Int × Int) : Nat → St → Option (YI) := loopN (exec Qq.E Qq.keep n (Vm (Qq.at12 n x).1)) (St.norm 1 (Qq.keep 12)) (Qq.at12 n x).2
set_option maxRecDepth 100000 in
theorem Qq.lem12 (n : Nat) (x : List Int × Int × Int) : ∀ (k : Nat) (s0 : List Int × Int × Int) (c4 : Int × Int × ByteArray × Int) (w4 : List YC) (w5 : List YA) (w6 : List YB) (w7 : List YC) (w8 : List YA) (w9 : List YB),Qq.LN12 n x k (Qq.st12 s0 c4 w4 w5 w6 w7 w8 w9) = Qq.l12 n k s0 c4 w4 w5 w6 w7 w8 w9 := by
 intro k
 induction k with
 | zero => intro s0 c4 w4 w5 w6 w7 w8 w9; rfl
 | succ k ih =>
  intro s0 c4 w4 w5 w6 w7 w8 w9
  have h : Qq.LN12 n x (k + 1) (Qq.st12 s0 c4 w4 w5 w6 w7 w8 w9) = Qq.g12raw (fun s0 c4 w4 w5 w6 w7 w8 w9 => Qq.LN12 n x k (Qq.st12 s0 c4 w4 w5 w6 w7 w8 w9)) s0 c4 w4 w5 w6 w7 w8 w9 := by kernel_rfl
  rw [Qq.g12raw_eq] at h
  rw [h]
  simp only [ih]
  rfl
set_option maxRecDepth 100000 in
theorem Qq.body (n : Nat) (x : List Int × Int × Int) : bodyF Qq.E Qq.keep n Tryz.f31 Qq.con x = Qq.fn n x := by
 have h : bodyF Qq.E Qq.keep n Tryz.f31 Qq.con x = Qq.topraw (fun s0 c4 w4 w5 w6 w7 w8 w9 => Qq.LN12 n x n (Qq.st12 s0 c4 w4 w5 w6 w7 w8 w9)) x := by kernel_rfl
 rw [Qq.topraw_eq] at h
 rw [h]
 simp only [Qq.lem12]
 rfl
set_option maxRecDepth 100000 in
theorem Qq.good : Good Tryz.prog 31 Qq.con :=
 Vg tabok (cs := Qq.cs) ⟨Qd.good,Qe.good,Q3.good,Qn.good,trivial⟩ 1 false (fn := Tryz.f31) Tryz.func31 rfl (by decide) (by simp [Qq.con]) Qq.keep NN (fun _ => rfl) (fun x => Qq.body NN x)
end
end Go.Ev.Tryz

namespace Go.Ev.Tryz
open Go.Proofs Go.Pl
set_option linter.unusedVariables false
noncomputable section
def Qai.con : Con := { ps := [(.val,(.sl 5 (.int .u8)))],rs := [(.val,(.pair (.sl 119 (.pair (.int .i64) (.int .i64))) (.pair (.sl 78 (.pair .str (.pair (.int .i64) (.pair (.int .i64) (.pair (.int .i64) (.pair (.int .i64) (.pair (.int .i64) (.pair (.int .i64) (.pair (.int .i64) (.int .i64)))))))))) (.sl 59 (.pair (.int .i64) (.pair (.int .i64) (.pair .str (.int .i64))))))))],F := fun x => Qai.f x }
def Qai.cs : List (FuncId × Con) := [(21,QS.con),(31,Qq.con)]
def Qai.E : Env := envOf tab Qai.cs 0 false
def Qai.keep (i : Nat) : List Nat := []
set_option maxRecDepth 100000 in
theorem Qai.body (n : Nat) (x : List Int) : bodyF Qai.E Qai.keep n Tryz.f8 Qai.con x = Qai.fn n x := by
 have h : bodyF Qai.E Qai.keep n Tryz.f8 Qai.con x = Qai.top x := by kernel_rfl
 exact h
set_option maxRecDepth 100000 in
theorem Qai.good : Good Tryz.prog 8 Qai.con :=
 Vg tabok (cs := Qai.cs) ⟨QS.good,Qq.good,trivial⟩ 0 false (fn := Tryz.f8) Tryz.func8 rfl (by decide) (by simp [Qai.con]) Qai.keep NN (fun _ => rfl) (fun x => Qai.body NN x)
end
end Go.Ev.Tryz

namespace Go.Ev.Tryz
open Go.Proofs Go.Pl
set_option linter.unusedVariables false
noncomputable section
def QX.st4 (v13 : List YC) (v14 : Int) (v15 : Int) : St := ⟨[.gone,.gone,.gone,.gone,.gone,.gone,.gone,.gone,.gone,.gone,.gone,.gone,.gone,.dat (.sl 119 (.pair (.int .i64) (.int .i64))) v13,.dat (.int .i64) v14,.dat (.int .i64) v15,.gone,.gone,.gone,.gone,.gone,.gone,.gone,.gone,.gone,.gone,.gone,.gone,.gone,.gone],[]⟩
def QX.con : Con := { ps := [(.val,(.sl 119 (.pair (.int .i64) (.int .i64))))],rs := [(.val,.bool)],F := fun x => QX.f x }
def QX.cs : List (FuncId × Con) := [(72,Q2.con)]
def QX.E : Env := envOf tab QX.cs 0 false
def QX.keep (i : Nat) : List Nat := if i = 4 then [13,14,15] else []
def QX.at4 (n : Nat) (x : List YC) : Code × (Ex → St → Option (Bool)) := ctx QX.E QX.keep n [.snd,.snd,.fst,.snd,.blk] (Vh Tryz.f53) (kEnd QX.E Tryz.f53 QX.con x)
def QX.LN4 (n : Nat) (x : List YC) : Nat → St → Option (Bool) := loopN (exec QX.E QX.keep n (Vm (QX.at4 n x).1)) (St.norm 0 (QX.keep 4)) (QX.at4 n x).2
set_option maxRecDepth 100000 in
theorem QX.lem4 (n : Nat) (x : List YC) : ∀ (k : Nat) (v13 : List YC) (v14 : Int) (v15 : Int),QX.LN4 n x k (QX.st4 v13 v14 v15) = QX.l4 n k v13 v14 v15 := by
 intro k
 induction k with
 | zero => intro v13 v14 v15; rfl
 | succ k ih =>
  intro v13 v14 v15
  have h : QX.LN4 n x (k + 1) (QX.st4 v13 v14 v15) = QX.g4 (fun v13 v14 v15 => QX.LN4 n x k (QX.st4 v13 v14 v15)) v13 v14 v15 := by kernel_rfl
  rw [h]
  simp only [ih]
  rfl
set_option maxRecDepth 100000 in
theorem QX.body (n : Nat) (x : List YC) : bodyF QX.E QX.keep n Tryz.f53 QX.con x = QX.fn n x := by
 have h : bodyF QX.E QX.keep n Tryz.f53 QX.con x = QX.top (fun v13 v14 v15 => QX.LN4 n x n (QX.st4 v13 v14 v15)) x := by kernel_rfl
 rw [h]
 simp only [QX.lem4]
 rfl
set_option maxRecDepth 100000 in
theorem QX.good : Good Tryz.prog 53 QX.con :=
 Vg tabok (cs := QX.cs) ⟨Q2.good,trivial⟩ 0 false (fn := Tryz.f53) Tryz.func53 rfl (by decide) (by simp [QX.con]) QX.keep NN (fun _ => rfl) (fun x => QX.body NN x)
end
end Go.Ev.Tryz

namespace Go.Ev.Tryz
open Go.Proofs Go.Pl
set_option linter.unusedVariables false
noncomputable section
def Qau.con : Con := { ps := [(.val,(.pair .str (.pair (.int .i64) (.pair (.int .i64) (.pair (.int .i64) (.pair (.int .i64) (.pair (.int .i64) (.pair (.int .i64) (.pair (.int .i64) (.int .i64))))))))))],rs := [(.val,.bool)],F := fun x => Qau.f x }
def Qau.cs : List (FuncId × Con) := [(72,Q2.con),(83,QT.con)]
def Qau.E : Env := envOf tab Qau.cs 0 false
def Qau.keep (i : Nat) : List Nat := []
set_option maxRecDepth 100000 in
theorem Qau.body (n : Nat) (x : ByteArray × Int × Int × Int × Int × Int × Int × Int × Int) : bodyF Qau.E Qau.keep n Tryz.f101 Qau.con x = Qau.fn n x := by
 have h : bodyF Qau.E Qau.keep n Tryz.f101 Qau.con x = Qau.top x := by kernel_rfl
 exact h
set_option maxRecDepth 100000 in
theorem Qau.good : Good Tryz.prog 101 Qau.con :=
 Vg tabok (cs := Qau.cs) ⟨Q2.good,QT.good,trivial⟩ 0 false (fn := Tryz.f101) Tryz.func101 rfl (by decide) (by simp [Qau.con]) Qau.keep NN (fun _ => rfl) (fun x => Qau.body NN x)
end
end Go.Ev.Tryz

namespace Go.Ev.Tryz
open Go.Proofs Go.Pl
set_option linter.unusedVariables false
noncomputable section
def Qo.st4 (p : List YA) (v8 : List YA) (v9 : Int) (v10 : Int) : St := ⟨[.dat (.sl 78 (.pair .str (.pair (.int .i64) (.pair (.int .i64) (.pair (.int .i64) (.pair (.int .i64) (.pair (.int .i64) (.pair (.int .i64) (.pair (.int .i64) (.int .i64)))))))))) p,.gone,.gone,.gone,.gone,.gone,.gone,.gone,.dat (.sl 78 (.pair .str (.pair (.int .i64) (.pair (.int .i64) (.pair (.int .i64) (.pair (.int .i64) (.pair (.int .i64) (.pair (.int .i64) (.pair (.int .i64) (.int .i64)))))))))) v8,.dat (.int .i64) v9,.dat (.int .i64) v10,.gone,.gone,.gone,.gone,.gone,.gone,.gone,.gone,.gone,.gone,.gone,.gone,.gone,.gone,.gone,.gone,.gone,.gone,.gone,.gone,.gone,.gone,.gone],[]⟩
def Qo.con : Con := { ps := [(.val,(.sl 78 (.pair .str (.pair (.int .i64) (.pair (.int .i64) (.pair (.int .i64) (.pair (.int .i64) (.pair (.int .i64) (.pair (.int .i64) (.pair (.int .i64) (.int .i64)))))))))))],rs := [(.val,.bool)],F := fun x => Qo.f x }
def Qo.cs : List (FuncId × Con) := [(101,Qau.con)]
def Qo.E : Env := envOf tab Qo.cs 0 false
def Qo.keep (i : Nat) : List Nat := if i = 4 then [0,8,9,10] else []
def Qo.at4 (n : Nat) (x : List YA) : Code × (Ex → St → Option (Bool)) := ctx Qo.E Qo.keep n [.snd,.snd,.fst,.snd,.blk] (Vh Tryz.f71) (kEnd Qo.E Tryz.f71 Qo.con x)
def Qo.LN4 (n : Nat) (x : List YA) : Nat → St → Option (Bool) := loopN (exec Qo.E Qo.keep n (Vm (Qo.at4 n x).1)) (St.norm 0 (Qo.keep 4)) (Qo.at4 n x).2
set_option maxRecDepth 100000 in
theorem Qo.lem4 (n : Nat) (x : List YA) : ∀ (k : Nat) (p : List YA) (v8 : List YA) (v9 : Int) (v10 : Int),Qo.LN4 n x k (Qo.st4 p v8 v9 v10) = Qo.l4 n k p v8 v9 v10 := by
 intro k
 induction k with
 | zero => intro p v8 v9 v10; rfl
 | succ k ih =>
  intro p v8 v9 v10
  have h : Qo.LN4 n x (k + 1) (Qo.st4 p v8 v9 v10) = Qo.g4 (fun p v8 v9 v10 => Qo.LN4 n x k (Qo.st4 p v8 v9 v10)) p v8 v9 v10 := by kernel_rfl
  rw [h]
  simp only [ih]
  rfl
set_option maxRecDepth 100000 in
theorem Qo.body (n : Nat) (x : List YA) : bodyF Qo.E Qo.keep n Tryz.f71 Qo.con x = Qo.fn n x := by
 have h : bodyF Qo.E Qo.keep n Tryz.f71 Qo.con x = Qo.top (fun p v8 v9 v10 => Qo.LN4 n x n (Qo.st4 p v8 v9 v10)) x := by kernel_rfl
 rw [h]
 simp only [Qo.lem4]
 rfl
set_option maxRecDepth 100000 in
theorem Qo.good : Good Tryz.prog 71 Qo.con :=
 Vg tabok (cs := Qo.cs) ⟨Qau.good,trivial⟩ 0 false (fn := Tryz.f71) Tryz.func71 rfl (by decide) (by simp [Qo.con]) Qo.keep NN (fun _ => rfl) (fun x => Qo.body NN x)
end
end Go.Ev.Tryz

namespace Go.Ev.Tryz
open Go.Proofs Go.Pl
set_option linter.unusedVariables false
noncomputable section
def QA.st2 (p : ByteArray) (v7 : List YA) (v8 : Int) (v9 : Int) : St := ⟨[.gone,.dat .str p,.gone,.gone,.gone,.gone,.gone,.dat (.sl 78 (.pair .str (.pair (.int .i64) (.pair (.int .i64) (.pair (.int .i64) (.pair (.int .i64) (.pair (.int .i64) (.pair (.int .i64) (.pair (.int .i64) (.int .i64)))))))))) v7,.dat (.int .i64) v8,.dat (.int .i64) v9,.gone,.gone,.gone,.gone,.gone,.gone,.gone,.gone,.gone,.gone],[]⟩
def QA.con : Con := { ps := [(.val,(.sl 78 (.pair .str (.pair (.int .i64) (.pair (.int .i64) (.pair (.int .i64) (.pair (.int .i64) (.pair (.int .i64) (.pair (.int .i64) (.pair (.int .i64) (.int .i64))))))))))),(.val,.str)],rs := [(.val,(.int .i64))],F := fun x => QA.f x.1 x.2 }
def QA.cs : List (FuncId × Con) := []
def QA.E : Env := envOf tab QA.cs 0 false
def QA.keep (i : Nat) : List Nat := if i = 2 then [1,7,8,9] else []
def QA.at2 (n : Nat) (x : YG × ByteArray) : Code × (Ex → St → Option (Int)) := ctx QA.E QA.keep n [.snd,.fst,.snd,.blk] (Vh Tryz.f39) (kEnd QA.E Tryz.f39 QA.con x)
def QA.LN2 (n : Nat) (x : YG × ByteArray) : Nat → St → Option (Int) := loopN (exec QA.E QA.keep n (Vm (QA.at2 n x).1)) (St.norm 0 (QA.keep 2)) (QA.at2 n x).2
set_option maxRecDepth 100000 in
theorem QA.lem2 (n : Nat) (x : YG × ByteArray) : ∀ (k : Nat) (p : ByteArray) (v7 : List YA) (v8 : Int) (v9 : Int),QA.LN2 n x k (QA.st2 p v7 v8 v9) = QA.l2 n k p v7 v8 v9 := by
 intro k
 induction k with
 | zero => intro p v7 v8 v9; rfl
 | succ k ih =>
  intro p v7 v8 v9
  have h : QA.LN2 n x (k + 1) (QA.st2 p v7 v8 v9) = QA.g2 (fun p v7 v8 v9 => QA.LN2 n x k (QA.st2 p v7 v8 v9)) p v7 v8 v9 := by kernel_rfl
  rw [h]
  simp only [ih]
  rfl
set_option maxRecDepth 100000 in
theorem QA.body (n : Nat) (x : YG × ByteArray) : bodyF QA.E QA.keep n Tryz.f39 QA.con x = QA.fn n x.1 x.2 := by
 have h : bodyF QA.E QA.keep n Tryz.f39 QA.con x = QA.top (fun p v7 v8 v9 => QA.LN2 n x n (QA.st2 p v7 v8 v9)) x.1 x.2 := by kernel_rfl
 rw [h]
 simp only [QA.lem2]
 rfl
set_option maxRecDepth 100000 in
theorem QA.good : Good Tryz.prog 39 QA.con :=
 Vg tabok (cs := QA.cs) trivial 0 false (fn := Tryz.f39) Tryz.func39 rfl (by decide) (by simp [QA.con]) QA.keep NN (fun _ => rfl) (fun x => QA.body NN x)
end
end Go.Ev.Tryz

namespace Go.Ev.Tryz
open Go.Proofs Go.Pl
set_option linter.unusedVariables false
noncomputable section
def QaC.con : Con := { ps := [(.val,(.int .i64)),(.val,(.int .i64))],rs := [(.val,.bool)],F := fun x => QaC.f x.1 x.2 }
def QaC.cs : List (FuncId × Con) := [(72,Q2.con)]
def QaC.E : Env := envOf tab QaC.cs 0 false
def QaC.keep (i : Nat) : List Nat := []
set_option maxRecDepth 100000 in
theorem QaC.body (n : Nat) (x : Int × Int) : bodyF QaC.E QaC.keep n Tryz.f38 QaC.con x = QaC.fn n x.1 x.2 := by
 have h : bodyF QaC.E QaC.keep n Tryz.f38 QaC.con x = QaC.top x.1 x.2 := by kernel_rfl
 exact h
set_option maxRecDepth 100000 in
theorem QaC.good : Good Tryz.prog 38 QaC.con :=
 Vg tabok (cs := QaC.cs) ⟨Q2.good,trivial⟩ 0 false (fn := Tryz.f38) Tryz.func38 rfl (by decide) (by simp [QaC.con]) QaC.keep NN (fun _ => rfl) (fun x => QaC.body NN x)
end
end Go.Ev.Tryz

namespace Go.Ev.Tryz
open Go.Proofs Go.Pl
set_option linter.unusedVariables false
noncomputable section
def QaJ.con : Con := { ps := [(.val,(.sl 119 (.pair (.int .i64) (.int .i64)))),(.val,(.int .i64)),(.val,(.int .i64))],rs := [(.val,.bool)],F := fun x => QaJ.f x.1 x.2.1 x.2.2 }
def QaJ.cs : List (FuncId × Con) := [(38,QaC.con),(72,Q2.con)]
def QaJ.E : Env := envOf tab QaJ.cs 0 false
def QaJ.keep (i : Nat) : List Nat := []
set_option maxRecDepth 100000 in
theorem QaJ.body (n : Nat) (x : YF × Int × Int) : bodyF QaJ.E QaJ.keep n Tryz.f54 QaJ.con x = QaJ.fn n x.1 x.2.1 x.2.2 := by
 have h : bodyF QaJ.E QaJ.keep n Tryz.f54 QaJ.con x = QaJ.top x.1 x.2.1 x.2.2 := by kernel_rfl
 exact h
set_option maxRecDepth 100000 in
theorem QaJ.good : Good Tryz.prog 54 QaJ.con :=
 Vg tabok (cs := QaJ.cs) ⟨QaC.good,Q2.good,trivial⟩ 0 false (fn := Tryz.f54) Tryz.func54 rfl (by decide) (by simp [QaJ.con]) QaJ.keep NN (fun _ => rfl) (fun x => QaJ.body NN x)
end
end Go.Ev.Tryz

namespace Go.Ev.Tryz
open Go.Proofs Go.Pl
set_option linter.unusedVariables false
noncomputable section
def QK.st3 (p : List YC) (r : Int) (q : Int) (t7 : Int) (v12 : List YC) (v13 : Int) (v14 : Int) : St := ⟨[.dat (.sl 119 (.pair (.int .i64) (.int .i64))) p,.dat (.int .i64) r,.dat (.int .i64) q,.gone,.gone,.gone,.gone,.dat (.int .i64) t7,.gone,.gone,.gone,.gone,.dat (.sl 119 (.pair (.int .i64) (.int .i64))) v12,.dat (.int .i64) v13,.dat (.int .i64) v14,.gone,.gone,.gone,.gone,.gone,.gone,.gone,.gone,.gone,.gone,.gone,.gone,.gone,.gone,.gone,.gone,.gone,.gone,.gone,.gone,.gone,.gone,.gone],[]⟩
def QK.con : Con := { ps := [(.val,(.sl 119 (.pair (.int .i64) (.int .i64)))),(.val,(.int .i64)),(.val,(.int .i64))],rs := [(.val,(.int .i64))],F := fun x => QK.f x.1 x.2.1 x.2.2 }
def QK.cs : List (FuncId × Con) := []
def QK.E : Env := envOf tab QK.cs 0 false
def QK.keep (i : Nat) : List Nat := if i = 3 then [0,1,2,7,12,13,14] else []
def QK.at3 (n : Nat) (x : YF × Int × Int) : Code × (Ex → St → Option (Int)) := ctx QK.E QK.keep n [.snd,.snd,.fst,.snd,.blk] (Vh Tryz.f55) (kEnd QK.E Tryz.f55 QK.con x)
def QK.LN3 (n : Nat) (x : YF × Int × Int) : Nat → St → Option (Int) := loopN (exec QK.E QK.keep n (Vm (QK.at3 n x).1)) (St.norm 0 (QK.keep 3)) (QK.at3 n x).2
set_option maxRecDepth 100000 in
theorem QK.lem3 (n : Nat) (x : YF × Int × Int) : ∀ (k : Nat) (p : List YC) (r : Int) (q : Int) (t7 : Int) (v12 : List YC) (v13 : Int) (v14 : Int),QK.LN3 n x k (QK.st3 p r q t7 v12 v13 v14) = QK.l3 n k p r q t7 v12 v13 v14 := by
 intro k
 induction k with
 | zero => intro p r q t7 v12 v13 v14; rfl
 | succ k ih =>
  intro p r q t7 v12 v13 v14
  have h : QK.LN3 n x (k + 1) (QK.st3 p r q t7 v12 v13 v14) = QK.g3 (fun p r q t7 v12 v13 v14 => QK.LN3 n x k (QK.st3 p r q t7 v12 v13 v14)) p r q t7 v12 v13 v14 := by kernel_rfl
  rw [h]
  simp only [ih]
  rfl
set_option maxRecDepth 100000 in
theorem QK.body (n : Nat) (x : YF × Int × Int) : bodyF QK.E QK.keep n Tryz.f55 QK.con x = QK.fn n x.1 x.2.1 x.2.2 := by
 have h : bodyF QK.E QK.keep n Tryz.f55 QK.con x = QK.top (fun p r q t7 v12 v13 v14 => QK.LN3 n x n (QK.st3 p r q t7 v12 v13 v14)) x.1 x.2.1 x.2.2 := by kernel_rfl
 rw [h]
 simp only [QK.lem3]
 rfl
set_option maxRecDepth 100000 in
theorem QK.good : Good Tryz.prog 55 QK.con :=
 Vg tabok (cs := QK.cs) trivial 0 false (fn := Tryz.f55) Tryz.func55 rfl (by decide) (by simp [QK.con]) QK.keep NN (fun _ => rfl) (fun x => QK.body NN x)
end
end Go.Ev.Tryz

namespace Go.Ev.Tryz
open Go.Proofs Go.Pl
set_option linter.unusedVariables false
noncomputable section
def QaD.con : Con := { ps := [(.val,(.pair (.sl 119 (.pair (.int .i64) (.int .i64))) (.pair (.sl 78 (.pair .str (.pair (.int .i64) (.pair (.int .i64) (.pair (.int .i64) (.pair (.int .i64) (.pair (.int .i64) (.pair (.int .i64) (.pair (.int .i64) (.int .i64)))))))))) (.sl 59 (.pair (.int .i64) (.pair (.int .i64) (.pair .str (.int .i64)))))))),(.val,(.pair (.int .i64) (.pair (.int .i64) (.pair .str (.int .i64)))))],rs := [(.val,(.int .i64))],F := fun x => QaD.f x.1 x.2 }
def QaD.cs : List (FuncId × Con) := [(39,QA.con),(54,QaJ.con),(55,QK.con)]
def QaD.E : Env := envOf tab QaD.cs 0 false
def QaD.keep (i : Nat) : List Nat := []
set_option maxRecDepth 100000 in
theorem QaD.body (n : Nat) (x : YH × Int × Int × ByteArray × Int) : bodyF QaD.E QaD.keep n Tryz.f73 QaD.con x = QaD.fn n x.1 x.2 := by
 have h : bodyF QaD.E QaD.keep n Tryz.f73 QaD.con x = QaD.top x.1 x.2 := by kernel_rfl
 exact h
set_option maxRecDepth 100000 in
theorem QaD.good : Good Tryz.prog 73 QaD.con :=
 Vg tabok (cs := QaD.cs) ⟨QA.good,QaJ.good,QK.good,trivial⟩ 0 false (fn := Tryz.f73) Tryz.func73 rfl (by decide) (by simp [QaD.con]) QaD.keep NN (fun _ => rfl) (fun x => QaD.body NN x)
end
end Go.Ev.Tryz

namespace Go.Ev.Tryz
open Go.Proofs Go.Pl
set_option linter.unusedVariables false
noncomputable section
def Qab.st4 (v22 : List YB) (v23 : Int) (v24 : Int) (x1 : YF × YG × List YB) : St := ⟨[.gone,.ptr 0 [],.gone,.gone,.gone,.gone,.gone,.gone,.gone,.gone,.gone,.gone,.gone,.gone,.gone,.gone,.gone,.gone,.gone,.gone,.gone,.gone,.dat (.sl 59 (.pair (.int .i64) (.pair (.int .i64) (.pair .str (.int .i64))))) v22,.dat (.int .i64) v23,.dat (.int .i64) v24,.gone,.gone,.gone,.gone,.gone,.gone,.gone,.gone,.gone,.gone,.gone,.gone,.gone,.gone],[.box 36 (.pair (.sl 119 (.pair (.int .i64) (.int .i64))) (.pair (.sl 78 (.pair .str (.pair (.int .i64) (.pair (.int .i64) (.pair (.int .i64) (.pair (.int .i64) (.pair (.int .i64) (.pair (.int .i64) (.pair (.int .i64) (.int .i64)))))))))) (.sl 59 (.pair (.int .i64) (.pair (.int .i64) (.pair .str (.int .i64))))))) (.dat (.pair (.sl 119 (.pair (.int .i64) (.int .i64))) (.pair (.sl 78 (.pair .str (.pair (.int .i64) (.pair (.int .i64) (.pair (.int .i64) (.pair (.int .i64) (.pair (.int .i64) (.pair (.int .i64) (.pair (.int .i64) (.int .i64)))))))))) (.sl 59 (.pair (.int .i64) (.pair (.int .i64) (.pair .str (.int .i64))))))) x1)]⟩
def Qab.con : Con := { ps := [(.val,(.pair (.sl 119 (.pair (.int .i64) (.int .i64))) (.pair (.sl 78 (.pair .str (.pair (.int .i64) (.pair (.int .i64) (.pair (.int .i64) (.pair (.int .i64) (.pair (.int .i64) (.pair (.int .i64) (.pair (.int .i64) (.int .i64)))))))))) (.sl 59 (.pair (.int .i64) (.pair (.int .i64) (.pair .str (.int .i64))))))))],rs := [(.val,.bool)],F := fun x => Qab.f x }
def Qab.cs : List (FuncId × Con) := [(53,QX.con),(71,Qo.con),(72,Q2.con),(73,QaD.con)]
def Qab.E : Env := envOf tab Qab.cs 0 false
def Qab.keep (i : Nat) : List Nat := if i = 4 then [1,22,23,24] else []
def Qab.at4 (n : Nat) (x : YF × YG × List YB) : Code × (Ex → St → Option (Bool)) := ctx Qab.E Qab.keep n [.snd,.snd,.fst,.snd,.blk] (Vh Tryz.f32) (kEnd Qab.E Tryz.f32 Qab.con x)
def Qab.LN4 (n : Nat) (x : YF × YG × List YB) : Nat → St → Option (Bool) := loopN (exec Qab.E Qab.keep n (Vm (Qab.at4 n x).1)) (St.norm 0 (Qab.keep 4)) (Qab.at4 n x).2
set_option maxRecDepth 100000 in
theorem Qab.lem4 (n : Nat) (x : YF × YG × List YB) : ∀ (k : Nat) (v22 : List YB) (v23 : Int) (v24 : Int) (x1 : YF × YG × List YB),Qab.LN4 n x k (Qab.st4 v22 v23 v24 x1) = Qab.l4 n k v22 v23 v24 x1 := by
 intro k
 induction k with
 | zero => intro v22 v23 v24 x1; rfl
 | succ k ih =>
  intro v22 v23 v24 x1
  have h : Qab.LN4 n x (k + 1) (Qab.st4 v22 v23 v24 x1) = Qab.g4 (fun v22 v23 v24 x1 => Qab.LN4 n x k (Qab.st4 v22 v23 v24 x1)) v22 v23 v24 x1 := by kernel_rfl
  rw [h]
  simp only [ih]
  rfl
set_option maxRecDepth 100000 in
theorem Qab.body (n : Nat) (x : YF × YG × List YB) : bodyF Qab.E Qab.keep n Tryz.f32 Qab.con x = Qab.fn n x := by
 have h : bodyF Qab.E Qab.keep n Tryz.f32 Qab.con x = Qab.top (fun v22 v23 v24 x1 => Qab.LN4 n x n (Qab.st4 v22 v23 v24 x1)) x := by kernel_rfl
 rw [h]
 simp only [Qab.lem4]
 rfl
set_option maxRecDepth 100000 in
theorem Qab.good : Good Tryz.prog 32 Qab.con :=
 Vg tabok (cs := Qab.cs) ⟨QX.good,Qo.good,Q2.good,QaD.good,trivial⟩ 0 false (fn := Tryz.f32) Tryz.func32 rfl (by decide) (by simp [Qab.con]) Qab.keep NN (fun _ => rfl) (fun x => Qab.body NN x)
end
end Go.Ev.Tryz

namespace Go.Ev.Tryz
open Go.Proofs Go.Pl
set_option linter.unusedVariables false
noncomputable section
def Qx.st3 (p : Int) (k6 : Int) (a2 : ByteArray × Int × Int × Int × Int × Int × Int × Int × Int) (q : List YQ) : St := ⟨[.gone,.dat (.int .i64) p,.ptr 0 [],.gone,.gone,.ref 1,.dat (.int .i64) k6,.gone,.gone,.gone,.gone,.gone,.gone,.gone,.gone,.gone,.gone,.gone,.gone,.gone,.gone,.gone,.gone,.gone,.gone,.gone,.gone,.gone,.gone,.gone,.gone,.gone,.gone,.gone,.gone,.gone],[.box 78 (.pair .str (.pair (.int .i64) (.pair (.int .i64) (.pair (.int .i64) (.pair (.int .i64) (.pair (.int .i64) (.pair (.int .i64) (.pair (.int .i64) (.int .i64))))))))) (.dat (.pair .str (.pair (.int .i64) (.pair (.int .i64) (.pair (.int .i64) (.pair (.int .i64) (.pair (.int .i64) (.pair (.int .i64) (.pair (.int .i64) (.int .i64))))))))) a2),.row 24 (.sl 2 (.int .i64)) q none]⟩
def Qx.con : Con := { ps := [(.val,(.pair .str (.pair (.int .i64) (.pair (.int .i64) (.pair (.int .i64) (.pair (.int .i64) (.pair (.int .i64) (.pair (.int .i64) (.pair (.int .i64) (.int .i64)))))))))),(.val,(.int .i64))],rs := [(.own,(.sl 24 (.sl 2 (.int .i64))))],F := fun x => Qx.f x.1 x.2 }
def Qx.cs : List (FuncId × Con) := []
def Qx.E : Env := envOf tab Qx.cs 0 false
def Qx.keep (i : Nat) : List Nat := if i = 3 then [1,2,5,6] else []
def Qx.at3 (n : Nat) (x : YA × Int) : Code × (Ex → St → Option (YAG)) := ctx Qx.E Qx.keep n [.snd,.snd,.fst,.snd,.blk] (Vh Tryz.f102) (kEnd Qx.E Tryz.f102 Qx.con x)
def Qx.LN3 (n : Nat) (x : YA × Int) : Nat → St → Option (YAG) := loopN (exec Qx.E Qx.keep n (Vm (Qx.at3 n x).1)) (St.norm 0 (Qx.keep 3)) (Qx.at3 n x).2
set_option maxRecDepth 100000 in
theorem Qx.lem3 (n : Nat) (x : YA × Int) : ∀ (k : Nat) (p : Int) (k6 : Int) (a2 : ByteArray × Int × Int × Int × Int × Int × Int × Int × Int) (q : List YQ),Qx.LN3 n x k (Qx.st3 p k6 a2 q) = Qx.l3 n k p k6 a2 q := by
 intro k
 induction k with
 | zero => intro p k6 a2 q; rfl
 | succ k ih =>
  intro p k6 a2 q
  have h : Qx.LN3 n x (k + 1) (Qx.st3 p k6 a2 q) = Qx.g3 (fun p k6 a2 q => Qx.LN3 n x k (Qx.st3 p k6 a2 q)) p k6 a2 q := by kernel_rfl
  rw [h]
  simp only [ih]
  rfl
set_option maxRecDepth 100000 in
theorem Qx.body (n : Nat) (x : YA × Int) : bodyF Qx.E Qx.keep n Tryz.f102 Qx.con x = Qx.fn n x.1 x.2 := by
 have h : bodyF Qx.E Qx.keep n Tryz.f102 Qx.con x = Qx.top (fun p k6 a2 q => Qx.LN3 n x n (Qx.st3 p k6 a2 q)) x.1 x.2 := by kernel_rfl
 rw [h]
 simp only [Qx.lem3]
 rfl
set_option maxRecDepth 100000 in
theorem Qx.good : Good Tryz.prog 102 Qx.con :=
 Vg tabok (cs := Qx.cs) trivial 0 false (fn := Tryz.f102) Tryz.func102 rfl (by decide) (by simp [Qx.con]) Qx.keep NN (fun _ => rfl) (fun x => Qx.body NN x)
end
end Go.Ev.Tryz

namespace Go.Ev.Tryz
open Go.Proofs Go.Pl
set_option linter.unusedVariables false
noncomputable section
def Qas.con : Con := { ps := [(.val,(.pair (.sl 119 (.pair (.int .i64) (.int .i64))) (.pair (.sl 78 (.pair .str (.pair (.int .i64) (.pair (.int .i64) (.pair (.int .i64) (.pair (.int .i64) (.pair (.int .i64) (.pair (.int .i64) (.pair (.int .i64) (.int .i64)))))))))) (.sl 59 (.pair (.int .i64) (.pair (.int .i64) (.pair .str (.int .i64)))))))),(.val,(.pair (.int .i64) (.pair (.int .i64) (.pair .str (.int .i64)))))],rs := [(.val,(.pair .str (.pair (.int .i64) (.pair (.int .i64) (.pair (.int .i64) (.pair (.int .i64) (.pair (.int .i64) (.pair (.int .i64) (.pair (.int .i64) (.int .i64))))))))))],F := fun x => Qas.f x.1 x.2 }
def Qas.cs : List (FuncId × Con) := [(39,QA.con)]
def Qas.E : Env := envOf tab Qas.cs 0 false
def Qas.keep (i : Nat) : List Nat := []
set_option maxRecDepth 100000 in
theorem Qas.body (n : Nat) (x : YH × Int × Int × ByteArray × Int) : bodyF Qas.E Qas.keep n Tryz.f103 Qas.con x = Qas.fn n x.1 x.2 := by
 have h : bodyF Qas.E Qas.keep n Tryz.f103 Qas.con x = Qas.top x.1 x.2 := by kernel_rfl
 exact h
set_option maxRecDepth 100000 in
theorem Qas.good : Good Tryz.prog 103 Qas.con :=
 Vg tabok (cs := Qas.cs) ⟨QA.good,trivial⟩ 0 false (fn := Tryz.f103) Tryz.func103 rfl (by decide) (by simp [Qas.con]) Qas.keep NN (fun _ => rfl) (fun x => Qas.body NN x)
end
end Go.Ev.Tryz

namespace Go.Ev.Tryz
open Go.Proofs Go.Pl
set_option linter.unusedVariables false
noncomputable section
def Qak.con : Con := { ps := [(.val,(.pair (.sl 119 (.pair (.int .i64) (.int .i64))) (.pair (.sl 78 (.pair .str (.pair (.int .i64) (.pair (.int .i64) (.pair (.int .i64) (.pair (.int .i64) (.pair (.int .i64) (.pair (.int .i64) (.pair (.int .i64) (.int .i64)))))))))) (.sl 59 (.pair (.int .i64) (.pair (.int .i64) (.pair .str (.int .i64)))))))),(.val,(.pair (.int .i64) (.pair (.int .i64) (.pair .str (.int .i64)))))],rs := [(.own,(.sl 24 (.sl 2 (.int .i64))))],F := fun x => Qak.f x.1 x.2 }
def Qak.cs : List (FuncId × Con) := [(73,QaD.con),(102,Qx.con),(103,Qas.con)]
def Qak.E : Env := envOf tab Qak.cs 0 false
def Qak.keep (i : Nat) : List Nat := []
set_option maxRecDepth 100000 in
theorem Qak.body (n : Nat) (x : YH × Int × Int × ByteArray × Int) : bodyF Qak.E Qak.keep n Tryz.f74 Qak.con x = Qak.fn n x.1 x.2 := by
 have h : bodyF Qak.E Qak.keep n Tryz.f74 Qak.con x = Qak.top x.1 x.2 := by kernel_rfl
 exact h
set_option maxRecDepth 100000 in
theorem Qak.good : Good Tryz.prog 74 Qak.con :=
 Vg tabok (cs := Qak.cs) ⟨QaD.good,Qx.good,Qas.good,trivial⟩ 0 false (fn := Tryz.f74) Tryz.func74 rfl (by decide) (by simp [Qak.con]) Qak.keep NN (fun _ => rfl) (fun x => Qak.body NN x)
end
end Go.Ev.Tryz

namespace Go.Ev.Tryz
open Go.Proofs Go.Pl
set_option linter.unusedVariables false
noncomputable section
def Qi.st6 (i4 : Int) (v9 : List YB) (v10 : Int) (v11 : Int) (v19 : Int) (v20 : Int) (x1 : YF × YG × List YB) (p : List YQ) (v18 : List YQ) : St := ⟨[.gone,.ptr 0 [],.gone,.ref 1,.dat (.int .i64) i4,.gone,.gone,.gone,.gone,.dat (.sl 59 (.pair (.int .i64) (.pair (.int .i64) (.pair .str (.int .i64))))) v9,.dat (.int .i64) v10,.dat (.int .i64) v11,.gone,.gone,.gone,.gone,.gone,.gone,.ref 2,.dat (.int .i64) v19,.dat (.int .i64) v20,.gone,.gone,.gone,.gone,.gone,.gone,.gone,.gone,.gone,.gone,.gone,.gone,.gone,.gone,.gone,.gone,.gone],[.box 36 (.pair (.sl 119 (.pair (.int .i64) (.int .i64))) (.pair (.sl 78 (.pair .str (.pair (.int .i64) (.pair (.int .i64) (.pair (.int .i64) (.pair (.int .i64) (.pair (.int .i64) (.pair (.int .i64) (.pair (.int .i64) (.int .i64)))))))))) (.sl 59 (.pair (.int .i64) (.pair (.int .i64) (.pair .str (.int .i64))))))) (.dat (.pair (.sl 119 (.pair (.int .i64) (.int .i64))) (.pair (.sl 78 (.pair .str (.pair (.int .i64) (.pair (.int .i64) (.pair (.int .i64) (.pair (.int .i64) (.pair (.int .i64) (.pair (.int .i64) (.pair (.int .i64) (.int .i64)))))))))) (.sl 59 (.pair (.int .i64) (.pair (.int .i64) (.pair .str (.int .i64))))))) x1),.row 24 (.sl 2 (.int .i64)) p none,.row 24 (.sl 2 (.int .i64)) v18 none]⟩
def Qi.st3 (v9 : List YB) (v10 : Int) (v11 : Int) (x1 : YF × YG × List YB) (p : List YQ) : St := ⟨[.gone,.ptr 0 [],.gone,.ref 1,.gone,.gone,.gone,.gone,.gone,.dat (.sl 59 (.pair (.int .i64) (.pair (.int .i64) (.pair .str (.int .i64))))) v9,.dat (.int .i64) v10,.dat (.int .i64) v11,.gone,.gone,.gone,.gone,.gone,.gone,.gone,.gone,.gone,.gone,.gone,.gone,.gone,.gone,.gone,.gone,.gone,.gone,.gone,.gone,.gone,.gone,.gone,.gone,.gone,.gone],[.box 36 (.pair (.sl 119 (.pair (.int .i64) (.int .i64))) (.pair (.sl 78 (.pair .str (.pair (.int .i64) (.pair (.int .i64) (.pair (.int .i64) (.pair (.int .i64) (.pair (.int .i64) (.pair (.int .i64) (.pair (.int .i64) (.int .i64)))))))))) (.sl 59 (.pair (.int .i64) (.pair (.int .i64) (.pair .str (.int .i64))))))) (.dat (.pair (.sl 119 (.pair (.int .i64) (.int .i64))) (.pair (.sl 78 (.pair .str (.pair (.int .i64) (.pair (.int .i64) (.pair (.int .i64) (.pair (.int .i64) (.pair (.int .i64) (.pair (.int .i64) (.pair (.int .i64) (.int .i64)))))))))) (.sl 59 (.pair (.int .i64) (.pair (.int .i64) (.pair .str (.int .i64))))))) x1),.row 24 (.sl 2 (.int .i64)) p none]⟩
def Qi.con : Con := { ps := [(.val,(.pair (.sl 119 (.pair (.int .i64) (.int .i64))) (.pair (.sl 78 (.pair .str (.pair (.int .i64) (.pair (.int .i64) (.pair (.int .i64) (.pair (.int .i64) (.pair (.int .i64) (.pair (.int .i64) (.pair (.int .i64) (.int .i64)))))))))) (.sl 59 (.pair (.int .i64) (.pair (.int .i64) (.pair .str (.int .i64))))))))],rs := [(.own,(.sl 24 (.sl 2 (.int .i64))))],F := fun x => Qi.f x }
def Qi.cs : List (FuncId × Con) := [(74,Qak.con)]
def Qi.E : Env := envOf tab Qi.cs 0 false
def Qi.keep (i : Nat) : List Nat := if i = 6 then [1,3,4,9,10,11,18,19,20] else if i = 3 then [1,3,9,10,11] else []
def Qi.at6 (n : Nat) (x : YF × YG × List YB) (M3 : St → Option (YAG)) : Code × (Ex → St → Option (YAG)) := ctx Qi.E Qi.keep n [.snd,.snd,.fst,.snd,.blk,.rd M3,.snd,.snd,.fst,.blk,.snd,.snd,.blk] (Vh Tryz.f33) (kEnd Qi.E Tryz.f33 Qi.con x)
def Qi.LN6 (n : Nat) (x : YF × YG × List YB) (M3 : St → Option (YAG)) : Nat → St → Option (YAG) := loopN (exec Qi.E Qi.keep n (Vm (Qi.at6 n x M3).1)) (St.norm 0 (Qi.keep 6)) (Qi.at6 n x M3).2
def Qi.at3 (n : Nat) (x : YF × YG × List YB) : Code × (Ex → St → Option (YAG)) := ctx Qi.E Qi.keep n [.snd,.snd,.fst,.snd,.blk] (Vh Tryz.f33) (kEnd Qi.E Tryz.f33 Qi.con x)
def Qi.LN3 (n : Nat) (x : YF × YG × List YB) : Nat → St → Option (YAG) := loopN (exec Qi.E Qi.keep n (Vm (Qi.at3 n x).1)) (St.norm 0 (Qi.keep 3)) (Qi.at3 n x).2
set_option maxRecDepth 100000 in
theorem Qi.lem6 (n : Nat) (x : YF × YG × List YB) (M3 : St → Option (YAG)) : ∀ (k : Nat) (i4 : Int) (v9 : List YB) (v10 : Int) (v11 : Int) (v19 : Int) (v20 : Int) (x1 : YF × YG × List YB) (p : List YQ) (v18 : List YQ),Qi.LN6 n x M3 k (Qi.st6 i4 v9 v10 v11 v19 v20 x1 p v18) = Qi.l6 n (fun v9 v10 v11 x1 p => M3 (Qi.st3 v9 v10 v11 x1 p)) k i4 v9 v10 v11 v19 v20 x1 p v18 := by
 intro k
 induction k with
 | zero => intro i4 v9 v10 v11 v19 v20 x1 p v18; rfl
 | succ k ih =>
  intro i4 v9 v10 v11 v19 v20 x1 p v18
  have h : Qi.LN6 n x M3 (k + 1) (Qi.st6 i4 v9 v10 v11 v19 v20 x1 p v18) = Qi.g6 (fun v9 v10 v11 x1 p => M3 (Qi.st3 v9 v10 v11 x1 p)) (fun i4 v9 v10 v11 v19 v20 x1 p v18 => Qi.LN6 n x M3 k (Qi.st6 i4 v9 v10 v11 v19 v20 x1 p v18)) i4 v9 v10 v11 v19 v20 x1 p v18 := by kernel_rfl
  rw [h]
  simp only [ih]
  rfl
set_option maxRecDepth 100000 in
theorem Qi.lem3 (n : Nat) (x : YF × YG × List YB) : ∀ (k : Nat) (v9 : List YB) (v10 : Int) (v11 : Int) (x1 : YF × YG × List YB) (p : List YQ),Qi.LN3 n x k (Qi.st3 v9 v10 v11 x1 p) = Qi.l3 n k v9 v10 v11 x1 p := by
 intro k
 induction k with
 | zero => intro v9 v10 v11 x1 p; rfl
 | succ k ih =>
  intro v9 v10 v11 x1 p
  have h : Qi.LN3 n x (k + 1) (Qi.st3 v9 v10 v11 x1 p) = Qi.g3 (fun i4 v9 v10 v11 v19 v20 x1 p v18 => Qi.LN6 n x (Qi.LN3 n x k) n (Qi.st6 i4 v9 v10 v11 v19 v20 x1 p v18)) (fun v9 v10 v11 x1 p => Qi.LN3 n x k (Qi.st3 v9 v10 v11 x1 p)) v9 v10 v11 x1 p := by kernel_rfl
  rw [h]
  simp only [ih,Qi.lem6]
  rfl
set_option maxRecDepth 100000 in
theorem Qi.body (n : Nat) (x : YF × YG × List YB) : bodyF Qi.E Qi.keep n Tryz.f33 Qi.con x = Qi.fn n x := by
 have h : bodyF Qi.E Qi.keep n Tryz.f33 Qi.con x = Qi.top (fun v9 v10 v11 x1 p => Qi.LN3 n x n (Qi.st3 v9 v10 v11 x1 p)) x := by kernel_rfl
 rw [h]
 simp only [Qi.lem3]
 rfl
set_option maxRecDepth 100000 in
theorem Qi.good : Good Tryz.prog 33 Qi.con :=
 Vg tabok (cs := Qi.cs) ⟨Qak.good,trivial⟩ 0 false (fn := Tryz.f33) Tryz.func33 rfl (by decide) (by simp [Qi.con]) Qi.keep NN (fun _ => rfl) (fun x => Qi.body NN x)
end
end Go.Ev.Tryz

namespace Go.Ev.Tryz
open Go.Proofs Go.Pl
set_option linter.unusedVariables false
noncomputable section
def Qav.con : Con := { ps := [(.val,(.pair (.sl 119 (.pair (.int .i64) (.int .i64))) (.pair (.sl 78 (.pair .str (.pair (.int .i64) (.pair (.int .i64) (.pair (.int .i64) (.pair (.int .i64) (.pair (.int .i64) (.pair (.int .i64) (.pair (.int .i64) (.int .i64)))))))))) (.sl 59 (.pair (.int .i64) (.pair (.int .i64) (.pair .str (.int .i64))))))))],rs := [(.own,(.sl 24 (.sl 2 (.int .i64)))),(.own,(.int .i64))],F := fun x => Qav.f x }
def Qav.cs : List (FuncId × Con) := [(32,Qab.con),(33,Qi.con)]
def Qav.E : Env := envOf tab Qav.cs 0 false
def Qav.keep (i : Nat) : List Nat := []
set_option maxRecDepth 100000 in
theorem Qav.body (n : Nat) (x : YF × YG × List YB) : bodyF Qav.E Qav.keep n Tryz.f9 Qav.con x = Qav.fn n x := by
 have h : bodyF Qav.E Qav.keep n Tryz.f9 Qav.con x = Qav.top x := by kernel_rfl
 exact h
set_option maxRecDepth 100000 in
theorem Qav.good : Good Tryz.prog 9 Qav.con :=
 Vg tabok (cs := Qav.cs) ⟨Qab.good,Qi.good,trivial⟩ 0 false (fn := Tryz.f9) Tryz.func9 rfl (by decide) (by simp [Qav.con]) Qav.keep NN (fun _ => rfl) (fun x => Qav.body NN x)
end
end Go.Ev.Tryz

namespace Go.Ev.Tryz
open Go.Proofs Go.Pl
set_option linter.unusedVariables false
noncomputable section
def Qax.con : Con := { ps := [(.val,(.pair .str (.pair (.int .i64) (.pair (.int .i64) (.pair (.int .i64) (.pair (.int .i64) (.pair (.int .i64) (.pair (.int .i64) (.pair (.int .i64) (.int .i64)))))))))),(.val,(.int .i64)),(.val,(.int .i64))],rs := [(.own,(.sl 2 (.int .i64)))],F := fun x => Qax.f x.1 x.2.1 x.2.2 }
def Qax.cs : List (FuncId × Con) := []
def Qax.E : Env := envOf tab Qax.cs 0 false
def Qax.keep (i : Nat) : List Nat := []
set_option maxRecDepth 100000 in
theorem Qax.body (n : Nat) (x : YA × Int × Int) : bodyF Qax.E Qax.keep n Tryz.f106 Qax.con x = Qax.fn n x.1 x.2.1 x.2.2 := by
 have h : bodyF Qax.E Qax.keep n Tryz.f106 Qax.con x = Qax.top x.1 x.2.1 x.2.2 := by kernel_rfl
 exact h
set_option maxRecDepth 100000 in
theorem Qax.good : Good Tryz.prog 106 Qax.con :=
 Vg tabok (cs := Qax.cs) trivial 0 false (fn := Tryz.f106) Tryz.func106 rfl (by decide) (by simp [Qax.con]) Qax.keep NN (fun _ => rfl) (fun x => Qax.body NN x)
end
end Go.Ev.Tryz

namespace Go.Ev.Tryz
open Go.Proofs Go.Pl
set_option linter.unusedVariables false
noncomputable section
def QV.st5 (k1 : Int) (i8 : Int) (x2 : YF × YG × List YB) (c5 : Int × Int × ByteArray × Int) (a6 : ByteArray × Int × Int × Int × Int × Int × Int × Int × Int) (p : List YQ) : St := ⟨[.gone,.dat (.int .i64) k1,.ptr 0 [],.gone,.gone,.ptr 1 [],.ptr 2 [],.ref 3,.dat (.int .i64) i8,.gone,.gone,.gone,.gone,.gone,.gone,.gone,.gone,.gone,.gone,.gone,.gone,.gone,.gone,.gone,.gone,.gone,.gone,.gone,.gone,.gone,.gone,.gone,.gone,.gone,.gone,.gone,.gone,.gone,.gone,.gone,.gone,.gone,.gone,.gone,.gone,.gone,.gone,.gone,.gone],[.box 36 (.pair (.sl 119 (.pair (.int .i64) (.int .i64))) (.pair (.sl 78 (.pair .str (.pair (.int .i64) (.pair (.int .i64) (.pair (.int .i64) (.pair (.int .i64) (.pair (.int .i64) (.pair (.int .i64) (.pair (.int .i64) (.int .i64)))))))))) (.sl 59 (.pair (.int .i64) (.pair (.int .i64) (.pair .str (.int .i64))))))) (.dat (.pair (.sl 119 (.pair (.int .i64) (.int .i64))) (.pair (.sl 78 (.pair .str (.pair (.int .i64) (.pair (.int .i64) (.pair (.int .i64) (.pair (.int .i64) (.pair (.int .i64) (.pair (.int .i64) (.pair (.int .i64) (.int .i64)))))))))) (.sl 59 (.pair (.int .i64) (.pair (.int .i64) (.pair .str (.int .i64))))))) x2),.box 59 (.pair (.int .i64) (.pair (.int .i64) (.pair .str (.int .i64)))) (.dat (.pair (.int .i64) (.pair (.int .i64) (.pair .str (.int .i64)))) c5),.box 78 (.pair .str (.pair (.int .i64) (.pair (.int .i64) (.pair (.int .i64) (.pair (.int .i64) (.pair (.int .i64) (.pair (.int .i64) (.pair (.int .i64) (.int .i64))))))))) (.dat (.pair .str (.pair (.int .i64) (.pair (.int .i64) (.pair (.int .i64) (.pair (.int .i64) (.pair (.int .i64) (.pair (.int .i64) (.pair (.int .i64) (.int .i64))))))))) a6),.row 24 (.sl 2 (.int .i64)) p none]⟩
def QV.tr0 (I5 : YAL) (x0 : YF × YG × List YB) (k1 : Int) : Option YAG :=
 (QW.f x0.2.1 ((((x0.2.2.getD (k1 : Int).toNat (0,(0,(ByteArray.empty,0)))).2).2).1)).bind fun r1 =>
 if (0 : Int) ≤ r1 ∧ (r1 : Int) < x0.2.1.length then
  I5 k1 0 x0 (x0.2.2.getD (k1 : Int).toNat (0,(0,(ByteArray.empty,0)))) (x0.2.1.getD (r1 : Int).toNat (ByteArray.empty,(0,(0,(0,(0,(0,(0,(0,0))))))))) []
 else
  none
def QV.topraw (I5 : YAL) (x0 : YF × YG × List YB) (k1 : Int) : Option YAG :=
 if (0 : Int) ≤ k1 ∧ (k1 : Int) < x0.2.2.length then
  agree (
   QV.tr0 I5 x0 k1
  ) (
   QV.tr0 I5 x0 k1
  )
 else
  none
theorem QV.topraw_eq (I5 : YAL) (x0 : YF × YG × List YB) (k1 : Int) : QV.topraw I5 x0 k1 = QV.top I5 x0 k1 := by
 unfold QV.topraw QV.top
 simp only [Vi,QV.tr0]
def QV.con : Con := { ps := [(.val,(.pair (.sl 119 (.pair (.int .i64) (.int .i64))) (.pair (.sl 78 (.pair .str (.pair (.int .i64) (.pair (.int .i64) (.pair (.int .i64) (.pair (.int .i64) (.pair (.int .i64) (.pair (.int .i64) (.pair (.int .i64) (.int .i64)))))))))) (.sl 59 (.pair (.int .i64) (.pair (.int .i64) (.pair .str (.int .i64)))))))),(.val,(.int .i64))],rs := [(.own,(.sl 24 (.sl 2 (.int .i64))))],F := fun x => QV.f x.1 x.2 }
def QV.cs : List (FuncId × Con) := [(78,QW.con),(80,QaE.con),(106,Qax.con)]
def QV.E : Env := envOf tab QV.cs 0 false
def QV.keep (i : Nat) : List Nat := if i = 5 then [1,2,5,6,7,8] else []
def QV.at5 (n : Nat) (x : YH × Int) : Code × (Ex → St → Option (YAG)) := ctx QV.E QV.keep n [.snd,.snd,.snd,.snd,.fst,.snd,.blk] (Vh Tryz.f81) (kEnd QV.E Tryz.f81 QV.con x)
def QV.LN5 (n : Nat) (x : YH × Int) : Nat → St → Option (YAG) := loopN (exec QV.E QV.keep n (Vm (QV.at5 n x).1)) (St.norm 0 (QV.keep 5)) (QV.at5 n x).2
set_option maxRecDepth 100000 in
theorem QV.lem5 (n : Nat) (x : YH × Int) : ∀ (k : Nat) (k1 : Int) (i8 : Int) (x2 : YF × YG × List YB) (c5 : Int × Int × ByteArray × Int) (a6 : ByteArray × Int × Int × Int × Int × Int × Int × Int × Int) (p : List YQ),QV.LN5 n x k (QV.st5 k1 i8 x2 c5 a6 p) = QV.l5 n k k1 i8 x2 c5 a6 p := by
 intro k
 induction k with
 | zero => intro k1 i8 x2 c5 a6 p; rfl
 | succ k ih =>
  intro k1 i8 x2 c5 a6 p
  have h : QV.LN5 n x (k + 1) (QV.st5 k1 i8 x2 c5 a6 p) = QV.g5 (fun k1 i8 x2 c5 a6 p => QV.LN5 n x k (QV.st5 k1 i8 x2 c5 a6 p)) k1 i8 x2 c5 a6 p := by kernel_rfl
  rw [h]
  simp only [ih]
  rfl
set_option maxRecDepth 100000 in
theorem QV.body (n : Nat) (x : YH × Int) : bodyF QV.E QV.keep n Tryz.f81 QV.con x = QV.fn n x.1 x.2 := by
 have h : bodyF QV.E QV.keep n Tryz.f81 QV.con x = QV.topraw (fun k1 i8 x2 c5 a6 p => QV.LN5 n x n (QV.st5 k1 i8 x2 c5 a6 p)) x.1 x.2 := by kernel_rfl
 rw [QV.topraw_eq] at h
 rw [h]
 simp only [QV.lem5]
 rfl
set_option maxRecDepth 100000 in
theorem QV.good : Good Tryz.prog 81 QV.con :=
 Vg tabok (cs := QV.cs) ⟨QW.good,QaE.good,Qax.good,trivial⟩ 0 false (fn := Tryz.f81) Tryz.func81 rfl (by decide) (by simp [QV.con]) QV.keep NN (fun _ => rfl) (fun x => QV.body NN x)
end
end Go.Ev.Tryz

namespace Go.Ev.Tryz
open Go.Proofs Go.Pl
set_option linter.unusedVariables false
noncomputable section
def Qaf.st3 (k4 : Int) (x1 : YF × YG × List YB) (p : List YQ) : St := ⟨[.gone,.ptr 0 [],.gone,.ref 1,.dat (.int .i64) k4,.gone,.gone,.gone,.gone,.gone,.gone,.gone,.gone,.gone,.gone,.gone,.gone,.gone,.gone],[.box 36 (.pair (.sl 119 (.pair (.int .i64) (.int .i64))) (.pair (.sl 78 (.pair .str (.pair (.int .i64) (.pair (.int .i64) (.pair (.int .i64) (.pair (.int .i64) (.pair (.int .i64) (.pair (.int .i64) (.pair (.int .i64) (.int .i64)))))))))) (.sl 59 (.pair (.int .i64) (.pair (.int .i64) (.pair .str (.int .i64))))))) (.dat (.pair (.sl 119 (.pair (.int .i64) (.int .i64))) (.pair (.sl 78 (.pair .str (.pair (.int .i64) (.pair (.int .i64) (.pair (.int .i64) (.pair (.int .i64) (.pair (.int .i64) (.pair (.int .i64) (.pair (.int .i64) (.int .i64)))))))))) (.sl 59 (.pair (.int .i64) (.pair (.int .i64) (.pair .str (.int .i64))))))) x1),.row 24 (.sl 2 (.int .i64)) p none]⟩
def Qaf.con : Con := { ps := [(.val,(.pair (.sl 119 (.pair (.int .i64) (.int .i64))) (.pair (.sl 78 (.pair .str (.pair (.int .i64) (.pair (.int .i64) (.pair (.int .i64) (.pair (.int .i64) (.pair (.int .i64) (.pair (.int .i64) (.pair (.int .i64) (.int .i64)))))))))) (.sl 59 (.pair (.int .i64) (.pair (.int .i64) (.pair .str (.int .i64))))))))],rs := [(.own,(.sl 24 (.sl 2 (.int .i64))))],F := fun x => Qaf.f x }
def Qaf.cs : List (FuncId × Con) := [(81,QV.con)]
def Qaf.E : Env := envOf tab Qaf.cs 0 false
def Qaf.keep (i : Nat) : List Nat := if i = 3 then [1,3,4] else []
def Qaf.at3 (n : Nat) (x : YF × YG × List YB) : Code × (Ex → St → Option (YAG)) := ctx Qaf.E Qaf.keep n [.snd,.snd,.fst,.snd,.blk] (Vh Tryz.f35) (kEnd Qaf.E Tryz.f35 Qaf.con x)
def Qaf.LN3 (n : Nat) (x : YF × YG × List YB) : Nat → St → Option (YAG) := loopN (exec Qaf.E Qaf.keep n (Vm (Qaf.at3 n x).1)) (St.norm 0 (Qaf.keep 3)) (Qaf.at3 n x).2
set_option maxRecDepth 100000 in
theorem Qaf.lem3 (n : Nat) (x : YF × YG × List YB) : ∀ (k : Nat) (k4 : Int) (x1 : YF × YG × List YB) (p : List YQ),Qaf.LN3 n x k (Qaf.st3 k4 x1 p) = Qaf.l3 n k k4 x1 p := by
 intro k
 induction k with
 | zero => intro k4 x1 p; rfl
 | succ k ih =>
  intro k4 x1 p
  have h : Qaf.LN3 n x (k + 1) (Qaf.st3 k4 x1 p) = Qaf.g3 (fun k4 x1 p => Qaf.LN3 n x k (Qaf.st3 k4 x1 p)) k4 x1 p := by kernel_rfl
  rw [h]
  simp only [ih]
  rfl
set_option maxRecDepth 100000 in
theorem Qaf.body (n : Nat) (x : YF × YG × List YB) : bodyF Qaf.E Qaf.keep n Tryz.f35 Qaf.con x = Qaf.fn n x := by
 have h : bodyF Qaf.E Qaf.keep n Tryz.f35 Qaf.con x = Qaf.top (fun k4 x1 p => Qaf.LN3 n x n (Qaf.st3 k4 x1 p)) x := by kernel_rfl
 rw [h]
 simp only [Qaf.lem3]
 rfl
set_option maxRecDepth 100000 in
theorem Qaf.good : Good Tryz.prog 35 Qaf.con :=
 Vg tabok (cs := Qaf.cs) ⟨QV.good,trivial⟩ 0 false (fn := Tryz.f35) Tryz.func35 rfl (by decide) (by simp [Qaf.con]) Qaf.keep NN (fun _ => rfl) (fun x => Qaf.body NN x)
end
end Go.Ev.Tryz

namespace Go.Ev.Tryz
open Go.Proofs Go.Pl
set_option linter.unusedVariables false
noncomputable section
def Qay.con : Con := { ps := [(.val,(.pair (.sl 119 (.pair (.int .i64) (.int .i64))) (.pair (.sl 78 (.pair .str (.pair (.int .i64) (.pair (.int .i64) (.pair (.int .i64) (.pair (.int .i64) (.pair (.int .i64) (.pair (.int .i64) (.pair (.int .i64) (.int .i64)))))))))) (.sl 59 (.pair (.int .i64) (.pair (.int .i64) (.pair .str (.int .i64))))))))],rs := [(.own,(.sl 24 (.sl 2 (.int .i64)))),(.own,(.int .i64))],F := fun x => Qay.f x }
def Qay.cs : List (FuncId × Con) := [(34,Q4.con),(35,Qaf.con)]
def Qay.E : Env := envOf tab Qay.cs 0 false
def Qay.keep (i : Nat) : List Nat := []
set_option maxRecDepth 100000 in
theorem Qay.body (n : Nat) (x : YF × YG × List YB) : bodyF Qay.E Qay.keep n Tryz.f10 Qay.con x = Qay.fn n x := by
 have h : bodyF Qay.E Qay.keep n Tryz.f10 Qay.con x = Qay.top x := by kernel_rfl
 exact h
set_option maxRecDepth 100000 in
theorem Qay.good : Good Tryz.prog 10 Qay.con :=
 Vg tabok (cs := Qay.cs) ⟨Q4.good,Qaf.good,trivial⟩ 0 false (fn := Tryz.f10) Tryz.func10 rfl (by decide) (by simp [Qay.con]) Qay.keep NN (fun _ => rfl) (fun x => Qay.body NN x)
end
end Go.Ev.Tryz

namespace Go.Ev.Tryz
open Go.Proofs Go.Pl
set_option linter.unusedVariables false
noncomputable section
def Q0.st3 (q : List YD) (p : ByteArray) (n2 : Int) (r : Int) (i8 : Int) : St := ⟨[.dat (.sl 61 (.pair (.int .i64) (.pair .str (.int .i64)))) q,.dat .str p,.dat (.int .i64) n2,.gone,.gone,.gone,.gone,.dat (.int .i64) r,.dat (.int .i64) i8,.gone,.gone,.gone,.gone,.gone,.gone,.gone,.gone,.gone,.gone,.gone,.gone,.gone,.gone,.gone,.gone,.gone,.gone,.gone,.gone,.gone,.gone,.gone,.gone,.gone,.gone,.gone,.gone,.gone,.gone,.gone,.gone,.gone,.gone,.gone],[]⟩
def Q0.con : Con := { ps := [(.val,(.sl 61 (.pair (.int .i64) (.pair .str (.int .i64))))),(.val,.str),(.val,(.int .i64))],rs := [(.val,(.int .i64))],F := fun x => Q0.f x.1 x.2.1 x.2.2 }
def Q0.cs : List (FuncId × Con) := []
def Q0.E : Env := envOf tab Q0.cs 0 false
def Q0.keep (i : Nat) : List Nat := if i = 3 then [0,1,2,7,8] else []
def Q0.at3 (n : Nat) (x : YL × ByteArray × Int) : Code × (Ex → St → Option (Int)) := ctx Q0.E Q0.keep n [.snd,.snd,.fst,.snd,.blk] (Vh Tryz.f86) (kEnd Q0.E Tryz.f86 Q0.con x)
def Q0.LN3 (n : Nat) (x : YL × ByteArray × Int) : Nat → St → Option (Int) := loopN (exec Q0.E Q0.keep n (Vm (Q0.at3 n x).1)) (St.norm 0 (Q0.keep 3)) (Q0.at3 n x).2
set_option maxRecDepth 100000 in
theorem Q0.lem3 (n : Nat) (x : YL × ByteArray × Int) : ∀ (k : Nat) (q : List YD) (p : ByteArray) (n2 : Int) (r : Int) (i8 : Int),Q0.LN3 n x k (Q0.st3 q p n2 r i8) = Q0.l3 n k q p n2 r i8 := by
 intro k
 induction k with
 | zero => intro q p n2 r i8; rfl
 | succ k ih =>
  intro q p n2 r i8
  have h : Q0.LN3 n x (k + 1) (Q0.st3 q p n2 r i8) = Q0.g3 (fun q p n2 r i8 => Q0.LN3 n x k (Q0.st3 q p n2 r i8)) q p n2 r i8 := by kernel_rfl
  rw [h]
  simp only [ih]
  rfl
set_option maxRecDepth 100000 in
theorem Q0.body (n : Nat) (x : YL × ByteArray × Int) : bodyF Q0.E Q0.keep n Tryz.f86 Q0.con x = Q0.fn n x.1 x.2.1 x.2.2 := by
 have h : bodyF Q0.E Q0.keep n Tryz.f86 Q0.con x = Q0.top (fun q p n2 r i8 => Q0.LN3 n x n (Q0.st3 q p n2 r i8)) x.1 x.2.1 x.2.2 := by kernel_rfl
 rw [h]
 simp only [Q0.lem3]
 rfl
set_option maxRecDepth 100000 in
theorem Q0.good : Good Tryz.prog 86 Q0.con :=
 Vg tabok (cs := Q0.cs) trivial 0 false (fn := Tryz.f86) Tryz.func86 rfl (by decide) (by simp [Q0.con]) Q0.keep NN (fun _ => rfl) (fun x => Q0.body NN x)
end
end Go.Ev.Tryz

namespace Go.Ev.Tryz
open Go.Proofs Go.Pl
set_option linter.unusedVariables false
noncomputable section
def Qm.st2 (p : List YD) (i3 : Int) : St := ⟨[.dat (.sl 61 (.pair (.int .i64) (.pair .str (.int .i64)))) p,.gone,.gone,.dat (.int .i64) i3,.gone,.gone,.gone,.gone,.gone,.gone,.gone,.gone,.gone,.gone,.gone,.gone,.gone,.gone,.gone,.gone,.gone,.gone,.gone,.gone,.gone,.gone,.gone,.gone,.gone,.gone,.gone,.gone,.gone,.gone,.gone,.gone,.gone,.gone,.gone,.gone,.gone,.gone,.gone],[]⟩
def Qm.con : Con := { ps := [(.val,(.sl 61 (.pair (.int .i64) (.pair .str (.int .i64)))))],rs := [(.val,.bool)],F := fun x => Qm.f x }
def Qm.cs : List (FuncId × Con) := [(79,Qae.con),(85,QU.con),(86,Q0.con)]
def Qm.E : Env := envOf tab Qm.cs 0 false
def Qm.keep (i : Nat) : List Nat := if i = 2 then [0,3] else []
def Qm.at2 (n : Nat) (x : List YD) : Code × (Ex → St → Option (Bool)) := ctx Qm.E Qm.keep n [.snd,.fst,.snd,.blk] (Vh Tryz.f40) (kEnd Qm.E Tryz.f40 Qm.con x)
def Qm.LN2 (n : Nat) (x : List YD) : Nat → St → Option (Bool) := loopN (exec Qm.E Qm.keep n (Vm (Qm.at2 n x).1)) (St.norm 0 (Qm.keep 2)) (Qm.at2 n x).2
set_option maxRecDepth 100000 in
theorem Qm.lem2 (n : Nat) (x : List YD) : ∀ (k : Nat) (p : List YD) (i3 : Int),Qm.LN2 n x k (Qm.st2 p i3) = Qm.l2 n k p i3 := by
 intro k
 induction k with
 | zero => intro p i3; rfl
 | succ k ih =>
  intro p i3
  have h : Qm.LN2 n x (k + 1) (Qm.st2 p i3) = Qm.g2 (fun p i3 => Qm.LN2 n x k (Qm.st2 p i3)) p i3 := by kernel_rfl
  rw [h]
  simp only [ih]
  rfl
set_option maxRecDepth 100000 in
theorem Qm.body (n : Nat) (x : List YD) : bodyF Qm.E Qm.keep n Tryz.f40 Qm.con x = Qm.fn n x := by
 have h : bodyF Qm.E Qm.keep n Tryz.f40 Qm.con x = Qm.top (fun p i3 => Qm.LN2 n x n (Qm.st2 p i3)) x := by kernel_rfl
 rw [h]
 simp only [Qm.lem2]
 rfl
set_option maxRecDepth 100000 in
theorem Qm.good : Good Tryz.prog 40 Qm.con :=
 Vg tabok (cs := Qm.cs) ⟨Qae.good,QU.good,Q0.good,trivial⟩ 0 false (fn := Tryz.f40) Tryz.func40 rfl (by decide) (by simp [Qm.con]) Qm.keep NN (fun _ => rfl) (fun x => Qm.body NN x)
end
end Go.Ev.Tryz

namespace Go.Ev.Tryz
open Go.Proofs Go.Pl
set_option linter.unusedVariables false
noncomputable section
def QB.tr0 (p : List YD) (b1 : Int × ByteArray × Int) : Option YAD :=
 if ([] : List YD).length + p.length < room 32 then
  if (([] : List YD) ++ p).length + ([b1]).length < room 32 then
   (Qm.f ((([] : List YD) ++ p) ++ ([b1]))).bind fun r2 =>
   if (!r2) = true then
    some ([],5)
   else
    some ((([] : List YD) ++ p) ++ ([b1]),0)
  else
   none
 else
  none
def QB.tr1 (p : List YD) (b1 : Int × ByteArray × Int) : Option YAD :=
 agree (
  QB.tr0 p b1
 ) (
  QB.tr0 p b1
 )
def QB.topraw (p : List YD) (b1 : Int × ByteArray × Int) : Option YAD :=
 (Qm.f p).bind fun r1 =>
 if (!r1) = true then
  some ([],1)
 else if (((p.length : Int) : Int) == 60) = true then
  some ([],3)
 else
  agree (
   agree (
    QB.tr0 p b1
   ) (
    QB.tr1 p b1
   )
  ) (
   agree (
    QB.tr1 p b1
   ) (
    QB.tr0 p b1
   )
  )
theorem QB.topraw_eq (p : List YD) (b1 : Int × ByteArray × Int) : QB.topraw p b1 = QB.top p b1 := by
 unfold QB.topraw QB.top
 simp only [Vi,QB.tr0,QB.tr1]
def QB.con : Con := { ps := [(.val,(.sl 61 (.pair (.int .i64) (.pair .str (.int .i64))))),(.val,(.pair (.int .i64) (.pair .str (.int .i64))))],rs := [(.own,(.sl 61 (.pair (.int .i64) (.pair .str (.int .i64))))),(.own,(.int .i64))],F := fun x => QB.f x.1 x.2 }
def QB.cs : List (FuncId × Con) := [(40,Qm.con)]
def QB.E : Env := envOf tab QB.cs 0 false
def QB.keep (i : Nat) : List Nat := []
set_option maxRecDepth 100000 in
theorem QB.body (n : Nat) (x : YL × Int × ByteArray × Int) : bodyF QB.E QB.keep n Tryz.f107 QB.con x = QB.fn n x.1 x.2 := by
 have h : bodyF QB.E QB.keep n Tryz.f107 QB.con x = QB.topraw x.1 x.2 := by kernel_rfl
 rw [QB.topraw_eq] at h
 exact h
set_option maxRecDepth 100000 in
theorem QB.good : Good Tryz.prog 107 QB.con :=
 Vg tabok (cs := QB.cs) ⟨Qm.good,trivial⟩ 0 false (fn := Tryz.f107) Tryz.func107 rfl (by decide) (by simp [QB.con]) QB.keep NN (fun _ => rfl) (fun x => QB.body NN x)
end
end Go.Ev.Tryz

namespace Go.Ev.Tryz
open Go.Proofs Go.Pl
set_option linter.unusedVariables false
noncomputable section
def Qv.st4 (n5 : Int) (s0 : List Int × Int × Int) (q : List YD) (p : List ByteArray) : St := ⟨[.ptr 0 [],.gone,.gone,.ref 1,.ref 2,.dat (.int .i64) n5,.gone,.gone,.gone,.gone,.gone,.gone,.gone,.gone,.gone,.gone,.gone,.gone,.gone,.gone,.gone,.gone,.gone,.gone,.gone,.gone,.gone,.gone,.gone,.gone,.gone,.gone,.gone,.gone,.gone,.gone,.gone,.gone,.gone,.gone,.gone,.gone,.gone,.gone,.gone,.gone,.gone,.gone,.gone,.gone,.gone,.gone,.gone,.gone,.gone,.gone,.gone,.gone,.gone,.gone,.gone,.gone,.gone],[.box 98 (.pair (.sl 5 (.int .u8)) (.pair (.int .i64) (.int .i64))) (.dat (.pair (.sl 5 (.int .u8)) (.pair (.int .i64) (.int .i64))) s0),.row 61 (.pair (.int .i64) (.pair .str (.int .i64))) q none,.row 9 .str p none]⟩
def Qv.tr0 (L4 : YAI) (n5 : Int) (q : List YD) (p : List ByteArray) (r3 : YU) (r4 : YU) : Option YT :=
 (Qd.f r4.2 12).bind fun r5 =>
 (Q0.f q (p.getD (r4.1 : Int).toNat ByteArray.empty) (q.length : Int)).bind fun r6 =>
 if (decide ((0 : Int) < r3.1)) = true then
  if (decide ((0 : Int) < r6)) = true then
   (Qd.f r5.2 2).bind fun r7 =>
   if ((r7.1 : Int) == 0) = true then
    if ((r6 : Int) == 0) = true then
     (QB.f q (0,(p.getD (r4.1 : Int).toNat ByteArray.empty,(if r6 < 1000 then r6 else 1000)))).bind fun r8 =>
     if ((r8.2 : Int) == 0) = true then
      L4 (IntKind.i64.wrap (n5 - 1)) r7.2 r8.1 p
     else
      L4 (IntKind.i64.wrap (n5 - 1)) r7.2 q p
    else
     (QB.f q (r3.1,(p.getD (r4.1 : Int).toNat ByteArray.empty,(if r6 < 1000 then r6 else 1000)))).bind fun r9 =>
     if ((r9.2 : Int) == 0) = true then
      L4 (IntKind.i64.wrap (n5 - 1)) r7.2 r9.1 p
     else
      L4 (IntKind.i64.wrap (n5 - 1)) r7.2 q p
   else if ((r6 : Int) == 0) = true then
    (QB.f q (0,(p.getD (r4.1 : Int).toNat ByteArray.empty,IntKind.i64.wrap (1 + r5.1)))).bind fun r10 =>
    if ((r10.2 : Int) == 0) = true then
     L4 (IntKind.i64.wrap (n5 - 1)) r7.2 r10.1 p
    else
     L4 (IntKind.i64.wrap (n5 - 1)) r7.2 q p
   else
    (QB.f q (r3.1,(p.getD (r4.1 : Int).toNat ByteArray.empty,IntKind.i64.wrap (1 + r5.1)))).bind fun r11 =>
    if ((r11.2 : Int) == 0) = true then
     L4 (IntKind.i64.wrap (n5 - 1)) r7.2 r11.1 p
    else
     L4 (IntKind.i64.wrap (n5 - 1)) r7.2 q p
  else if ((r6 : Int) == 0) = true then
   (QB.f q (0,(p.getD (r4.1 : Int).toNat ByteArray.empty,IntKind.i64.wrap (1 + r5.1)))).bind fun r12 =>
   if ((r12.2 : Int) == 0) = true then
    L4 (IntKind.i64.wrap (n5 - 1)) r5.2 r12.1 p
   else
    L4 (IntKind.i64.wrap (n5 - 1)) r5.2 q p
  else
   (QB.f q (r3.1,(p.getD (r4.1 : Int).toNat ByteArray.empty,IntKind.i64.wrap (1 + r5.1)))).bind fun r13 =>
   if ((r13.2 : Int) == 0) = true then
    L4 (IntKind.i64.wrap (n5 - 1)) r5.2 r13.1 p
   else
    L4 (IntKind.i64.wrap (n5 - 1)) r5.2 q p
 else if ((r6 : Int) == 0) = true then
  (QB.f q (0,(p.getD (r4.1 : Int).toNat ByteArray.empty,IntKind.i64.wrap (1 + r5.1)))).bind fun r14 =>
  if ((r14.2 : Int) == 0) = true then
   L4 (IntKind.i64.wrap (n5 - 1)) r5.2 r14.1 p
  else
   L4 (IntKind.i64.wrap (n5 - 1)) r5.2 q p
 else
  (QB.f q (r3.1,(p.getD (r4.1 : Int).toNat ByteArray.empty,IntKind.i64.wrap (1 + r5.1)))).bind fun r15 =>
  if ((r15.2 : Int) == 0) = true then
   L4 (IntKind.i64.wrap (n5 - 1)) r5.2 r15.1 p
  else
   L4 (IntKind.i64.wrap (n5 - 1)) r5.2 q p
def Qv.tr1 (L4 : YAI) (n5 : Int) (q : List YD) (p : List ByteArray) (r3 : YU) (r4 : YU) : Option YT :=
 agree (
  Qv.tr0 L4 n5 q p r3 r4
 ) (
  Qv.tr0 L4 n5 q p r3 r4
 )
def Qv.tr2 (L4 : YAI) (n5 : Int) (q : List YD) (p : List ByteArray) (r3 : YU) : Option YT :=
 (Qd.f r3.2 4).bind fun r4 =>
 if (0 : Int) ≤ r4.1 ∧ (r4.1 : Int) < p.length then
  Qv.tr1 L4 n5 q p r3 r4
 else
  none
def Qv.g4raw (L4 : YAI) (n5 : Int) (s0 : List Int × Int × Int) (q : List YD) (p : List ByteArray) : Option YT :=
 if (decide ((0 : Int) < n5)) = true then
  agree (
   (Qd.f s0 4).bind fun r3 =>
   agree (
    (Qd.f r3.2 4).bind fun r4 =>
    if (0 : Int) ≤ r4.1 ∧ (r4.1 : Int) < p.length then
     agree (
      Qv.tr1 L4 n5 q p r3 r4
     ) (
      agree (
       Qv.tr0 L4 n5 q p r3 r4
      ) (
       Qv.tr1 L4 n5 q p r3 r4
      )
     )
    else
     none
   ) (
    Qv.tr2 L4 n5 q p r3
   )
  ) (
   (Qd.f s0 4).bind fun r3 =>
   Qv.tr2 L4 n5 q p r3
  )
 else
  some (q,s0)
theorem Qv.g4raw_eq (L4 : YAI) (n5 : Int) (s0 : List Int × Int × Int) (q : List YD) (p : List ByteArray) : Qv.g4raw L4 n5 s0 q p = Qv.g4 L4 n5 s0 q p := by
 unfold Qv.g4raw Qv.g4
 simp only [Vi,Qv.tr0,Qv.tr1,Qv.tr2]
def Qv.con : Con := { ps := [(.bx 98,(.pair (.sl 5 (.int .u8)) (.pair (.int .i64) (.int .i64))))],rs := [(.own,(.sl 61 (.pair (.int .i64) (.pair .str (.int .i64)))))],F := fun x => Qv.f x }
def Qv.cs : List (FuncId × Con) := [(25,Qd.con),(86,Q0.con),(97,Qar.con),(107,QB.con)]
def Qv.E : Env := envOf tab Qv.cs 1 false
def Qv.keep (i : Nat) : List Nat := if i = 4 then [0,3,4,5] else []
def Qv.at4 (n : Nat) (x : List Int × Int × Int) : Code × (Ex → St → Option (YT)) := ctx Qv.E Qv.keep n [.snd,.snd,.snd,.fst,.snd,.blk] (Vh Tryz.f82) (kEnd Qv.E Tryz.f82 Qv.con x)
def Qv.LN4 (n : Nat) (x : List Int × Int × Int) : Nat → St → Option (YT) := loopN (exec Qv.E Qv.keep n (Vm (Qv.at4 n x).1)) (St.norm 1 (Qv.keep 4)) (Qv.at4 n x).2
set_option maxRecDepth 100000 in
theorem Qv.lem4 (n : Nat) (x : List Int × Int × Int) : ∀ (k : Nat) (n5 : Int) (s0 : List Int × Int × Int) (q : List YD) (p : List ByteArray),Qv.LN4 n x k (Qv.st4 n5 s0 q p) = Qv.l4 n k n5 s0 q p := by
 intro k
 induction k with
 | zero => intro n5 s0 q p; rfl
 | succ k ih =>
  intro n5 s0 q p
  have h : Qv.LN4 n x (k + 1) (Qv.st4 n5 s0 q p) = Qv.g4raw (fun n5 s0 q p => Qv.LN4 n x k (Qv.st4 n5 s0 q p)) n5 s0 q p := by kernel_rfl
  rw [Qv.g4raw_eq] at h
  rw [h]
  simp only [ih]
  rfl
set_option maxRecDepth 100000 in
theorem Qv.body (n : Nat) (x : List Int × Int × Int) : bodyF Qv.E Qv.keep n Tryz.f82 Qv.con x = Qv.fn n x := by
 have h : bodyF Qv.E Qv.keep n Tryz.f82 Qv.con x = Qv.top (fun n5 s0 q p => Qv.LN4 n x n (Qv.st4 n5 s0 q p)) x := by kernel_rfl
 rw [h]
 simp only [Qv.lem4]
 rfl
set_option maxRecDepth 100000 in
theorem Qv.good : Good Tryz.prog 82 Qv.con :=
 Vg tabok (cs := Qv.cs) ⟨Qd.good,Q0.good,Qar.good,QB.good,trivial⟩ 1 false (fn := Tryz.f82) Tryz.func82 rfl (by decide) (by simp [Qv.con]) Qv.keep NN (fun _ => rfl) (fun x => Qv.body NN x)
end
end Go.Ev.Tryz

namespace Go.Ev.Tryz
open Go.Proofs Go.Pl
set_option linter.unusedVariables false
noncomputable section
def QF.st6 (s0 : List Int × Int × Int) (p : List YD) : St := ⟨[.ptr 0 [],.gone,.gone,.ref 1,.gone,.gone,.gone,.gone,.gone,.gone,.gone,.gone,.gone,.gone,.gone,.gone,.gone,.gone,.gone,.gone,.gone,.gone,.gone,.gone,.gone,.gone,.gone,.gone,.gone,.gone,.gone,.gone,.gone,.gone,.gone,.gone,.gone,.gone,.gone,.gone,.gone,.gone],[.box 98 (.pair (.sl 5 (.int .u8)) (.pair (.int .i64) (.int .i64))) (.dat (.pair (.sl 5 (.int .u8)) (.pair (.int .i64) (.int .i64))) s0),.row 61 (.pair (.int .i64) (.pair .str (.int .i64))) p none]⟩
def QF.con : Con := { ps := [(.bx 98,(.pair (.sl 5 (.int .u8)) (.pair (.int .i64) (.int .i64))))],rs := [(.own,(.sl 61 (.pair (.int .i64) (.pair .str (.int .i64)))))],F := fun x => QF.f x }
def QF.cs : List (FuncId × Con) := [(25,Qd.con),(26,Qad.con),(56,QM.con),(82,Qv.con)]
def QF.E : Env := envOf tab QF.cs 1 false
def QF.keep (i : Nat) : List Nat := if i = 6 then [0,3] else []
def QF.at6 (n : Nat) (x : List Int × Int × Int) : Code × (Ex → St → Option (YT)) := ctx QF.E QF.keep n [.snd,.snd,.fst,.snd,.blk,.snd,.no,.snd,.yes,.blk] (Vh Tryz.f36) (kEnd QF.E Tryz.f36 QF.con x)
def QF.LN6 (n : Nat) (x : List Int × Int × Int) : Nat → St → Option (YT) := loopN (exec QF.E QF.keep n (Vm (QF.at6 n x).1)) (St.norm 1 (QF.keep 6)) (QF.at6 n x).2
set_option maxRecDepth 100000 in
theorem QF.lem6 (n : Nat) (x : List Int × Int × Int) : ∀ (k : Nat) (s0 : List Int × Int × Int) (p : List YD),QF.LN6 n x k (QF.st6 s0 p) = QF.l6 n k s0 p := by
 intro k
 induction k with
 | zero => intro s0 p; rfl
 | succ k ih =>
  intro s0 p
  have h : QF.LN6 n x (k + 1) (QF.st6 s0 p) = QF.g6 (fun s0 p => QF.LN6 n x k (QF.st6 s0 p)) s0 p := by kernel_rfl
  rw [h]
  simp only [ih]
  rfl
set_option maxRecDepth 100000 in
theorem QF.body (n : Nat) (x : List Int × Int × Int) : bodyF QF.E QF.keep n Tryz.f36 QF.con x = QF.fn n x := by
 have h : bodyF QF.E QF.keep n Tryz.f36 QF.con x = QF.top (fun s0 p => QF.LN6 n x n (QF.st6 s0 p)) x := by kernel_rfl
 rw [h]
 simp only [QF.lem6]
 rfl
set_option maxRecDepth 100000 in
theorem QF.good : Good Tryz.prog 36 QF.con :=
 Vg tabok (cs := QF.cs) ⟨Qd.good,Qad.good,QM.good,Qv.good,trivial⟩ 1 false (fn := Tryz.f36) Tryz.func36 rfl (by decide) (by simp [QF.con]) QF.keep NN (fun _ => rfl) (fun x => QF.body NN x)
end
end Go.Ev.Tryz

namespace Go.Ev.Tryz
open Go.Proofs Go.Pl
set_option linter.unusedVariables false
noncomputable section
def Qf.st13 (i10 : Int) (s5 : List Int × Int × Int) (x6 : YF × YG × List YB) (p : List YD) (q : List Int) (w5 : List YC) (w6 : List YA) (w7 : List YB) : St := ⟨[.gone,.gone,.gone,.ptr 0 [],.gone,.ptr 1 [],.ptr 2 [],.ref 3,.gone,.ref 4,.dat (.int .i64) i10,.gone,.gone,.gone,.gone,.gone,.gone,.gone,.gone,.gone,.gone,.gone,.gone,.gone,.gone,.gone,.gone,.gone,.gone,.gone,.gone,.gone,.gone,.gone,.gone,.gone,.gone,.gone,.gone,.gone,.gone,.gone,.gone,.gone,.gone,.gone,.gone,.gone,.gone,.gone,.gone,.gone,.gone,.gone,.gone,.gone,.gone,.gone,.gone,.gone,.gone,.gone,.gone,.gone,.gone,.gone,.gone,.gone,.gone,.gone],[.box 36 (.pair (.sl 119 (.pair (.int .i64) (.int .i64))) (.pair (.sl 78 (.pair .str (.pair (.int .i64) (.pair (.int .i64) (.pair (.int .i64) (.pair (.int .i64) (.pair (.int .i64) (.pair (.int .i64) (.pair (.int .i64) (.int .i64)))))))))) (.sl 59 (.pair (.int .i64) (.pair (.int .i64) (.pair .str (.int .i64))))))) (.pr (.ref 5) (.pr (.ref 6) (.ref 7))),.box 98 (.pair (.sl 5 (.int .u8)) (.pair (.int .i64) (.int .i64))) (.dat (.pair (.sl 5 (.int .u8)) (.pair (.int .i64) (.int .i64))) s5),.box 36 (.pair (.sl 119 (.pair (.int .i64) (.int .i64))) (.pair (.sl 78 (.pair .str (.pair (.int .i64) (.pair (.int .i64) (.pair (.int .i64) (.pair (.int .i64) (.pair (.int .i64) (.pair (.int .i64) (.pair (.int .i64) (.int .i64)))))))))) (.sl 59 (.pair (.int .i64) (.pair (.int .i64) (.pair .str (.int .i64))))))) (.dat (.pair (.sl 119 (.pair (.int .i64) (.int .i64))) (.pair (.sl 78 (.pair .str (.pair (.int .i64) (.pair (.int .i64) (.pair (.int .i64) (.pair (.int .i64) (.pair (.int .i64) (.pair (.int .i64) (.pair (.int .i64) (.int .i64)))))))))) (.sl 59 (.pair (.int .i64) (.pair (.int .i64) (.pair .str (.int .i64))))))) x6),.row 61 (.pair (.int .i64) (.pair .str (.int .i64))) p none,.row 2 (.int .i64) q none,.row 119 (.pair (.int .i64) (.int .i64)) w5 none,.row 78 (.pair .str (.pair (.int .i64) (.pair (.int .i64) (.pair (.int .i64) (.pair (.int .i64) (.pair (.int .i64) (.pair (.int .i64) (.pair (.int .i64) (.int .i64))))))))) w6 none,.row 59 (.pair (.int .i64) (.pair (.int .i64) (.pair .str (.int .i64)))) w7 none]⟩
def Qf.st5 (i8 : Int) (s5 : List Int × Int × Int) (x6 : YF × YG × List YB) (p : List YD) (w4 : List YC) (w5 : List YA) (w6 : List YB) : St := ⟨[.gone,.gone,.gone,.ptr 0 [],.gone,.ptr 1 [],.ptr 2 [],.ref 3,.dat (.int .i64) i8,.gone,.gone,.gone,.gone,.gone,.gone,.gone,.gone,.gone,.gone,.gone,.gone,.gone,.gone,.gone,.gone,.gone,.gone,.gone,.gone,.gone,.gone,.gone,.gone,.gone,.gone,.gone,.gone,.gone,.gone,.gone,.gone,.gone,.gone,.gone,.gone,.gone,.gone,.gone,.gone,.gone,.gone,.gone,.gone,.gone,.gone,.gone,.gone,.gone,.gone,.gone,.gone,.gone,.gone,.gone,.gone,.gone,.gone,.gone,.gone,.gone],[.box 36 (.pair (.sl 119 (.pair (.int .i64) (.int .i64))) (.pair (.sl 78 (.pair .str (.pair (.int .i64) (.pair (.int .i64) (.pair (.int .i64) (.pair (.int .i64) (.pair (.int .i64) (.pair (.int .i64) (.pair (.int .i64) (.int .i64)))))))))) (.sl 59 (.pair (.int .i64) (.pair (.int .i64) (.pair .str (.int .i64))))))) (.pr (.ref 4) (.pr (.ref 5) (.ref 6))),.box 98 (.pair (.sl 5 (.int .u8)) (.pair (.int .i64) (.int .i64))) (.dat (.pair (.sl 5 (.int .u8)) (.pair (.int .i64) (.int .i64))) s5),.box 36 (.pair (.sl 119 (.pair (.int .i64) (.int .i64))) (.pair (.sl 78 (.pair .str (.pair (.int .i64) (.pair (.int .i64) (.pair (.int .i64) (.pair (.int .i64) (.pair (.int .i64) (.pair (.int .i64) (.pair (.int .i64) (.int .i64)))))))))) (.sl 59 (.pair (.int .i64) (.pair (.int .i64) (.pair .str (.int .i64))))))) (.dat (.pair (.sl 119 (.pair (.int .i64) (.int .i64))) (.pair (.sl 78 (.pair .str (.pair (.int .i64) (.pair (.int .i64) (.pair (.int .i64) (.pair (.int .i64) (.pair (.int .i64) (.pair (.int .i64) (.pair (.int .i64) (.int .i64)))))))))) (.sl 59 (.pair (.int .i64) (.pair (.int .i64) (.pair .str (.int .i64))))))) x6),.row 61 (.pair (.int .i64) (.pair .str (.int .i64))) p none,.row 119 (.pair (.int .i64) (.int .i64)) w4 none,.row 78 (.pair .str (.pair (.int .i64) (.pair (.int .i64) (.pair (.int .i64) (.pair (.int .i64) (.pair (.int .i64) (.pair (.int .i64) (.pair (.int .i64) (.int .i64))))))))) w5 none,.row 59 (.pair (.int .i64) (.pair (.int .i64) (.pair .str (.int .i64)))) w6 none]⟩
def Qf.tr0 (L5 : YAH) (i8 : Int) (x6 : YF × YG × List YB) (p : List YD) (w4 : List YC) (w5 : List YA) (w6 : List YB) (r4 : YU) : Option YAC :=
 if p.length + ([(0,((x6.2.1.getD (i8 : Int).toNat (ByteArray.empty,(0,(0,(0,(0,(0,(0,(0,0))))))))).1,IntKind.i64.wrap (1 + r4.1)))]).length < room 32 then
  L5 (IntKind.i64.wrap (i8 + 1)) r4.2 x6 (p ++ ([(0,((x6.2.1.getD (i8 : Int).toNat (ByteArray.empty,(0,(0,(0,(0,(0,(0,(0,0))))))))).1,IntKind.i64.wrap (1 + r4.1)))])) w4 w5 w6
 else
  none
def Qf.tr1 (L5 : YAH) (i8 : Int) (x6 : YF × YG × List YB) (p : List YD) (w4 : List YC) (w5 : List YA) (w6 : List YB) (r3 : YU) : Option YAC :=
 (Qd.f r3.2 8).bind fun r4 =>
 Qf.tr0 L5 i8 x6 p w4 w5 w6 r4
def Qf.g5raw (I13 : YAQ) (L5 : YAH) (i8 : Int) (s5 : List Int × Int × Int) (x6 : YF × YG × List YB) (p : List YD) (w4 : List YC) (w5 : List YA) (w6 : List YB) : Option YAC :=
 if (decide ((i8 : Int) < (x6.2.1.length : Int))) = true then
  (Qd.f s5 6).bind fun r3 =>
  if (decide ((0 : Int) < r3.1)) = true then
   agree (
    if (0 : Int) ≤ i8 ∧ (i8 : Int) < x6.2.1.length then
     agree (
      Qf.tr1 L5 i8 x6 p w4 w5 w6 r3
     ) (
      Qf.tr1 L5 i8 x6 p w4 w5 w6 r3
     )
    else
     none
   ) (
    (Qd.f r3.2 8).bind fun r4 =>
    if (0 : Int) ≤ i8 ∧ (i8 : Int) < x6.2.1.length then
     Qf.tr0 L5 i8 x6 p w4 w5 w6 r4
    else
     none
   )
  else
   L5 (IntKind.i64.wrap (i8 + 1)) r3.2 x6 p w4 w5 w6
 else
  (Qd.f s5 12).bind fun r5 =>
  if ((r5.1 : Int) == 0) = true then
   (QF.f r5.2).bind fun r6 =>
   I13 0 r6.2 x6 r6.1 [] w4 w5 w6
  else
   I13 0 r5.2 x6 p [] w4 w5 w6
theorem Qf.g5raw_eq (I13 : YAQ) (L5 : YAH) (i8 : Int) (s5 : List Int × Int × Int) (x6 : YF × YG × List YB) (p : List YD) (w4 : List YC) (w5 : List YA) (w6 : List YB) : Qf.g5raw I13 L5 i8 s5 x6 p w4 w5 w6 = Qf.g5 I13 L5 i8 s5 x6 p w4 w5 w6 := by
 unfold Qf.g5raw Qf.g5
 simp only [Vi,Qf.tr0,Qf.tr1]
def Qf.con : Con := { ps := [(.val,(.sl 5 (.int .u8)))],rs := [(.val,(.sl 61 (.pair (.int .i64) (.pair .str (.int .i64))))),(.val,(.pair (.sl 119 (.pair (.int .i64) (.int .i64))) (.pair (.sl 78 (.pair .str (.pair (.int .i64) (.pair (.int .i64) (.pair (.int .i64) (.pair (.int .i64) (.pair (.int .i64) (.pair (.int .i64) (.pair (.int .i64) (.int .i64)))))))))) (.sl 59 (.pair (.int .i64) (.pair (.int .i64) (.pair .str (.int .i64)))))))),(.val,(.sl 2 (.int .i64)))],F := fun x => Qf.f x }
def Qf.cs : List (FuncId × Con) := [(21,QS.con),(25,Qd.con),(31,Qq.con),(36,QF.con)]
def Qf.E : Env := envOf tab Qf.cs 0 false
def Qf.keep (i : Nat) : List Nat := if i = 13 then [3,5,6,7,9,10] else if i = 5 then [3,5,6,7,8] else []
def Qf.at13 (n : Nat) (x : List Int) : Code × (Ex → St → Option (YAC)) := ctx Qf.E Qf.keep n [.snd,.snd,.snd,.snd,.snd,.snd,.snd,.fst,.snd,.blk] (Vh Tryz.f11) (kEnd Qf.E Tryz.f11 Qf.con x)
def Qf.LN13 (n : Nat) (x : List Int) : Nat → St → Option (YAC) := loopN (exec Qf.E Qf.keep n (Vm (Qf.at13 n x).1)) (St.norm 0 (Qf.keep 13)) (Qf.at13 n x).2
def Qf.at5 (n : Nat) (x : List Int) : Code × (Ex → St → Option (YAC)) := ctx Qf.E Qf.keep n [.snd,.snd,.snd,.snd,.fst,.snd,.blk] (Vh Tryz.f11) (kEnd Qf.E Tryz.f11 Qf.con x)
def Qf.LN5 (n : Nat) (x : List Int) : Nat → St → Option (YAC) := loopN (exec Qf.E Qf.keep n (Vm (Qf.at5 n x).1)) (St.norm 0 (Qf.keep 5)) (Qf.at5 n x).2
set_option maxRecDepth 100000 in
theorem Qf.lem13 (n : Nat) (x : List Int) : ∀ (k : Nat) (i10 : Int) (s5 : List Int × Int × Int) (x6 : YF × YG × List YB) (p : List YD) (q : List Int) (w5 : List YC) (w6 : List YA) (w7 : List YB),Qf.LN13 n x k (Qf.st13 i10 s5 x6 p q w5 w6 w7) = Qf.l13 n k i10 s5 x6 p q w5 w6 w7 := by
 intro k
 induction k with
 | zero => intro i10 s5 x6 p q w5 w6 w7; rfl
 | succ k ih =>
  intro i10 s5 x6 p q w5 w6 w7
  have h : Qf.LN13 n x (k + 1) (Qf.st13 i10 s5 x6 p q w5 w6 w7) = Qf.g13 (fun i10 s5 x6 p q w5 w6 w7 => Qf.LN13 n x k (Qf.st13 i10 s5 x6 p q w5 w6 w7)) i10 s5 x6 p q w5 w6 w7 := by kernel_rfl
  rw [h]
  simp only [ih]
  rfl
set_option maxRecDepth 100000 in
theorem Qf.lem5 (n : Nat) (x : List Int) : ∀ (k : Nat) (i8 : Int) (s5 : List Int × Int × Int) (x6 : YF × YG × List YB) (p : List YD) (w4 : List YC) (w5 : List YA) (w6 : List YB),Qf.LN5 n x k (Qf.st5 i8 s5 x6 p w4 w5 w6) = Qf.l5 n k i8 s5 x6 p w4 w5 w6 := by
 intro k
 induction k with
 | zero => intro i8 s5 x6 p w4 w5 w6; rfl
 | succ k ih =>
  intro i8 s5 x6 p w4 w5 w6
  have h : Qf.LN5 n x (k + 1) (Qf.st5 i8 s5 x6 p w4 w5 w6) = Qf.g5raw (fun i10 s5 x6 p q w5 w6 w7 => Qf.LN13 n x n (Qf.st13 i10 s5 x6 p q w5 w6 w7)) (fun i8 s5 x6 p w4 w5 w6 => Qf.LN5 n x k (Qf.st5 i8 s5 x6 p w4 w5 w6)) i8 s5 x6 p w4 w5 w6 := by kernel_rfl
  rw [Qf.g5raw_eq] at h
  rw [h]
  simp only [ih,Qf.lem13]
  rfl
set_option maxRecDepth 100000 in
theorem Qf.body (n : Nat) (x : List Int) : bodyF Qf.E Qf.keep n Tryz.f11 Qf.con x = Qf.fn n x := by
 have h : bodyF Qf.E Qf.keep n Tryz.f11 Qf.con x = Qf.top (fun i8 s5 x6 p w4 w5 w6 => Qf.LN5 n x n (Qf.st5 i8 s5 x6 p w4 w5 w6)) x := by kernel_rfl
 rw [h]
 simp only [Qf.lem5]
 rfl
set_option maxRecDepth 100000 in
theorem Qf.good : Good Tryz.prog 11 Qf.con :=
 Vg tabok (cs := Qf.cs) ⟨QS.good,Qd.good,Qq.good,QF.good,trivial⟩ 0 false (fn := Tryz.f11) Tryz.func11 rfl (by decide) (by simp [Qf.con]) Qf.keep NN (fun _ => rfl) (fun x => Qf.body NN x)
end
end Go.Ev.Tryz

namespace Go.Ev.Tryz
open Go.Proofs Go.Pl
set_option linter.unusedVariables false
noncomputable section
def QO.st3 (p : ByteArray) (v9 : List YD) (v10 : Int) (v11 : Int) (q : List Int) : St := ⟨[.gone,.dat .str p,.gone,.gone,.gone,.ref 0,.gone,.gone,.gone,.dat (.sl 61 (.pair (.int .i64) (.pair .str (.int .i64)))) v9,.dat (.int .i64) v10,.dat (.int .i64) v11,.gone,.gone,.gone,.gone,.gone,.gone,.gone,.gone,.gone,.gone,.gone,.gone,.gone,.gone,.gone,.gone,.gone,.gone],[.row 2 (.int .i64) q none]⟩
def QO.con : Con := { ps := [(.val,(.sl 61 (.pair (.int .i64) (.pair .str (.int .i64))))),(.val,.str)],rs := [(.own,(.sl 2 (.int .i64)))],F := fun x => QO.f x.1 x.2 }
def QO.cs : List (FuncId × Con) := []
def QO.E : Env := envOf tab QO.cs 0 false
def QO.keep (i : Nat) : List Nat := if i = 3 then [1,5,9,10,11] else []
def QO.at3 (n : Nat) (x : YL × ByteArray) : Code × (Ex → St → Option (YQ)) := ctx QO.E QO.keep n [.snd,.snd,.fst,.snd,.blk] (Vh Tryz.f108) (kEnd QO.E Tryz.f108 QO.con x)
def QO.LN3 (n : Nat) (x : YL × ByteArray) : Nat → St → Option (YQ) := loopN (exec QO.E QO.keep n (Vm (QO.at3 n x).1)) (St.norm 0 (QO.keep 3)) (QO.at3 n x).2
set_option maxRecDepth 100000 in
theorem QO.lem3 (n : Nat) (x : YL × ByteArray) : ∀ (k : Nat) (p : ByteArray) (v9 : List YD) (v10 : Int) (v11 : Int) (q : List Int),QO.LN3 n x k (QO.st3 p v9 v10 v11 q) = QO.l3 n k p v9 v10 v11 q := by
 intro k
 induction k with
 | zero => intro p v9 v10 v11 q; rfl
 | succ k ih =>
  intro p v9 v10 v11 q
  have h : QO.LN3 n x (k + 1) (QO.st3 p v9 v10 v11 q) = QO.g3 (fun p v9 v10 v11 q => QO.LN3 n x k (QO.st3 p v9 v10 v11 q)) p v9 v10 v11 q := by kernel_rfl
  rw [h]
  simp only [ih]
  rfl
set_option maxRecDepth 100000 in
theorem QO.body (n : Nat) (x : YL × ByteArray) : bodyF QO.E QO.keep n Tryz.f108 QO.con x = QO.fn n x.1 x.2 := by
 have h : bodyF QO.E QO.keep n Tryz.f108 QO.con x = QO.top (fun p v9 v10 v11 q => QO.LN3 n x n (QO.st3 p v9 v10 v11 q)) x.1 x.2 := by kernel_rfl
 rw [h]
 simp only [QO.lem3]
 rfl
set_option maxRecDepth 100000 in
theorem QO.good : Good Tryz.prog 108 QO.con :=
 Vg tabok (cs := QO.cs) trivial 0 false (fn := Tryz.f108) Tryz.func108 rfl (by decide) (by simp [QO.con]) QO.keep NN (fun _ => rfl) (fun x => QO.body NN x)
end
end Go.Ev.Tryz

namespace Go.Ev.Tryz
open Go.Proofs Go.Pl
set_option linter.unusedVariables false
noncomputable section
def Qaq.con : Con := { ps := [(.val,(.sl 61 (.pair (.int .i64) (.pair .str (.int .i64))))),(.val,.str)],rs := [(.val,(.int .i64))],F := fun x => Qaq.f x.1 x.2 }
def Qaq.cs : List (FuncId × Con) := [(108,QO.con)]
def Qaq.E : Env := envOf tab Qaq.cs 0 false
def Qaq.keep (i : Nat) : List Nat := []
set_option maxRecDepth 100000 in
theorem Qaq.body (n : Nat) (x : YL × ByteArray) : bodyF Qaq.E Qaq.keep n Tryz.f84 Qaq.con x = Qaq.fn n x.1 x.2 := by
 have h : bodyF Qaq.E Qaq.keep n Tryz.f84 Qaq.con x = Qaq.top x.1 x.2 := by kernel_rfl
 exact h
set_option maxRecDepth 100000 in
theorem Qaq.good : Good Tryz.prog 84 Qaq.con :=
 Vg tabok (cs := Qaq.cs) ⟨QO.good,trivial⟩ 0 false (fn := Tryz.f84) Tryz.func84 rfl (by decide) (by simp [Qaq.con]) Qaq.keep NN (fun _ => rfl) (fun x => Qaq.body NN x)
end
end Go.Ev.Tryz

namespace Go.Ev.Tryz
open Go.Proofs Go.Pl
set_option linter.unusedVariables false
noncomputable section
def Qu.st4 (p : List YD) (v8 : List YD) (v9 : Int) (v10 : Int) : St := ⟨[.dat (.sl 61 (.pair (.int .i64) (.pair .str (.int .i64)))) p,.gone,.gone,.gone,.gone,.gone,.gone,.gone,.dat (.sl 61 (.pair (.int .i64) (.pair .str (.int .i64)))) v8,.dat (.int .i64) v9,.dat (.int .i64) v10,.gone,.gone,.gone,.gone,.gone,.gone,.gone,.gone,.gone,.gone,.gone,.gone,.gone,.gone,.gone,.gone,.gone,.gone,.gone,.gone,.gone,.gone,.gone,.gone,.gone,.gone,.gone,.gone,.gone,.gone,.gone],[]⟩
def Qu.con : Con := { ps := [(.val,(.sl 61 (.pair (.int .i64) (.pair .str (.int .i64)))))],rs := [(.val,.bool)],F := fun x => Qu.f x }
def Qu.cs : List (FuncId × Con) := [(72,Q2.con),(83,QT.con),(84,Qaq.con)]
def Qu.E : Env := envOf tab Qu.cs 0 false
def Qu.keep (i : Nat) : List Nat := if i = 4 then [0,8,9,10] else []
def Qu.at4 (n : Nat) (x : List YD) : Code × (Ex → St → Option (Bool)) := ctx Qu.E Qu.keep n [.snd,.snd,.fst,.snd,.blk] (Vh Tryz.f37) (kEnd Qu.E Tryz.f37 Qu.con x)
def Qu.LN4 (n : Nat) (x : List YD) : Nat → St → Option (Bool) := loopN (exec Qu.E Qu.keep n (Vm (Qu.at4 n x).1)) (St.norm 0 (Qu.keep 4)) (Qu.at4 n x).2
set_option maxRecDepth 100000 in
theorem Qu.lem4 (n : Nat) (x : List YD) : ∀ (k : Nat) (p : List YD) (v8 : List YD) (v9 : Int) (v10 : Int),Qu.LN4 n x k (Qu.st4 p v8 v9 v10) = Qu.l4 n k p v8 v9 v10 := by
 intro k
 induction k with
 | zero => intro p v8 v9 v10; rfl
 | succ k ih =>
  intro p v8 v9 v10
  have h : Qu.LN4 n x (k + 1) (Qu.st4 p v8 v9 v10) = Qu.g4 (fun p v8 v9 v10 => Qu.LN4 n x k (Qu.st4 p v8 v9 v10)) p v8 v9 v10 := by kernel_rfl
  rw [h]
  simp only [ih]
  rfl
set_option maxRecDepth 100000 in
theorem Qu.body (n : Nat) (x : List YD) : bodyF Qu.E Qu.keep n Tryz.f37 Qu.con x = Qu.fn n x := by
 have h : bodyF Qu.E Qu.keep n Tryz.f37 Qu.con x = Qu.top (fun p v8 v9 v10 => Qu.LN4 n x n (Qu.st4 p v8 v9 v10)) x := by kernel_rfl
 rw [h]
 simp only [Qu.lem4]
 rfl
set_option maxRecDepth 100000 in
theorem Qu.good : Good Tryz.prog 37 Qu.con :=
 Vg tabok (cs := Qu.cs) ⟨Q2.good,QT.good,Qaq.good,trivial⟩ 0 false (fn := Tryz.f37) Tryz.func37 rfl (by decide) (by simp [Qu.con]) Qu.keep NN (fun _ => rfl) (fun x => Qu.body NN x)
end
end Go.Ev.Tryz

namespace Go.Ev.Tryz
open Go.Proofs Go.Pl
set_option linter.unusedVariables false
noncomputable section
def Qj.st13 (v71 : Int) (v72 : Int) (x4 : YF × YG × List YB) (r : List YD) (v70 : List Int) : St := ⟨[.gone,.gone,.gone,.gone,.ptr 0 [],.gone,.gone,.gone,.gone,.gone,.gone,.ref 1,.gone,.gone,.gone,.gone,.gone,.gone,.gone,.gone,.gone,.gone,.gone,.gone,.gone,.gone,.gone,.gone,.gone,.gone,.gone,.gone,.gone,.gone,.gone,.gone,.gone,.gone,.gone,.gone,.gone,.gone,.gone,.gone,.gone,.gone,.gone,.gone,.gone,.gone,.gone,.gone,.gone,.gone,.gone,.gone,.gone,.gone,.gone,.gone,.gone,.gone,.gone,.gone,.gone,.gone,.gone,.gone,.gone,.gone,.ref 2,.dat (.int .i64) v71,.dat (.int .i64) v72,.gone,.gone,.gone,.gone,.gone,.gone,.gone,.gone,.gone,.gone,.gone,.gone,.gone,.gone,.gone,.gone,.gone,.gone,.gone,.gone,.gone,.gone,.gone,.gone,.gone],[.box 36 (.pair (.sl 119 (.pair (.int .i64) (.int .i64))) (.pair (.sl 78 (.pair .str (.pair (.int .i64) (.pair (.int .i64) (.pair (.int .i64) (.pair (.int .i64) (.pair (.int .i64) (.pair (.int .i64) (.pair (.int .i64) (.int .i64)))))))))) (.sl 59 (.pair (.int .i64) (.pair (.int .i64) (.pair .str (.int .i64))))))) (.dat (.pair (.sl 119 (.pair (.int .i64) (.int .i64))) (.pair (.sl 78 (.pair .str (.pair (.int .i64) (.pair (.int .i64) (.pair (.int .i64) (.pair (.int .i64) (.pair (.int .i64) (.pair (.int .i64) (.pair (.int .i64) (.int .i64)))))))))) (.sl 59 (.pair (.int .i64) (.pair (.int .i64) (.pair .str (.int .i64))))))) x4),.row 61 (.pair (.int .i64) (.pair .str (.int .i64))) r none,.row 2 (.int .i64) v70 none]⟩
def Qj.st5 (s : List YD) (q : List Int) (v26 : List Int) (v27 : Int) (v28 : Int) (x4 : YF × YG × List YB) (p : List Int) : St := ⟨[.dat (.sl 61 (.pair (.int .i64) (.pair .str (.int .i64)))) s,.gone,.dat (.sl 2 (.int .i64)) q,.gone,.ptr 0 [],.gone,.gone,.gone,.ref 1,.gone,.gone,.gone,.gone,.gone,.gone,.gone,.gone,.gone,.gone,.gone,.gone,.gone,.gone,.gone,.gone,.gone,.dat (.sl 2 (.int .i64)) v26,.dat (.int .i64) v27,.dat (.int .i64) v28,.gone,.gone,.gone,.gone,.gone,.gone,.gone,.gone,.gone,.gone,.gone,.gone,.gone,.gone,.gone,.gone,.gone,.gone,.gone,.gone,.gone,.gone,.gone,.gone,.gone,.gone,.gone,.gone,.gone,.gone,.gone,.gone,.gone,.gone,.gone,.gone,.gone,.gone,.gone,.gone,.gone,.gone,.gone,.gone,.gone,.gone,.gone,.gone,.gone,.gone,.gone,.gone,.gone,.gone,.gone,.gone,.gone,.gone,.gone,.gone,.gone,.gone,.gone,.gone,.gone,.gone,.gone,.gone,.gone],[.box 36 (.pair (.sl 119 (.pair (.int .i64) (.int .i64))) (.pair (.sl 78 (.pair .str (.pair (.int .i64) (.pair (.int .i64) (.pair (.int .i64) (.pair (.int .i64) (.pair (.int .i64) (.pair (.int .i64) (.pair (.int .i64) (.int .i64)))))))))) (.sl 59 (.pair (.int .i64) (.pair (.int .i64) (.pair .str (.int .i64))))))) (.dat (.pair (.sl 119 (.pair (.int .i64) (.int .i64))) (.pair (.sl 78 (.pair .str (.pair (.int .i64) (.pair (.int .i64) (.pair (.int .i64) (.pair (.int .i64) (.pair (.int .i64) (.pair (.int .i64) (.pair (.int .i64) (.int .i64)))))))))) (.sl 59 (.pair (.int .i64) (.pair (.int .i64) (.pair .str (.int .i64))))))) x4),.row 2 (.int .i64) p none]⟩
def Qj.con : Con := { ps := [(.val,(.sl 61 (.pair (.int .i64) (.pair .str (.int .i64))))),(.val,(.pair (.sl 119 (.pair (.int .i64) (.int .i64))) (.pair (.sl 78 (.pair .str (.pair (.int .i64) (.pair (.int .i64) (.pair (.int .i64) (.pair (.int .i64) (.pair (.int .i64) (.pair (.int .i64) (.pair (.int .i64) (.int .i64)))))))))) (.sl 59 (.pair (.int .i64) (.pair (.int .i64) (.pair .str (.int .i64)))))))),(.val,(.sl 2 (.int .i64)))],rs := [(.own,(.sl 61 (.pair (.int .i64) (.pair .str (.int .i64))))),(.own,(.int .i64))],F := fun x => Qj.f x.1 x.2.1 x.2.2 }
def Qj.cs : List (FuncId × Con) := [(32,Qab.con),(37,Qu.con),(38,QaC.con),(39,QA.con)]
def Qj.E : Env := envOf tab Qj.cs 0 false
def Qj.keep (i : Nat) : List Nat := if i = 13 then [4,11,70,71,72] else if i = 5 then [0,2,4,8,26,27,28] else []
def Qj.at13 (n : Nat) (x : YL × YH × List Int) : Code × (Ex → St → Option (YAD)) := ctx Qj.E Qj.keep n [.snd,.snd,.snd,.snd,.snd,.fst,.snd,.blk] (Vh Tryz.f12) (kEnd Qj.E Tryz.f12 Qj.con x)
def Qj.LN13 (n : Nat) (x : YL × YH × List Int) : Nat → St → Option (YAD) := loopN (exec Qj.E Qj.keep n (Vm (Qj.at13 n x).1)) (St.norm 0 (Qj.keep 13)) (Qj.at13 n x).2
def Qj.at5 (n : Nat) (x : YL × YH × List Int) : Code × (Ex → St → Option (YAD)) := ctx Qj.E Qj.keep n [.snd,.snd,.snd,.fst,.snd,.blk] (Vh Tryz.f12) (kEnd Qj.E Tryz.f12 Qj.con x)
def Qj.LN5 (n : Nat) (x : YL × YH × List Int) : Nat → St → Option (YAD) := loopN (exec Qj.E Qj.keep n (Vm (Qj.at5 n x).1)) (St.norm 0 (Qj.keep 5)) (Qj.at5 n x).2
set_option maxRecDepth 100000 in
theorem Qj.lem13 (n : Nat) (x : YL × YH × List Int) : ∀ (k : Nat) (v71 : Int) (v72 : Int) (x4 : YF × YG × List YB) (r : List YD) (v70 : List Int),Qj.LN13 n x k (Qj.st13 v71 v72 x4 r v70) = Qj.l13 n k v71 v72 x4 r v70 := by
 intro k
 induction k with
 | zero => intro v71 v72 x4 r v70; rfl
 | succ k ih =>
  intro v71 v72 x4 r v70
  have h : Qj.LN13 n x (k + 1) (Qj.st13 v71 v72 x4 r v70) = Qj.g13 (fun v71 v72 x4 r v70 => Qj.LN13 n x k (Qj.st13 v71 v72 x4 r v70)) v71 v72 x4 r v70 := by kernel_rfl
  rw [h]
  simp only [ih]
  rfl
set_option maxRecDepth 100000 in
theorem Qj.lem5 (n : Nat) (x : YL × YH × List Int) : ∀ (k : Nat) (s : List YD) (q : List Int) (v26 : List Int) (v27 : Int) (v28 : Int) (x4 : YF × YG × List YB) (p : List Int),Qj.LN5 n x k (Qj.st5 s q v26 v27 v28 x4 p) = Qj.l5 n k s q v26 v27 v28 x4 p := by
 intro k
 induction k with
 | zero => intro s q v26 v27 v28 x4 p; rfl
 | succ k ih =>
  intro s q v26 v27 v28 x4 p
  have h : Qj.LN5 n x (k + 1) (Qj.st5 s q v26 v27 v28 x4 p) = Qj.g5 (fun v71 v72 x4 r v70 => Qj.LN13 n x n (Qj.st13 v71 v72 x4 r v70)) (fun s q v26 v27 v28 x4 p => Qj.LN5 n x k (Qj.st5 s q v26 v27 v28 x4 p)) s q v26 v27 v28 x4 p := by kernel_rfl
  rw [h]
  simp only [ih,Qj.lem13]
  rfl
set_option maxRecDepth 100000 in
theorem Qj.body (n : Nat) (x : YL × YH × List Int) : bodyF Qj.E Qj.keep n Tryz.f12 Qj.con x = Qj.fn n x.1 x.2.1 x.2.2 := by
 have h : bodyF Qj.E Qj.keep n Tryz.f12 Qj.con x = Qj.top (fun s q v26 v27 v28 x4 p => Qj.LN5 n x n (Qj.st5 s q v26 v27 v28 x4 p)) x.1 x.2.1 x.2.2 := by kernel_rfl
 rw [h]
 simp only [Qj.lem5]
 rfl
set_option maxRecDepth 100000 in
theorem Qj.good : Good Tryz.prog 12 Qj.con :=
 Vg tabok (cs := Qj.cs) ⟨Qab.good,Qu.good,QaC.good,QA.good,trivial⟩ 0 false (fn := Tryz.f12) Tryz.func12 rfl (by decide) (by simp [Qj.con]) Qj.keep NN (fun _ => rfl) (fun x => Qj.body NN x)
end
end Go.Ev.Tryz

namespace Go.Ev.Tryz
open Go.Proofs Go.Pl
set_option linter.unusedVariables false
noncomputable section
def QD.st2 (p : List Int) (n1 : Int) (i5 : Int) : St := ⟨[.dat (.sl 2 (.int .i64)) p,.dat (.int .i64) n1,.gone,.gone,.gone,.dat (.int .i64) i5,.gone,.gone,.gone,.gone,.gone,.gone,.gone,.gone,.gone,.gone,.gone,.gone,.gone,.gone,.gone,.gone,.gone,.gone,.gone,.gone,.gone,.gone,.gone,.gone,.gone,.gone,.gone,.gone,.gone,.gone],[]⟩
def QD.con : Con := { ps := [(.val,(.sl 2 (.int .i64))),(.val,(.int .i64))],rs := [(.val,.bool)],F := fun x => QD.f x.1 x.2 }
def QD.cs : List (FuncId × Con) := [(79,Qae.con)]
def QD.E : Env := envOf tab QD.cs 0 false
def QD.keep (i : Nat) : List Nat := if i = 2 then [0,1,5] else []
def QD.at2 (n : Nat) (x : List Int × Int) : Code × (Ex → St → Option (Bool)) := ctx QD.E QD.keep n [.snd,.fst,.snd,.blk] (Vh Tryz.f41) (kEnd QD.E Tryz.f41 QD.con x)
def QD.LN2 (n : Nat) (x : List Int × Int) : Nat → St → Option (Bool) := loopN (exec QD.E QD.keep n (Vm (QD.at2 n x).1)) (St.norm 0 (QD.keep 2)) (QD.at2 n x).2
set_option maxRecDepth 100000 in
theorem QD.lem2 (n : Nat) (x : List Int × Int) : ∀ (k : Nat) (p : List Int) (n1 : Int) (i5 : Int),QD.LN2 n x k (QD.st2 p n1 i5) = QD.l2 n k p n1 i5 := by
 intro k
 induction k with
 | zero => intro p n1 i5; rfl
 | succ k ih =>
  intro p n1 i5
  have h : QD.LN2 n x (k + 1) (QD.st2 p n1 i5) = QD.g2 (fun p n1 i5 => QD.LN2 n x k (QD.st2 p n1 i5)) p n1 i5 := by kernel_rfl
  rw [h]
  simp only [ih]
  rfl
set_option maxRecDepth 100000 in
theorem QD.body (n : Nat) (x : List Int × Int) : bodyF QD.E QD.keep n Tryz.f41 QD.con x = QD.fn n x.1 x.2 := by
 have h : bodyF QD.E QD.keep n Tryz.f41 QD.con x = QD.top (fun p n1 i5 => QD.LN2 n x n (QD.st2 p n1 i5)) x.1 x.2 := by kernel_rfl
 rw [h]
 simp only [QD.lem2]
 rfl
set_option maxRecDepth 100000 in
theorem QD.good : Good Tryz.prog 41 QD.con :=
 Vg tabok (cs := QD.cs) ⟨Qae.good,trivial⟩ 0 false (fn := Tryz.f41) Tryz.func41 rfl (by decide) (by simp [QD.con]) QD.keep NN (fun _ => rfl) (fun x => QD.body NN x)
end
end Go.Ev.Tryz

namespace Go.Ev.Tryz
open Go.Proofs Go.Pl
set_option linter.unusedVariables false
noncomputable section
def Qaz.con : Con := { ps := [(.val,(.sl 61 (.pair (.int .i64) (.pair .str (.int .i64)))))],rs := [(.val,(.int .i64))],F := fun x => Qaz.f x }
def Qaz.cs : List (FuncId × Con) := [(40,Qm.con)]
def Qaz.E : Env := envOf tab Qaz.cs 0 false
def Qaz.keep (i : Nat) : List Nat := []
set_option maxRecDepth 100000 in
theorem Qaz.body (n : Nat) (x : List YD) : bodyF Qaz.E Qaz.keep n Tryz.f42 Qaz.con x = Qaz.fn n x := by
 have h : bodyF Qaz.E Qaz.keep n Tryz.f42 Qaz.con x = Qaz.top x := by kernel_rfl
 exact h
set_option maxRecDepth 100000 in
theorem Qaz.good : Good Tryz.prog 42 Qaz.con :=
 Vg tabok (cs := Qaz.cs) ⟨Qm.good,trivial⟩ 0 false (fn := Tryz.f42) Tryz.func42 rfl (by decide) (by simp [Qaz.con]) Qaz.keep NN (fun _ => rfl) (fun x => Qaz.body NN x)
end
end Go.Ev.Tryz

namespace Go.Ev.Tryz
open Go.Proofs Go.Pl
set_option linter.unusedVariables false
noncomputable section
def Qk.st11 (p : List Int) (k9 : Int) (n10 : Int) (i11 : Int) (x4 : YF × YG × List YB) (q : List YD) : St := ⟨[.gone,.gone,.dat (.sl 2 (.int .i64)) p,.gone,.ptr 0 [],.gone,.gone,.gone,.ref 1,.dat (.int .i64) k9,.dat (.int .i64) n10,.dat (.int .i64) i11,.gone,.gone,.gone,.gone,.gone,.gone,.gone,.gone,.gone,.gone,.gone,.gone,.gone,.gone,.gone,.gone,.gone,.gone,.gone,.gone,.gone,.gone,.gone,.gone,.gone,.gone,.gone,.gone,.gone,.gone,.gone,.gone,.gone,.gone,.gone,.gone,.gone,.gone,.gone,.gone,.gone,.gone,.gone,.gone,.gone,.gone,.gone,.gone,.gone,.gone,.gone,.gone,.gone,.gone,.gone,.gone,.gone,.gone,.gone,.gone,.gone,.gone,.gone,.gone,.gone,.gone,.gone,.gone],[.box 36 (.pair (.sl 119 (.pair (.int .i64) (.int .i64))) (.pair (.sl 78 (.pair .str (.pair (.int .i64) (.pair (.int .i64) (.pair (.int .i64) (.pair (.int .i64) (.pair (.int .i64) (.pair (.int .i64) (.pair (.int .i64) (.int .i64)))))))))) (.sl 59 (.pair (.int .i64) (.pair (.int .i64) (.pair .str (.int .i64))))))) (.dat (.pair (.sl 119 (.pair (.int .i64) (.int .i64))) (.pair (.sl 78 (.pair .str (.pair (.int .i64) (.pair (.int .i64) (.pair (.int .i64) (.pair (.int .i64) (.pair (.int .i64) (.pair (.int .i64) (.pair (.int .i64) (.int .i64)))))))))) (.sl 59 (.pair (.int .i64) (.pair (.int .i64) (.pair .str (.int .i64))))))) x4),.row 61 (.pair (.int .i64) (.pair .str (.int .i64))) q none]⟩
def Qk.st7 (p : List Int) (k9 : Int) (x4 : YF × YG × List YB) (q : List YD) : St := ⟨[.gone,.gone,.dat (.sl 2 (.int .i64)) p,.gone,.ptr 0 [],.gone,.gone,.gone,.ref 1,.dat (.int .i64) k9,.gone,.gone,.gone,.gone,.gone,.gone,.gone,.gone,.gone,.gone,.gone,.gone,.gone,.gone,.gone,.gone,.gone,.gone,.gone,.gone,.gone,.gone,.gone,.gone,.gone,.gone,.gone,.gone,.gone,.gone,.gone,.gone,.gone,.gone,.gone,.gone,.gone,.gone,.gone,.gone,.gone,.gone,.gone,.gone,.gone,.gone,.gone,.gone,.gone,.gone,.gone,.gone,.gone,.gone,.gone,.gone,.gone,.gone,.gone,.gone,.gone,.gone,.gone,.gone,.gone,.gone,.gone,.gone,.gone,.gone],[.box 36 (.pair (.sl 119 (.pair (.int .i64) (.int .i64))) (.pair (.sl 78 (.pair .str (.pair (.int .i64) (.pair (.int .i64) (.pair (.int .i64) (.pair (.int .i64) (.pair (.int .i64) (.pair (.int .i64) (.pair (.int .i64) (.int .i64)))))))))) (.sl 59 (.pair (.int .i64) (.pair (.int .i64) (.pair .str (.int .i64))))))) (.dat (.pair (.sl 119 (.pair (.int .i64) (.int .i64))) (.pair (.sl 78 (.pair .str (.pair (.int .i64) (.pair (.int .i64) (.pair (.int .i64) (.pair (.int .i64) (.pair (.int .i64) (.pair (.int .i64) (.pair (.int .i64) (.int .i64)))))))))) (.sl 59 (.pair (.int .i64) (.pair (.int .i64) (.pair .str (.int .i64))))))) x4),.row 61 (.pair (.int .i64) (.pair .str (.int .i64))) q none]⟩
def Qk.con : Con := { ps := [(.val,(.sl 61 (.pair (.int .i64) (.pair .str (.int .i64))))),(.val,(.pair (.sl 119 (.pair (.int .i64) (.int .i64))) (.pair (.sl 78 (.pair .str (.pair (.int .i64) (.pair (.int .i64) (.pair (.int .i64) (.pair (.int .i64) (.pair (.int .i64) (.pair (.int .i64) (.pair (.int .i64) (.int .i64)))))))))) (.sl 59 (.pair (.int .i64) (.pair (.int .i64) (.pair .str (.int .i64)))))))),(.val,(.sl 2 (.int .i64)))],rs := [(.own,(.sl 61 (.pair (.int .i64) (.pair .str (.int .i64))))),(.own,(.int .i64))],F := fun x => Qk.f x.1 x.2.1 x.2.2 }
def Qk.cs : List (FuncId × Con) := [(34,Q4.con),(40,Qm.con),(41,QD.con),(42,Qaz.con)]
def Qk.E : Env := envOf tab Qk.cs 0 false
def Qk.keep (i : Nat) : List Nat := if i = 11 then [2,4,8,9,10,11] else if i = 7 then [2,4,8,9] else []
def Qk.at11 (n : Nat) (x : YL × YH × List Int) (M7 : St → Option (YAD)) : Code × (Ex → St → Option (YAD)) := ctx Qk.E Qk.keep n [.snd,.snd,.snd,.snd,.fst,.snd,.blk,.rd M7,.snd,.fst,.blk,.snd,.fst,.snd,.blk] (Vh Tryz.f13) (kEnd Qk.E Tryz.f13 Qk.con x)
def Qk.LN11 (n : Nat) (x : YL × YH × List Int) (M7 : St → Option (YAD)) : Nat → St → Option (YAD) := loopN (exec Qk.E Qk.keep n (Vm (Qk.at11 n x M7).1)) (St.norm 0 (Qk.keep 11)) (Qk.at11 n x M7).2
def Qk.at7 (n : Nat) (x : YL × YH × List Int) : Code × (Ex → St → Option (YAD)) := ctx Qk.E Qk.keep n [.snd,.snd,.snd,.snd,.fst,.snd,.blk] (Vh Tryz.f13) (kEnd Qk.E Tryz.f13 Qk.con x)
def Qk.LN7 (n : Nat) (x : YL × YH × List Int) : Nat → St → Option (YAD) := loopN (exec Qk.E Qk.keep n (Vm (Qk.at7 n x).1)) (St.norm 0 (Qk.keep 7)) (Qk.at7 n x).2
set_option maxRecDepth 100000 in
theorem Qk.lem11 (n : Nat) (x : YL × YH × List Int) (M7 : St → Option (YAD)) : ∀ (k : Nat) (p : List Int) (k9 : Int) (n10 : Int) (i11 : Int) (x4 : YF × YG × List YB) (q : List YD),Qk.LN11 n x M7 k (Qk.st11 p k9 n10 i11 x4 q) = Qk.l11 n (fun p k9 x4 q => M7 (Qk.st7 p k9 x4 q)) k p k9 n10 i11 x4 q := by
 intro k
 induction k with
 | zero => intro p k9 n10 i11 x4 q; rfl
 | succ k ih =>
  intro p k9 n10 i11 x4 q
  have h : Qk.LN11 n x M7 (k + 1) (Qk.st11 p k9 n10 i11 x4 q) = Qk.g11 (fun p k9 x4 q => M7 (Qk.st7 p k9 x4 q)) (fun p k9 n10 i11 x4 q => Qk.LN11 n x M7 k (Qk.st11 p k9 n10 i11 x4 q)) p k9 n10 i11 x4 q := by kernel_rfl
  rw [h]
  simp only [ih]
  rfl
set_option maxRecDepth 100000 in
theorem Qk.lem7 (n : Nat) (x : YL × YH × List Int) : ∀ (k : Nat) (p : List Int) (k9 : Int) (x4 : YF × YG × List YB) (q : List YD),Qk.LN7 n x k (Qk.st7 p k9 x4 q) = Qk.l7 n k p k9 x4 q := by
 intro k
 induction k with
 | zero => intro p k9 x4 q; rfl
 | succ k ih =>
  intro p k9 x4 q
  have h : Qk.LN7 n x (k + 1) (Qk.st7 p k9 x4 q) = Qk.g7 (fun p k9 n10 i11 x4 q => Qk.LN11 n x (Qk.LN7 n x k) n (Qk.st11 p k9 n10 i11 x4 q)) (fun p k9 x4 q => Qk.LN7 n x k (Qk.st7 p k9 x4 q)) p k9 x4 q := by kernel_rfl
  rw [h]
  simp only [ih,Qk.lem11]
  rfl
set_option maxRecDepth 100000 in
theorem Qk.body (n : Nat) (x : YL × YH × List Int) : bodyF Qk.E Qk.keep n Tryz.f13 Qk.con x = Qk.fn n x.1 x.2.1 x.2.2 := by
 have h : bodyF Qk.E Qk.keep n Tryz.f13 Qk.con x = Qk.top (fun p k9 x4 q => Qk.LN7 n x n (Qk.st7 p k9 x4 q)) x.1 x.2.1 x.2.2 := by kernel_rfl
 rw [h]
 simp only [Qk.lem7]
 rfl
set_option maxRecDepth 100000 in
theorem Qk.good : Good Tryz.prog 13 Qk.con :=
 Vg tabok (cs := Qk.cs) ⟨Q4.good,Qm.good,QD.good,Qaz.good,trivial⟩ 0 false (fn := Tryz.f13) Tryz.func13 rfl (by decide) (by simp [Qk.con]) Qk.keep NN (fun _ => rfl) (fun x => Qk.body NN x)
end
end Go.Ev.Tryz

namespace Go.Ev.Tryz
open Go.Proofs Go.Pl
set_option linter.unusedVariables false
noncomputable section
def QL.st4 (a0 : List Int) (b1 : List Int) (i5 : Int) : St := ⟨[.dat (.sl 2 (.int .i64)) a0,.dat (.sl 2 (.int .i64)) b1,.gone,.gone,.gone,.dat (.int .i64) i5,.gone,.gone,.gone,.gone,.gone,.gone,.gone,.gone,.gone,.gone,.gone,.gone,.gone,.gone,.gone,.gone,.gone,.gone,.gone,.gone],[]⟩
def QL.con : Con := { ps := [(.val,(.sl 2 (.int .i64))),(.val,(.sl 2 (.int .i64)))],rs := [(.val,.bool)],F := fun x => QL.f x.1 x.2 }
def QL.cs : List (FuncId × Con) := []
def QL.E : Env := envOf tab QL.cs 0 false
def QL.keep (i : Nat) : List Nat := if i = 4 then [0,1,5] else []
def QL.at4 (n : Nat) (x : List Int × List Int) : Code × (Ex → St → Option (Bool)) := ctx QL.E QL.keep n [.snd,.snd,.fst,.snd,.blk] (Vh Tryz.f14) (kEnd QL.E Tryz.f14 QL.con x)
def QL.LN4 (n : Nat) (x : List Int × List Int) : Nat → St → Option (Bool) := loopN (exec QL.E QL.keep n (Vm (QL.at4 n x).1)) (St.norm 0 (QL.keep 4)) (QL.at4 n x).2
set_option maxRecDepth 100000 in
theorem QL.lem4 (n : Nat) (x : List Int × List Int) : ∀ (k : Nat) (a0 : List Int) (b1 : List Int) (i5 : Int),QL.LN4 n x k (QL.st4 a0 b1 i5) = QL.l4 n k a0 b1 i5 := by
 intro k
 induction k with
 | zero => intro a0 b1 i5; rfl
 | succ k ih =>
  intro a0 b1 i5
  have h : QL.LN4 n x (k + 1) (QL.st4 a0 b1 i5) = QL.g4 (fun a0 b1 i5 => QL.LN4 n x k (QL.st4 a0 b1 i5)) a0 b1 i5 := by kernel_rfl
  rw [h]
  simp only [ih]
  rfl
set_option maxRecDepth 100000 in
theorem QL.body (n : Nat) (x : List Int × List Int) : bodyF QL.E QL.keep n Tryz.f14 QL.con x = QL.fn n x.1 x.2 := by
 have h : bodyF QL.E QL.keep n Tryz.f14 QL.con x = QL.top (fun a0 b1 i5 => QL.LN4 n x n (QL.st4 a0 b1 i5)) x.1 x.2 := by kernel_rfl
 rw [h]
 simp only [QL.lem4]
 rfl
set_option maxRecDepth 100000 in
theorem QL.good : Good Tryz.prog 14 QL.con :=
 Vg tabok (cs := QL.cs) trivial 0 false (fn := Tryz.f14) Tryz.func14 rfl (by decide) (by simp [QL.con]) QL.keep NN (fun _ => rfl) (fun x => QL.body NN x)
end
end Go.Ev.Tryz

namespace Go.Ev.Tryz
open Go.Proofs Go.Pl
set_option linter.unusedVariables false
noncomputable section
def QP.st4 (a0 : List YQ) (b1 : List YQ) (i5 : Int) : St := ⟨[.dat (.sl 24 (.sl 2 (.int .i64))) a0,.dat (.sl 24 (.sl 2 (.int .i64))) b1,.gone,.gone,.gone,.dat (.int .i64) i5,.gone,.gone,.gone,.gone,.gone,.gone,.gone,.gone,.gone,.gone,.gone,.gone,.gone,.gone,.gone,.gone,.gone,.gone,.gone,.gone,.gone],[]⟩
def QP.con : Con := { ps := [(.val,(.sl 24 (.sl 2 (.int .i64)))),(.val,(.sl 24 (.sl 2 (.int .i64))))],rs := [(.val,.bool)],F := fun x => QP.f x.1 x.2 }
def QP.cs : List (FuncId × Con) := [(14,QL.con)]
def QP.E : Env := envOf tab QP.cs 0 false
def QP.keep (i : Nat) : List Nat := if i = 4 then [0,1,5] else []
def QP.at4 (n : Nat) (x : List YQ × List YQ) : Code × (Ex → St → Option (Bool)) := ctx QP.E QP.keep n [.snd,.snd,.fst,.snd,.blk] (Vh Tryz.f15) (kEnd QP.E Tryz.f15 QP.con x)
def QP.LN4 (n : Nat) (x : List YQ × List YQ) : Nat → St → Option (Bool) := loopN (exec QP.E QP.keep n (Vm (QP.at4 n x).1)) (St.norm 0 (QP.keep 4)) (QP.at4 n x).2
set_option maxRecDepth 100000 in
theorem QP.lem4 (n : Nat) (x : List YQ × List YQ) : ∀ (k : Nat) (a0 : List YQ) (b1 : List YQ) (i5 : Int),QP.LN4 n x k (QP.st4 a0 b1 i5) = QP.l4 n k a0 b1 i5 := by
 intro k
 induction k with
 | zero => intro a0 b1 i5; rfl
 | succ k ih =>
  intro a0 b1 i5
  have h : QP.LN4 n x (k + 1) (QP.st4 a0 b1 i5) = QP.g4 (fun a0 b1 i5 => QP.LN4 n x k (QP.st4 a0 b1 i5)) a0 b1 i5 := by kernel_rfl
  rw [h]
  simp only [ih]
  rfl
set_option maxRecDepth 100000 in
theorem QP.body (n : Nat) (x : List YQ × List YQ) : bodyF QP.E QP.keep n Tryz.f15 QP.con x = QP.fn n x.1 x.2 := by
 have h : bodyF QP.E QP.keep n Tryz.f15 QP.con x = QP.top (fun a0 b1 i5 => QP.LN4 n x n (QP.st4 a0 b1 i5)) x.1 x.2 := by kernel_rfl
 rw [h]
 simp only [QP.lem4]
 rfl
set_option maxRecDepth 100000 in
theorem QP.good : Good Tryz.prog 15 QP.con :=
 Vg tabok (cs := QP.cs) ⟨QL.good,trivial⟩ 0 false (fn := Tryz.f15) Tryz.func15 rfl (by decide) (by simp [QP.con]) QP.keep NN (fun _ => rfl) (fun x => QP.body NN x)
end
end Go.Ev.Tryz

namespace Go.Ev.Tryz
open Go.Proofs Go.Pl
set_option linter.unusedVariables false
noncomputable section
def Qr.st4 (a0 : List YD) (b1 : List YD) (i5 : Int) : St := ⟨[.dat (.sl 61 (.pair (.int .i64) (.pair .str (.int .i64)))) a0,.dat (.sl 61 (.pair (.int .i64) (.pair .str (.int .i64)))) b1,.gone,.gone,.gone,.dat (.int .i64) i5,.gone,.gone,.gone,.gone,.gone,.gone,.gone,.gone,.gone,.gone,.gone,.gone,.gone,.gone,.gone,.gone,.gone,.gone,.gone,.gone],[]⟩
def Qr.con : Con := { ps := [(.val,(.sl 61 (.pair (.int .i64) (.pair .str (.int .i64))))),(.val,(.sl 61 (.pair (.int .i64) (.pair .str (.int .i64)))))],rs := [(.val,.bool)],F := fun x => Qr.f x.1 x.2 }
def Qr.cs : List (FuncId × Con) := []
def Qr.E : Env := envOf tab Qr.cs 0 false
def Qr.keep (i : Nat) : List Nat := if i = 4 then [0,1,5] else []
def Qr.at4 (n : Nat) (x : YL × List YD) : Code × (Ex → St → Option (Bool)) := ctx Qr.E Qr.keep n [.snd,.snd,.fst,.snd,.blk] (Vh Tryz.f16) (kEnd Qr.E Tryz.f16 Qr.con x)
def Qr.LN4 (n : Nat) (x : YL × List YD) : Nat → St → Option (Bool) := loopN (exec Qr.E Qr.keep n (Vm (Qr.at4 n x).1)) (St.norm 0 (Qr.keep 4)) (Qr.at4 n x).2
set_option maxRecDepth 100000 in
theorem Qr.lem4 (n : Nat) (x : YL × List YD) : ∀ (k : Nat) (a0 : List YD) (b1 : List YD) (i5 : Int),Qr.LN4 n x k (Qr.st4 a0 b1 i5) = Qr.l4 n k a0 b1 i5 := by
 intro k
 induction k with
 | zero => intro a0 b1 i5; rfl
 | succ k ih =>
  intro a0 b1 i5
  have h : Qr.LN4 n x (k + 1) (Qr.st4 a0 b1 i5) = Qr.g4 (fun a0 b1 i5 => Qr.LN4 n x k (Qr.st4 a0 b1 i5)) a0 b1 i5 := by kernel_rfl
  rw [h]
  simp only [ih]
  rfl
set_option maxRecDepth 100000 in
theorem Qr.body (n : Nat) (x : YL × List YD) : bodyF Qr.E Qr.keep n Tryz.f16 Qr.con x = Qr.fn n x.1 x.2 := by
 have h : bodyF Qr.E Qr.keep n Tryz.f16 Qr.con x = Qr.top (fun a0 b1 i5 => Qr.LN4 n x n (Qr.st4 a0 b1 i5)) x.1 x.2 := by kernel_rfl
 rw [h]
 simp only [Qr.lem4]
 rfl
set_option maxRecDepth 100000 in
theorem Qr.good : Good Tryz.prog 16 Qr.con :=
 Vg tabok (cs := Qr.cs) trivial 0 false (fn := Tryz.f16) Tryz.func16 rfl (by decide) (by simp [Qr.con]) Qr.keep NN (fun _ => rfl) (fun x => Qr.body NN x)
end
end Go.Ev.Tryz
