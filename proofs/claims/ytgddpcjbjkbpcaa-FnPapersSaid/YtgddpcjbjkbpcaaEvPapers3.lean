/- Part 3 of what the law FnPapers stands on: an evaluator of the model's code, proved sound; the functions as plain texts; their contracts. -/
import Derived.Test.YtgddpcjbjkbpcaaChecked
import Derived.Test.YtgddpcjbjkbpcaaProg
import Derived.Test.YtgddpcjbjkbpcaaRows
import Derived.Below
import Derived.Calls
import Derived.Carry
import Derived.ChangeArms
import Derived.ChangeKeysEq
import Derived.ChangeOld
import Derived.Deep.Quiet
import Derived.KernelRfl
import Derived.Laws.Append
import Derived.Laws.BytesString
import Derived.Laws.MakeOwn
import Derived.Laws.Strings
import Derived.Laws.StructEq
import Derived.OpenShut
import Derived.OrdersHeld
import Derived.ProofKit
import Derived.ShutString
import Derived.SizedLaws
import Derived.Tactics
import Derived.WalkKit
import Derived.WideShapes
import Derived.Test.YtgddpcjbjkbpcaaEvPapers2
namespace Go.Ev.Try
open Go.Proofs Go.Pl
set_option linter.unusedVariables false
noncomputable section
def spec_DrawPutLine.tr0 (r2 : ((ByteArray × Int × List (ByteArray × Int)) × List Int × Int × Int)) (r3 : (Int × List Int × Int × Int)) (r5 : (Int × List Int × Int × Int)) : Option ((ByteArray × Int × List (ByteArray × Int)) × ByteArray × Int) :=
  some ((r2.1.1, (r2.1.2.1, r2.1.2.2)), ([(⟨#[99, 111, 109, 101, 116]⟩ : ByteArray), (⟨#[112, 101, 111, 110, 121]⟩ : ByteArray), (⟨#[122, 105, 110, 110, 105, 97]⟩ : ByteArray), (⟨#[65, 115, 116, 101, 114]⟩ : ByteArray), (⟨#[119, 105, 108, 108, 111, 119]⟩ : ByteArray)]).getD (r3.1 : Int).toNat ByteArray.empty, r5.1)
def spec_DrawPutLine.tr1 (r2 : ((ByteArray × Int × List (ByteArray × Int)) × List Int × Int × Int)) (r3 : (Int × List Int × Int × Int)) (r4 : (Int × List Int × Int × Int)) : Option ((ByteArray × Int × List (ByteArray × Int)) × ByteArray × Int) :=
  (spec_l01Pick.f r4.2 ([IntKind.i64.wrap (1 + r4.1), 1, 1000, 1001, 0])).bind fun r5 =>
  spec_DrawPutLine.tr0 r2 r3 r5
def spec_DrawPutLine.tr2 (r2 : ((ByteArray × Int × List (ByteArray × Int)) × List Int × Int × Int)) (r3 : (Int × List Int × Int × Int)) : Option ((ByteArray × Int × List (ByteArray × Int)) × ByteArray × Int) :=
  (spec_l01Next.f r3.2 20).bind fun r4 =>
  spec_DrawPutLine.tr1 r2 r3 r4
def spec_DrawPutLine.tr3 (r2 : ((ByteArray × Int × List (ByteArray × Int)) × List Int × Int × Int)) (r3 : (Int × List Int × Int × Int)) (r5 : (Int × List Int × Int × Int)) : Option ((ByteArray × Int × List (ByteArray × Int)) × ByteArray × Int) :=
  agree (
    spec_DrawPutLine.tr0 r2 r3 r5
  ) (
    spec_DrawPutLine.tr0 r2 r3 r5
  )
def spec_DrawPutLine.tr4 (r2 : ((ByteArray × Int × List (ByteArray × Int)) × List Int × Int × Int)) (r3 : (Int × List Int × Int × Int)) (r4 : (Int × List Int × Int × Int)) : Option ((ByteArray × Int × List (ByteArray × Int)) × ByteArray × Int) :=
  agree (
    spec_DrawPutLine.tr1 r2 r3 r4
  ) (
    (spec_l01Pick.f r4.2 ([IntKind.i64.wrap (1 + r4.1), 1, 1000, 1001, 0])).bind fun r5 =>
    spec_DrawPutLine.tr3 r2 r3 r5
  )
def spec_DrawPutLine.tr5 (r2 : ((ByteArray × Int × List (ByteArray × Int)) × List Int × Int × Int)) (r3 : (Int × List Int × Int × Int)) (r4 : (Int × List Int × Int × Int)) : Option ((ByteArray × Int × List (ByteArray × Int)) × ByteArray × Int) :=
  agree (
    spec_DrawPutLine.tr1 r2 r3 r4
  ) (
    spec_DrawPutLine.tr4 r2 r3 r4
  )
def spec_DrawPutLine.tr6 (r2 : ((ByteArray × Int × List (ByteArray × Int)) × List Int × Int × Int)) (r3 : (Int × List Int × Int × Int)) : Option ((ByteArray × Int × List (ByteArray × Int)) × ByteArray × Int) :=
  agree (
    spec_DrawPutLine.tr2 r2 r3
  ) (
    (spec_l01Next.f r3.2 20).bind fun r4 =>
    spec_DrawPutLine.tr5 r2 r3 r4
  )
def spec_DrawPutLine.tr7 (r2 : ((ByteArray × Int × List (ByteArray × Int)) × List Int × Int × Int)) (r3 : (Int × List Int × Int × Int)) : Option ((ByteArray × Int × List (ByteArray × Int)) × ByteArray × Int) :=
  if (0 : Int) ≤ r3.1 ∧ (r3.1 : Int) < ([(⟨#[99, 111, 109, 101, 116]⟩ : ByteArray), (⟨#[112, 101, 111, 110, 121]⟩ : ByteArray), (⟨#[122, 105, 110, 110, 105, 97]⟩ : ByteArray), (⟨#[65, 115, 116, 101, 114]⟩ : ByteArray), (⟨#[119, 105, 108, 108, 111, 119]⟩ : ByteArray)]).length then
    spec_DrawPutLine.tr6 r2 r3
  else
    none
def spec_DrawPutLine.tr8 (r2 : ((ByteArray × Int × List (ByteArray × Int)) × List Int × Int × Int)) : Option ((ByteArray × Int × List (ByteArray × Int)) × ByteArray × Int) :=
  (spec_l01Next.f r2.2 5).bind fun r3 =>
  spec_DrawPutLine.tr7 r2 r3
def spec_DrawPutLine.tr9 (r2 : ((ByteArray × Int × List (ByteArray × Int)) × List Int × Int × Int)) (r3 : (Int × List Int × Int × Int)) (r5 : (Int × List Int × Int × Int)) : Option ((ByteArray × Int × List (ByteArray × Int)) × ByteArray × Int) :=
  agree (
    if (0 : Int) ≤ r3.1 ∧ (r3.1 : Int) < ([(⟨#[99, 111, 109, 101, 116]⟩ : ByteArray), (⟨#[112, 101, 111, 110, 121]⟩ : ByteArray), (⟨#[122, 105, 110, 110, 105, 97]⟩ : ByteArray), (⟨#[65, 115, 116, 101, 114]⟩ : ByteArray), (⟨#[119, 105, 108, 108, 111, 119]⟩ : ByteArray)]).length then
      spec_DrawPutLine.tr3 r2 r3 r5
    else
      none
  ) (
    if (0 : Int) ≤ r3.1 ∧ (r3.1 : Int) < ([(⟨#[99, 111, 109, 101, 116]⟩ : ByteArray), (⟨#[112, 101, 111, 110, 121]⟩ : ByteArray), (⟨#[122, 105, 110, 110, 105, 97]⟩ : ByteArray), (⟨#[65, 115, 116, 101, 114]⟩ : ByteArray), (⟨#[119, 105, 108, 108, 111, 119]⟩ : ByteArray)]).length then
      spec_DrawPutLine.tr0 r2 r3 r5
    else
      none
  )
def spec_DrawPutLine.tr10 (r2 : ((ByteArray × Int × List (ByteArray × Int)) × List Int × Int × Int)) (r3 : (Int × List Int × Int × Int)) (r4 : (Int × List Int × Int × Int)) : Option ((ByteArray × Int × List (ByteArray × Int)) × ByteArray × Int) :=
  agree (
    if (0 : Int) ≤ r3.1 ∧ (r3.1 : Int) < ([(⟨#[99, 111, 109, 101, 116]⟩ : ByteArray), (⟨#[112, 101, 111, 110, 121]⟩ : ByteArray), (⟨#[122, 105, 110, 110, 105, 97]⟩ : ByteArray), (⟨#[65, 115, 116, 101, 114]⟩ : ByteArray), (⟨#[119, 105, 108, 108, 111, 119]⟩ : ByteArray)]).length then
      spec_DrawPutLine.tr4 r2 r3 r4
    else
      none
  ) (
    (spec_l01Pick.f r4.2 ([IntKind.i64.wrap (1 + r4.1), 1, 1000, 1001, 0])).bind fun r5 =>
    spec_DrawPutLine.tr9 r2 r3 r5
  )
def spec_DrawPutLine.tr11 (r2 : ((ByteArray × Int × List (ByteArray × Int)) × List Int × Int × Int)) (r3 : (Int × List Int × Int × Int)) (r4 : (Int × List Int × Int × Int)) : Option ((ByteArray × Int × List (ByteArray × Int)) × ByteArray × Int) :=
  agree (
    if (0 : Int) ≤ r3.1 ∧ (r3.1 : Int) < ([(⟨#[99, 111, 109, 101, 116]⟩ : ByteArray), (⟨#[112, 101, 111, 110, 121]⟩ : ByteArray), (⟨#[122, 105, 110, 110, 105, 97]⟩ : ByteArray), (⟨#[65, 115, 116, 101, 114]⟩ : ByteArray), (⟨#[119, 105, 108, 108, 111, 119]⟩ : ByteArray)]).length then
      spec_DrawPutLine.tr5 r2 r3 r4
    else
      none
  ) (
    spec_DrawPutLine.tr10 r2 r3 r4
  )
def spec_DrawPutLine.tr12 (r2 : ((ByteArray × Int × List (ByteArray × Int)) × List Int × Int × Int)) (r3 : (Int × List Int × Int × Int)) : Option ((ByteArray × Int × List (ByteArray × Int)) × ByteArray × Int) :=
  agree (
    spec_DrawPutLine.tr7 r2 r3
  ) (
    (spec_l01Next.f r3.2 20).bind fun r4 =>
    spec_DrawPutLine.tr11 r2 r3 r4
  )
def spec_DrawPutLine.tr13 (r2 : ((ByteArray × Int × List (ByteArray × Int)) × List Int × Int × Int)) (r3 : (Int × List Int × Int × Int)) (r4 : (Int × List Int × Int × Int)) : Option ((ByteArray × Int × List (ByteArray × Int)) × ByteArray × Int) :=
  agree (
    spec_DrawPutLine.tr1 r2 r3 r4
  ) (
    spec_DrawPutLine.tr1 r2 r3 r4
  )
def spec_DrawPutLine.tr14 (r2 : ((ByteArray × Int × List (ByteArray × Int)) × List Int × Int × Int)) (r3 : (Int × List Int × Int × Int)) (r4 : (Int × List Int × Int × Int)) : Option ((ByteArray × Int × List (ByteArray × Int)) × ByteArray × Int) :=
  agree (
    spec_DrawPutLine.tr1 r2 r3 r4
  ) (
    spec_DrawPutLine.tr13 r2 r3 r4
  )
def spec_DrawPutLine.tr15 (r2 : ((ByteArray × Int × List (ByteArray × Int)) × List Int × Int × Int)) (r3 : (Int × List Int × Int × Int)) (r5 : (Int × List Int × Int × Int)) : Option ((ByteArray × Int × List (ByteArray × Int)) × ByteArray × Int) :=
  agree (
    spec_DrawPutLine.tr3 r2 r3 r5
  ) (
    spec_DrawPutLine.tr0 r2 r3 r5
  )
def spec_DrawPutLine.tr16 (r2 : ((ByteArray × Int × List (ByteArray × Int)) × List Int × Int × Int)) (r3 : (Int × List Int × Int × Int)) (r4 : (Int × List Int × Int × Int)) : Option ((ByteArray × Int × List (ByteArray × Int)) × ByteArray × Int) :=
  agree (
    spec_DrawPutLine.tr4 r2 r3 r4
  ) (
    agree (
      spec_DrawPutLine.tr13 r2 r3 r4
    ) (
      (spec_l01Pick.f r4.2 ([IntKind.i64.wrap (1 + r4.1), 1, 1000, 1001, 0])).bind fun r5 =>
      spec_DrawPutLine.tr15 r2 r3 r5
    )
  )
def spec_DrawPutLine.tr17 (r2 : ((ByteArray × Int × List (ByteArray × Int)) × List Int × Int × Int)) (r3 : (Int × List Int × Int × Int)) (r4 : (Int × List Int × Int × Int)) : Option ((ByteArray × Int × List (ByteArray × Int)) × ByteArray × Int) :=
  agree (
    spec_DrawPutLine.tr5 r2 r3 r4
  ) (
    agree (
      spec_DrawPutLine.tr14 r2 r3 r4
    ) (
      spec_DrawPutLine.tr16 r2 r3 r4
    )
  )
def spec_DrawPutLine.tr18 (r2 : ((ByteArray × Int × List (ByteArray × Int)) × List Int × Int × Int)) (r3 : (Int × List Int × Int × Int)) : Option ((ByteArray × Int × List (ByteArray × Int)) × ByteArray × Int) :=
  if (0 : Int) ≤ r3.1 ∧ (r3.1 : Int) < ([(⟨#[99, 111, 109, 101, 116]⟩ : ByteArray), (⟨#[112, 101, 111, 110, 121]⟩ : ByteArray), (⟨#[122, 105, 110, 110, 105, 97]⟩ : ByteArray), (⟨#[65, 115, 116, 101, 114]⟩ : ByteArray), (⟨#[119, 105, 108, 108, 111, 119]⟩ : ByteArray)]).length then
    agree (
      spec_DrawPutLine.tr6 r2 r3
    ) (
      agree (
        agree (
          spec_DrawPutLine.tr2 r2 r3
        ) (
          (spec_l01Next.f r3.2 20).bind fun r4 =>
          spec_DrawPutLine.tr14 r2 r3 r4
        )
      ) (
        (spec_l01Next.f r3.2 20).bind fun r4 =>
        spec_DrawPutLine.tr17 r2 r3 r4
      )
    )
  else
    none
def spec_DrawPutLine.topraw (code0 : List Int) : Option ((ByteArray × Int × List (ByteArray × Int)) × ByteArray × Int) :=
  (spec_l01From.f code0).bind fun r1 =>
  (spec_l29Draw.f r1).bind fun r2 =>
  agree (
    agree (
      spec_DrawPutLine.tr8 r2
    ) (
      (spec_l01Next.f r2.2 5).bind fun r3 =>
      spec_DrawPutLine.tr12 r2 r3
    )
  ) (
    agree (
      agree (
        spec_DrawPutLine.tr8 r2
      ) (
        (spec_l01Next.f r2.2 5).bind fun r3 =>
        spec_DrawPutLine.tr18 r2 r3
      )
    ) (
      (spec_l01Next.f r2.2 5).bind fun r3 =>
      agree (
        spec_DrawPutLine.tr12 r2 r3
      ) (
        agree (
          spec_DrawPutLine.tr18 r2 r3
        ) (
          (spec_l01Next.f r3.2 20).bind fun r4 =>
          agree (
            spec_DrawPutLine.tr11 r2 r3 r4
          ) (
            agree (
              if (0 : Int) ≤ r3.1 ∧ (r3.1 : Int) < ([(⟨#[99, 111, 109, 101, 116]⟩ : ByteArray), (⟨#[112, 101, 111, 110, 121]⟩ : ByteArray), (⟨#[122, 105, 110, 110, 105, 97]⟩ : ByteArray), (⟨#[65, 115, 116, 101, 114]⟩ : ByteArray), (⟨#[119, 105, 108, 108, 111, 119]⟩ : ByteArray)]).length then
                spec_DrawPutLine.tr17 r2 r3 r4
              else
                none
            ) (
              agree (
                spec_DrawPutLine.tr10 r2 r3 r4
              ) (
                agree (
                  if (0 : Int) ≤ r3.1 ∧ (r3.1 : Int) < ([(⟨#[99, 111, 109, 101, 116]⟩ : ByteArray), (⟨#[112, 101, 111, 110, 121]⟩ : ByteArray), (⟨#[122, 105, 110, 110, 105, 97]⟩ : ByteArray), (⟨#[65, 115, 116, 101, 114]⟩ : ByteArray), (⟨#[119, 105, 108, 108, 111, 119]⟩ : ByteArray)]).length then
                    spec_DrawPutLine.tr16 r2 r3 r4
                  else
                    none
                ) (
                  (spec_l01Pick.f r4.2 ([IntKind.i64.wrap (1 + r4.1), 1, 1000, 1001, 0])).bind fun r5 =>
                  agree (
                    spec_DrawPutLine.tr9 r2 r3 r5
                  ) (
                    if (0 : Int) ≤ r3.1 ∧ (r3.1 : Int) < ([(⟨#[99, 111, 109, 101, 116]⟩ : ByteArray), (⟨#[112, 101, 111, 110, 121]⟩ : ByteArray), (⟨#[122, 105, 110, 110, 105, 97]⟩ : ByteArray), (⟨#[65, 115, 116, 101, 114]⟩ : ByteArray), (⟨#[119, 105, 108, 108, 111, 119]⟩ : ByteArray)]).length then
                      spec_DrawPutLine.tr15 r2 r3 r5
                    else
                      none
                  )
                )
              )
            )
          )
        )
      )
    )
  )
theorem spec_DrawPutLine.topraw_eq (code0 : List Int) : spec_DrawPutLine.topraw code0 = spec_DrawPutLine.top code0 := by
  unfold spec_DrawPutLine.topraw spec_DrawPutLine.top
  simp only [agree_self, spec_DrawPutLine.tr0, spec_DrawPutLine.tr1, spec_DrawPutLine.tr2, spec_DrawPutLine.tr3, spec_DrawPutLine.tr4, spec_DrawPutLine.tr5, spec_DrawPutLine.tr6, spec_DrawPutLine.tr7, spec_DrawPutLine.tr8, spec_DrawPutLine.tr9, spec_DrawPutLine.tr10, spec_DrawPutLine.tr11, spec_DrawPutLine.tr12, spec_DrawPutLine.tr13, spec_DrawPutLine.tr14, spec_DrawPutLine.tr15, spec_DrawPutLine.tr16, spec_DrawPutLine.tr17, spec_DrawPutLine.tr18]
def spec_DrawPutLine.con : Con := { ps := [(.val, (.sl 5 (.int .u8)))], rs := [(.own, (.pair .str (.pair (.int .i64) (.sl 82 (.pair .str (.int .i64)))))), (.own, .str), (.own, (.int .i64))], F := fun x => spec_DrawPutLine.f x }
def spec_DrawPutLine.cs : List (FuncId × Con) := [(93, spec_l01From.con), (95, spec_l01Pick.con), (96, spec_l01Next.con), (98, spec_l29Draw.con)]
def spec_DrawPutLine.E : Env := envOf tab spec_DrawPutLine.cs 0 false
def spec_DrawPutLine.keep (i : Nat) : List Nat := []
set_option maxRecDepth 100000 in
theorem spec_DrawPutLine.body (n : Nat) (x : List Int) : bodyF spec_DrawPutLine.E spec_DrawPutLine.keep n Try.f53 spec_DrawPutLine.con x = spec_DrawPutLine.fn n x := by
  have h : bodyF spec_DrawPutLine.E spec_DrawPutLine.keep n Try.f53 spec_DrawPutLine.con x = spec_DrawPutLine.topraw x := by kernel_rfl
  rw [spec_DrawPutLine.topraw_eq] at h
  exact h
set_option maxRecDepth 100000 in
theorem spec_DrawPutLine.good : Good Try.prog 53 spec_DrawPutLine.con :=
  good_of tabok (cs := spec_DrawPutLine.cs) ⟨spec_l01From.good, spec_l01Pick.good, spec_l01Next.good, spec_l29Draw.good, trivial⟩ 0 false (fn := Try.f53) Try.func53 rfl (by decide) (by simp [spec_DrawPutLine.con]) spec_DrawPutLine.keep NN (fun _ => rfl) (fun x => spec_DrawPutLine.body NN x)
end
end Go.Ev.Try

namespace Go.Ev.Try
open Go.Proofs Go.Pl
set_option linter.unusedVariables false
noncomputable section
def spec_l03Find.st2 (list0 : List (ByteArray × Int × Int × Int × Int × Int × Int × Int × Int)) (code1 : ByteArray) (i5 : Int) : St := ⟨[.dat (.sl 142 (.pair .str (.pair (.int .i64) (.pair (.int .i64) (.pair (.int .i64) (.pair (.int .i64) (.pair (.int .i64) (.pair (.int .i64) (.pair (.int .i64) (.int .i64)))))))))) list0, .dat .str code1, .gone, .gone, .gone, .dat (.int .i64) i5, .gone, .gone, .gone, .gone, .gone, .gone, .gone, .gone, .gone, .gone, .gone, .gone, .gone, .gone], []⟩
def spec_l03Find.con : Con := { ps := [(.val, (.sl 142 (.pair .str (.pair (.int .i64) (.pair (.int .i64) (.pair (.int .i64) (.pair (.int .i64) (.pair (.int .i64) (.pair (.int .i64) (.pair (.int .i64) (.int .i64))))))))))), (.val, .str)], rs := [(.val, (.int .i64))], F := fun x => spec_l03Find.f x.1 x.2 }
def spec_l03Find.cs : List (FuncId × Con) := []
def spec_l03Find.E : Env := envOf tab spec_l03Find.cs 0 false
def spec_l03Find.keep (i : Nat) : List Nat := if i = 2 then [0, 1, 5] else []
def spec_l03Find.at2 (n : Nat) (x : (List (ByteArray × Int × Int × Int × Int × Int × Int × Int × Int)) × ByteArray) : Code × (Ex → St → Option (Int)) := ctx spec_l03Find.E spec_l03Find.keep n [.snd, .fst, .snd, .blk] (codeOf Try.f118) (kEnd spec_l03Find.E Try.f118 spec_l03Find.con x)
def spec_l03Find.LN2 (n : Nat) (x : (List (ByteArray × Int × Int × Int × Int × Int × Int × Int × Int)) × ByteArray) : Nat → St → Option (Int) := loopN (exec spec_l03Find.E spec_l03Find.keep n (bodyOf (spec_l03Find.at2 n x).1)) (St.norm 0 (spec_l03Find.keep 2)) (spec_l03Find.at2 n x).2
set_option maxRecDepth 100000 in
theorem spec_l03Find.lem2 (n : Nat) (x : (List (ByteArray × Int × Int × Int × Int × Int × Int × Int × Int)) × ByteArray) : ∀ (k : Nat) (list0 : List (ByteArray × Int × Int × Int × Int × Int × Int × Int × Int)) (code1 : ByteArray) (i5 : Int), spec_l03Find.LN2 n x k (spec_l03Find.st2 list0 code1 i5) = spec_l03Find.l2 n k list0 code1 i5 := by
  intro k
  induction k with
  | zero => intro list0 code1 i5; rfl
  | succ k ih =>
    intro list0 code1 i5
    have h : spec_l03Find.LN2 n x (k + 1) (spec_l03Find.st2 list0 code1 i5) = spec_l03Find.g2 (fun list0 code1 i5 => spec_l03Find.LN2 n x k (spec_l03Find.st2 list0 code1 i5)) list0 code1 i5 := by kernel_rfl
    rw [h]
    simp only [ih]
    rfl
set_option maxRecDepth 100000 in
theorem spec_l03Find.body (n : Nat) (x : (List (ByteArray × Int × Int × Int × Int × Int × Int × Int × Int)) × ByteArray) : bodyF spec_l03Find.E spec_l03Find.keep n Try.f118 spec_l03Find.con x = spec_l03Find.fn n x.1 x.2 := by
  have h : bodyF spec_l03Find.E spec_l03Find.keep n Try.f118 spec_l03Find.con x = spec_l03Find.top (fun list0 code1 i5 => spec_l03Find.LN2 n x n (spec_l03Find.st2 list0 code1 i5)) x.1 x.2 := by kernel_rfl
  rw [h]
  simp only [spec_l03Find.lem2]
  rfl
set_option maxRecDepth 100000 in
theorem spec_l03Find.good : Good Try.prog 118 spec_l03Find.con :=
  good_of tabok (cs := spec_l03Find.cs) trivial 0 false (fn := Try.f118) Try.func118 rfl (by decide) (by simp [spec_l03Find.con]) spec_l03Find.keep NN (fun _ => rfl) (fun x => spec_l03Find.body NN x)
end
end Go.Ev.Try

namespace Go.Ev.Try
open Go.Proofs Go.Pl
set_option linter.unusedVariables false
noncomputable section
def spec_l03Good.con : Con := { ps := [(.bx 158, (.pair (.sl 5 (.int .u8)) (.pair (.int .i64) (.int .i64)))), (.val, .str)], rs := [(.val, (.pair .str (.pair (.int .i64) (.pair (.int .i64) (.pair (.int .i64) (.pair (.int .i64) (.pair (.int .i64) (.pair (.int .i64) (.pair (.int .i64) (.int .i64))))))))))], F := fun x => spec_l03Good.f x.1 x.2 }
def spec_l03Good.cs : List (FuncId × Con) := [(95, spec_l01Pick.con), (96, spec_l01Next.con)]
def spec_l03Good.E : Env := envOf tab spec_l03Good.cs 1 false
def spec_l03Good.keep (i : Nat) : List Nat := []
set_option maxRecDepth 100000 in
theorem spec_l03Good.body (n : Nat) (x : (List Int × Int × Int) × ByteArray) : bodyF spec_l03Good.E spec_l03Good.keep n Try.f162 spec_l03Good.con x = spec_l03Good.fn n x.1 x.2 := by
  have h : bodyF spec_l03Good.E spec_l03Good.keep n Try.f162 spec_l03Good.con x = spec_l03Good.top x.1 x.2 := by kernel_rfl
  exact h
set_option maxRecDepth 100000 in
theorem spec_l03Good.good : Good Try.prog 162 spec_l03Good.con :=
  good_of tabok (cs := spec_l03Good.cs) ⟨spec_l01Pick.good, spec_l01Next.good, trivial⟩ 1 false (fn := Try.f162) Try.func162 rfl (by decide) (by simp [spec_l03Good.con]) spec_l03Good.keep NN (fun _ => rfl) (fun x => spec_l03Good.body NN x)
end
end Go.Ev.Try

namespace Go.Ev.Try
open Go.Proofs Go.Pl
set_option linter.unusedVariables false
noncomputable section
def spec_l03Draw.con : Con := { ps := [(.bx 158, (.pair (.sl 5 (.int .u8)) (.pair (.int .i64) (.int .i64)))), (.val, .str)], rs := [(.val, (.pair .str (.pair (.int .i64) (.pair (.int .i64) (.pair (.int .i64) (.pair (.int .i64) (.pair (.int .i64) (.pair (.int .i64) (.pair (.int .i64) (.int .i64))))))))))], F := fun x => spec_l03Draw.f x.1 x.2 }
def spec_l03Draw.cs : List (FuncId × Con) := [(95, spec_l01Pick.con), (96, spec_l01Next.con), (139, spec_l01DrawWord.con), (162, spec_l03Good.con)]
def spec_l03Draw.E : Env := envOf tab spec_l03Draw.cs 1 false
def spec_l03Draw.keep (i : Nat) : List Nat := []
set_option maxRecDepth 100000 in
theorem spec_l03Draw.body (n : Nat) (x : (List Int × Int × Int) × ByteArray) : bodyF spec_l03Draw.E spec_l03Draw.keep n Try.f161 spec_l03Draw.con x = spec_l03Draw.fn n x.1 x.2 := by
  have h : bodyF spec_l03Draw.E spec_l03Draw.keep n Try.f161 spec_l03Draw.con x = spec_l03Draw.top x.1 x.2 := by kernel_rfl
  exact h
set_option maxRecDepth 100000 in
theorem spec_l03Draw.good : Good Try.prog 161 spec_l03Draw.con :=
  good_of tabok (cs := spec_l03Draw.cs) ⟨spec_l01Pick.good, spec_l01Next.good, spec_l01DrawWord.good, spec_l03Good.good, trivial⟩ 1 false (fn := Try.f161) Try.func161 rfl (by decide) (by simp [spec_l03Draw.con]) spec_l03Draw.keep NN (fun _ => rfl) (fun x => spec_l03Draw.body NN x)
end
end Go.Ev.Try

namespace Go.Ev.Try
open Go.Proofs Go.Pl
set_option linter.unusedVariables false
noncomputable section
def spec_l03List.st13 (k6 : Int) (s0 : List Int × Int × Int) (out3 : List (ByteArray × Int × Int × Int × Int × Int × Int × Int × Int)) : St := ⟨[.ptr 0 [], .gone, .gone, .ref 1, .gone, .gone, .dat (.int .i64) k6, .gone, .gone, .gone, .gone, .gone, .gone, .gone, .gone, .gone, .gone, .gone, .gone, .gone, .gone, .gone, .gone, .gone, .gone, .gone, .gone, .gone, .gone, .gone, .gone, .gone, .gone, .gone, .gone, .gone, .gone, .gone, .gone, .gone, .gone, .gone, .gone, .gone, .gone, .gone, .gone, .gone, .gone, .gone, .gone, .gone, .gone, .gone, .gone, .gone, .gone, .gone, .gone, .gone, .gone], [.box 158 (.pair (.sl 5 (.int .u8)) (.pair (.int .i64) (.int .i64))) (.dat (.pair (.sl 5 (.int .u8)) (.pair (.int .i64) (.int .i64))) s0), .row 142 (.pair .str (.pair (.int .i64) (.pair (.int .i64) (.pair (.int .i64) (.pair (.int .i64) (.pair (.int .i64) (.pair (.int .i64) (.pair (.int .i64) (.int .i64))))))))) out3 none]⟩
def spec_l03List.st4 (i5 : Int) (s0 : List Int × Int × Int) (out3 : List (ByteArray × Int × Int × Int × Int × Int × Int × Int × Int)) (names4 : List ByteArray) : St := ⟨[.ptr 0 [], .gone, .gone, .ref 1, .ref 2, .dat (.int .i64) i5, .gone, .gone, .gone, .gone, .gone, .gone, .gone, .gone, .gone, .gone, .gone, .gone, .gone, .gone, .gone, .gone, .gone, .gone, .gone, .gone, .gone, .gone, .gone, .gone, .gone, .gone, .gone, .gone, .gone, .gone, .gone, .gone, .gone, .gone, .gone, .gone, .gone, .gone, .gone, .gone, .gone, .gone, .gone, .gone, .gone, .gone, .gone, .gone, .gone, .gone, .gone, .gone, .gone, .gone, .gone], [.box 158 (.pair (.sl 5 (.int .u8)) (.pair (.int .i64) (.int .i64))) (.dat (.pair (.sl 5 (.int .u8)) (.pair (.int .i64) (.int .i64))) s0), .row 142 (.pair .str (.pair (.int .i64) (.pair (.int .i64) (.pair (.int .i64) (.pair (.int .i64) (.pair (.int .i64) (.pair (.int .i64) (.pair (.int .i64) (.int .i64))))))))) out3 none, .row 9 .str names4 none]⟩
def spec_l03List.con : Con := { ps := [(.bx 158, (.pair (.sl 5 (.int .u8)) (.pair (.int .i64) (.int .i64))))], rs := [(.own, (.sl 142 (.pair .str (.pair (.int .i64) (.pair (.int .i64) (.pair (.int .i64) (.pair (.int .i64) (.pair (.int .i64) (.pair (.int .i64) (.pair (.int .i64) (.int .i64)))))))))))], F := fun x => spec_l03List.f x }
def spec_l03List.cs : List (FuncId × Con) := [(96, spec_l01Next.con), (158, spec_l03Names.con), (161, spec_l03Draw.con), (162, spec_l03Good.con)]
def spec_l03List.E : Env := envOf tab spec_l03List.cs 1 false
def spec_l03List.keep (i : Nat) : List Nat := if i = 13 then [0, 3, 6] else if i = 4 then [0, 3, 4, 5] else []
def spec_l03List.at13 (n : Nat) (x : List Int × Int × Int) : Code × (Ex → St → Option (((List (ByteArray × Int × Int × Int × Int × Int × Int × Int × Int)) × List Int × Int × Int))) := ctx spec_l03List.E spec_l03List.keep n [.snd, .snd, .snd, .snd, .fst, .snd, .blk, .snd, .no, .snd, .yes, .snd, .blk] (codeOf Try.f145) (kEnd spec_l03List.E Try.f145 spec_l03List.con x)
def spec_l03List.LN13 (n : Nat) (x : List Int × Int × Int) : Nat → St → Option (((List (ByteArray × Int × Int × Int × Int × Int × Int × Int × Int)) × List Int × Int × Int)) := loopN (exec spec_l03List.E spec_l03List.keep n (bodyOf (spec_l03List.at13 n x).1)) (St.norm 1 (spec_l03List.keep 13)) (spec_l03List.at13 n x).2
def spec_l03List.at4 (n : Nat) (x : List Int × Int × Int) : Code × (Ex → St → Option (((List (ByteArray × Int × Int × Int × Int × Int × Int × Int × Int)) × List Int × Int × Int))) := ctx spec_l03List.E spec_l03List.keep n [.snd, .snd, .snd, .fst, .snd, .blk] (codeOf Try.f145) (kEnd spec_l03List.E Try.f145 spec_l03List.con x)
def spec_l03List.LN4 (n : Nat) (x : List Int × Int × Int) : Nat → St → Option (((List (ByteArray × Int × Int × Int × Int × Int × Int × Int × Int)) × List Int × Int × Int)) := loopN (exec spec_l03List.E spec_l03List.keep n (bodyOf (spec_l03List.at4 n x).1)) (St.norm 1 (spec_l03List.keep 4)) (spec_l03List.at4 n x).2
set_option maxRecDepth 100000 in
theorem spec_l03List.lem13 (n : Nat) (x : List Int × Int × Int) : ∀ (k : Nat) (k6 : Int) (s0 : List Int × Int × Int) (out3 : List (ByteArray × Int × Int × Int × Int × Int × Int × Int × Int)), spec_l03List.LN13 n x k (spec_l03List.st13 k6 s0 out3) = spec_l03List.l13 n k k6 s0 out3 := by
  intro k
  induction k with
  | zero => intro k6 s0 out3; rfl
  | succ k ih =>
    intro k6 s0 out3
    have h : spec_l03List.LN13 n x (k + 1) (spec_l03List.st13 k6 s0 out3) = spec_l03List.g13 (fun k6 s0 out3 => spec_l03List.LN13 n x k (spec_l03List.st13 k6 s0 out3)) k6 s0 out3 := by kernel_rfl
    rw [h]
    simp only [ih]
    rfl
set_option maxRecDepth 100000 in
theorem spec_l03List.lem4 (n : Nat) (x : List Int × Int × Int) : ∀ (k : Nat) (i5 : Int) (s0 : List Int × Int × Int) (out3 : List (ByteArray × Int × Int × Int × Int × Int × Int × Int × Int)) (names4 : List ByteArray), spec_l03List.LN4 n x k (spec_l03List.st4 i5 s0 out3 names4) = spec_l03List.l4 n k i5 s0 out3 names4 := by
  intro k
  induction k with
  | zero => intro i5 s0 out3 names4; rfl
  | succ k ih =>
    intro i5 s0 out3 names4
    have h : spec_l03List.LN4 n x (k + 1) (spec_l03List.st4 i5 s0 out3 names4) = spec_l03List.g4 (fun k6 s0 out3 => spec_l03List.LN13 n x n (spec_l03List.st13 k6 s0 out3)) (fun i5 s0 out3 names4 => spec_l03List.LN4 n x k (spec_l03List.st4 i5 s0 out3 names4)) i5 s0 out3 names4 := by kernel_rfl
    rw [h]
    simp only [ih, spec_l03List.lem13]
    rfl
set_option maxRecDepth 100000 in
theorem spec_l03List.body (n : Nat) (x : List Int × Int × Int) : bodyF spec_l03List.E spec_l03List.keep n Try.f145 spec_l03List.con x = spec_l03List.fn n x := by
  have h : bodyF spec_l03List.E spec_l03List.keep n Try.f145 spec_l03List.con x = spec_l03List.top (fun i5 s0 out3 names4 => spec_l03List.LN4 n x n (spec_l03List.st4 i5 s0 out3 names4)) x := by kernel_rfl
  rw [h]
  simp only [spec_l03List.lem4]
  rfl
set_option maxRecDepth 100000 in
theorem spec_l03List.good : Good Try.prog 145 spec_l03List.con :=
  good_of tabok (cs := spec_l03List.cs) ⟨spec_l01Next.good, spec_l03Names.good, spec_l03Draw.good, spec_l03Good.good, trivial⟩ 1 false (fn := Try.f145) Try.func145 rfl (by decide) (by simp [spec_l03List.con]) spec_l03List.keep NN (fun _ => rfl) (fun x => spec_l03List.body NN x)
end
end Go.Ev.Try

namespace Go.Ev.Try
open Go.Proofs Go.Pl
set_option linter.unusedVariables false
noncomputable section
def spec_l29For.st6 (i7 : Int) (w0 : List Int × Int × Int) (v3a : ByteArray) (v3ba : Int) (list4 : List (ByteArray × Int × Int × Int × Int × Int × Int × Int × Int)) (p5a : ByteArray) (p5ba : Int) (lines6 : List (ByteArray × Int)) (w5 : List (ByteArray × Int)) (w6 : List (ByteArray × Int)) : St := ⟨[.gone, .gone, .gone, .ptr 1 [], .ref 2, .ptr 3 [], .ref 4, .dat (.int .i64) i7, .gone, .gone, .gone, .gone, .gone, .gone, .gone, .gone, .gone, .gone, .gone, .gone, .gone, .gone, .gone, .gone, .gone, .gone, .gone, .gone, .gone, .gone, .gone, .gone, .gone, .gone, .gone, .gone, .gone, .gone, .gone, .gone, .gone, .gone, .gone, .gone], [.box 158 (.pair (.sl 5 (.int .u8)) (.pair (.int .i64) (.int .i64))) (.dat (.pair (.sl 5 (.int .u8)) (.pair (.int .i64) (.int .i64))) w0), .box 47 (.pair .str (.pair (.int .i64) (.sl 82 (.pair .str (.int .i64))))) (.pr (.dat .str v3a) (.pr (.dat (.int .i64) v3ba) (.ref 5))), .row 142 (.pair .str (.pair (.int .i64) (.pair (.int .i64) (.pair (.int .i64) (.pair (.int .i64) (.pair (.int .i64) (.pair (.int .i64) (.pair (.int .i64) (.int .i64))))))))) list4 none, .box 47 (.pair .str (.pair (.int .i64) (.sl 82 (.pair .str (.int .i64))))) (.pr (.dat .str p5a) (.pr (.dat (.int .i64) p5ba) (.ref 6))), .row 82 (.pair .str (.int .i64)) lines6 none, .row 82 (.pair .str (.int .i64)) w5 none, .row 82 (.pair .str (.int .i64)) w6 none]⟩
def spec_l29For.con : Con := { ps := [(.bx 158, (.pair (.sl 5 (.int .u8)) (.pair (.int .i64) (.int .i64))))], rs := [(.own, (.sl 142 (.pair .str (.pair (.int .i64) (.pair (.int .i64) (.pair (.int .i64) (.pair (.int .i64) (.pair (.int .i64) (.pair (.int .i64) (.pair (.int .i64) (.int .i64))))))))))), (.own, (.pair .str (.pair (.int .i64) (.sl 82 (.pair .str (.int .i64))))))], F := fun x => spec_l29For.f x }
def spec_l29For.cs : List (FuncId × Con) := [(96, spec_l01Next.con), (98, spec_l29Draw.con), (118, spec_l03Find.con), (145, spec_l03List.con)]
def spec_l29For.E : Env := envOf tab spec_l29For.cs 1 false
def spec_l29For.keep (i : Nat) : List Nat := if i = 6 then [3, 4, 5, 6, 7] else []
def spec_l29For.at6 (n : Nat) (x : List Int × Int × Int) : Code × (Ex → St → Option (((List (ByteArray × Int × Int × Int × Int × Int × Int × Int × Int)) × (ByteArray × Int × List (ByteArray × Int)) × List Int × Int × Int))) := ctx spec_l29For.E spec_l29For.keep n [.snd, .snd, .snd, .fst, .snd, .yes, .snd, .fst, .snd, .blk] (codeOf Try.f114) (kEnd spec_l29For.E Try.f114 spec_l29For.con x)
def spec_l29For.LN6 (n : Nat) (x : List Int × Int × Int) : Nat → St → Option (((List (ByteArray × Int × Int × Int × Int × Int × Int × Int × Int)) × (ByteArray × Int × List (ByteArray × Int)) × List Int × Int × Int)) := loopN (exec spec_l29For.E spec_l29For.keep n (bodyOf (spec_l29For.at6 n x).1)) (St.norm 1 (spec_l29For.keep 6)) (spec_l29For.at6 n x).2
set_option maxRecDepth 100000 in
theorem spec_l29For.lem6 (n : Nat) (x : List Int × Int × Int) : ∀ (k : Nat) (i7 : Int) (w0 : List Int × Int × Int) (v3a : ByteArray) (v3ba : Int) (list4 : List (ByteArray × Int × Int × Int × Int × Int × Int × Int × Int)) (p5a : ByteArray) (p5ba : Int) (lines6 : List (ByteArray × Int)) (w5 : List (ByteArray × Int)) (w6 : List (ByteArray × Int)), spec_l29For.LN6 n x k (spec_l29For.st6 i7 w0 v3a v3ba list4 p5a p5ba lines6 w5 w6) = spec_l29For.l6 n k i7 w0 v3a v3ba list4 p5a p5ba lines6 w5 w6 := by
  intro k
  induction k with
  | zero => intro i7 w0 v3a v3ba list4 p5a p5ba lines6 w5 w6; rfl
  | succ k ih =>
    intro i7 w0 v3a v3ba list4 p5a p5ba lines6 w5 w6
    have h : spec_l29For.LN6 n x (k + 1) (spec_l29For.st6 i7 w0 v3a v3ba list4 p5a p5ba lines6 w5 w6) = spec_l29For.g6 (fun i7 w0 v3a v3ba list4 p5a p5ba lines6 w5 w6 => spec_l29For.LN6 n x k (spec_l29For.st6 i7 w0 v3a v3ba list4 p5a p5ba lines6 w5 w6)) i7 w0 v3a v3ba list4 p5a p5ba lines6 w5 w6 := by kernel_rfl
    rw [h]
    simp only [ih]
    rfl
set_option maxRecDepth 100000 in
theorem spec_l29For.body (n : Nat) (x : List Int × Int × Int) : bodyF spec_l29For.E spec_l29For.keep n Try.f114 spec_l29For.con x = spec_l29For.fn n x := by
  have h : bodyF spec_l29For.E spec_l29For.keep n Try.f114 spec_l29For.con x = spec_l29For.top (fun i7 w0 v3a v3ba list4 p5a p5ba lines6 w5 w6 => spec_l29For.LN6 n x n (spec_l29For.st6 i7 w0 v3a v3ba list4 p5a p5ba lines6 w5 w6)) x := by kernel_rfl
  rw [h]
  simp only [spec_l29For.lem6]
  rfl
set_option maxRecDepth 100000 in
theorem spec_l29For.good : Good Try.prog 114 spec_l29For.con :=
  good_of tabok (cs := spec_l29For.cs) ⟨spec_l01Next.good, spec_l29Draw.good, spec_l03Find.good, spec_l03List.good, trivial⟩ 1 false (fn := Try.f114) Try.func114 rfl (by decide) (by simp [spec_l29For.con]) spec_l29For.keep NN (fun _ => rfl) (fun x => spec_l29For.body NN x)
end
end Go.Ev.Try

namespace Go.Ev.Try
open Go.Proofs Go.Pl
set_option linter.unusedVariables false
noncomputable section
def spec_DrawNetOfPaper.con : Con := { ps := [(.val, (.sl 5 (.int .u8)))], rs := [(.own, (.sl 142 (.pair .str (.pair (.int .i64) (.pair (.int .i64) (.pair (.int .i64) (.pair (.int .i64) (.pair (.int .i64) (.pair (.int .i64) (.pair (.int .i64) (.int .i64))))))))))), (.own, (.pair .str (.pair (.int .i64) (.sl 82 (.pair .str (.int .i64))))))], F := fun x => spec_DrawNetOfPaper.f x }
def spec_DrawNetOfPaper.cs : List (FuncId × Con) := [(93, spec_l01From.con), (114, spec_l29For.con)]
def spec_DrawNetOfPaper.E : Env := envOf tab spec_DrawNetOfPaper.cs 0 false
def spec_DrawNetOfPaper.keep (i : Nat) : List Nat := []
set_option maxRecDepth 100000 in
theorem spec_DrawNetOfPaper.body (n : Nat) (x : List Int) : bodyF spec_DrawNetOfPaper.E spec_DrawNetOfPaper.keep n Try.f54 spec_DrawNetOfPaper.con x = spec_DrawNetOfPaper.fn n x := by
  have h : bodyF spec_DrawNetOfPaper.E spec_DrawNetOfPaper.keep n Try.f54 spec_DrawNetOfPaper.con x = spec_DrawNetOfPaper.top x := by kernel_rfl
  exact h
set_option maxRecDepth 100000 in
theorem spec_DrawNetOfPaper.good : Good Try.prog 54 spec_DrawNetOfPaper.con :=
  good_of tabok (cs := spec_DrawNetOfPaper.cs) ⟨spec_l01From.good, spec_l29For.good, trivial⟩ 0 false (fn := Try.f54) Try.func54 rfl (by decide) (by simp [spec_DrawNetOfPaper.con]) spec_DrawNetOfPaper.keep NN (fun _ => rfl) (fun x => spec_DrawNetOfPaper.body NN x)
end
end Go.Ev.Try

namespace Go.Ev.Try
open Go.Proofs Go.Pl
set_option linter.unusedVariables false
noncomputable section
def impl_articleOf.st2 (code1 : ByteArray) (v7 : List (ByteArray × Int × Int × Int × Int × Int × Int × Int × Int)) (v8 : Int) (v9 : Int) : St := ⟨[.gone, .dat .str code1, .gone, .gone, .gone, .gone, .gone, .dat (.sl 142 (.pair .str (.pair (.int .i64) (.pair (.int .i64) (.pair (.int .i64) (.pair (.int .i64) (.pair (.int .i64) (.pair (.int .i64) (.pair (.int .i64) (.int .i64)))))))))) v7, .dat (.int .i64) v8, .dat (.int .i64) v9, .gone, .gone, .gone, .gone, .gone, .gone, .gone, .gone, .gone, .gone], []⟩
def impl_articleOf.con : Con := { ps := [(.val, (.sl 142 (.pair .str (.pair (.int .i64) (.pair (.int .i64) (.pair (.int .i64) (.pair (.int .i64) (.pair (.int .i64) (.pair (.int .i64) (.pair (.int .i64) (.int .i64))))))))))), (.val, .str)], rs := [(.val, (.int .i64))], F := fun x => impl_articleOf.f x.1 x.2 }
def impl_articleOf.cs : List (FuncId × Con) := []
def impl_articleOf.E : Env := envOf tab impl_articleOf.cs 0 false
def impl_articleOf.keep (i : Nat) : List Nat := if i = 2 then [1, 7, 8, 9] else []
def impl_articleOf.at2 (n : Nat) (x : (List (ByteArray × Int × Int × Int × Int × Int × Int × Int × Int)) × ByteArray) : Code × (Ex → St → Option (Int)) := ctx impl_articleOf.E impl_articleOf.keep n [.snd, .fst, .snd, .blk] (codeOf Try.f116) (kEnd impl_articleOf.E Try.f116 impl_articleOf.con x)
def impl_articleOf.LN2 (n : Nat) (x : (List (ByteArray × Int × Int × Int × Int × Int × Int × Int × Int)) × ByteArray) : Nat → St → Option (Int) := loopN (exec impl_articleOf.E impl_articleOf.keep n (bodyOf (impl_articleOf.at2 n x).1)) (St.norm 0 (impl_articleOf.keep 2)) (impl_articleOf.at2 n x).2
set_option maxRecDepth 100000 in
theorem impl_articleOf.lem2 (n : Nat) (x : (List (ByteArray × Int × Int × Int × Int × Int × Int × Int × Int)) × ByteArray) : ∀ (k : Nat) (code1 : ByteArray) (v7 : List (ByteArray × Int × Int × Int × Int × Int × Int × Int × Int)) (v8 : Int) (v9 : Int), impl_articleOf.LN2 n x k (impl_articleOf.st2 code1 v7 v8 v9) = impl_articleOf.l2 n k code1 v7 v8 v9 := by
  intro k
  induction k with
  | zero => intro code1 v7 v8 v9; rfl
  | succ k ih =>
    intro code1 v7 v8 v9
    have h : impl_articleOf.LN2 n x (k + 1) (impl_articleOf.st2 code1 v7 v8 v9) = impl_articleOf.g2 (fun code1 v7 v8 v9 => impl_articleOf.LN2 n x k (impl_articleOf.st2 code1 v7 v8 v9)) code1 v7 v8 v9 := by kernel_rfl
    rw [h]
    simp only [ih]
    rfl
set_option maxRecDepth 100000 in
theorem impl_articleOf.body (n : Nat) (x : (List (ByteArray × Int × Int × Int × Int × Int × Int × Int × Int)) × ByteArray) : bodyF impl_articleOf.E impl_articleOf.keep n Try.f116 impl_articleOf.con x = impl_articleOf.fn n x.1 x.2 := by
  have h : bodyF impl_articleOf.E impl_articleOf.keep n Try.f116 impl_articleOf.con x = impl_articleOf.top (fun code1 v7 v8 v9 => impl_articleOf.LN2 n x n (impl_articleOf.st2 code1 v7 v8 v9)) x.1 x.2 := by kernel_rfl
  rw [h]
  simp only [impl_articleOf.lem2]
  rfl
set_option maxRecDepth 100000 in
theorem impl_articleOf.good : Good Try.prog 116 impl_articleOf.con :=
  good_of tabok (cs := impl_articleOf.cs) trivial 0 false (fn := Try.f116) Try.func116 rfl (by decide) (by simp [impl_articleOf.con]) impl_articleOf.keep NN (fun _ => rfl) (fun x => impl_articleOf.body NN x)
end
end Go.Ev.Try

namespace Go.Ev.Try
open Go.Proofs Go.Pl
set_option linter.unusedVariables false
noncomputable section
def impl_IsArticle.con : Con := { ps := [(.val, (.pair .str (.pair (.int .i64) (.pair (.int .i64) (.pair (.int .i64) (.pair (.int .i64) (.pair (.int .i64) (.pair (.int .i64) (.pair (.int .i64) (.int .i64))))))))))], rs := [(.val, .bool)], F := fun x => impl_IsArticle.f x }
def impl_IsArticle.cs : List (FuncId × Con) := [(90, impl_within.con), (97, impl_IsWord.con)]
def impl_IsArticle.E : Env := envOf tab impl_IsArticle.cs 0 false
def impl_IsArticle.keep (i : Nat) : List Nat := []
set_option maxRecDepth 100000 in
theorem impl_IsArticle.body (n : Nat) (x : ByteArray × Int × Int × Int × Int × Int × Int × Int × Int) : bodyF impl_IsArticle.E impl_IsArticle.keep n Try.f163 impl_IsArticle.con x = impl_IsArticle.fn n x := by
  have h : bodyF impl_IsArticle.E impl_IsArticle.keep n Try.f163 impl_IsArticle.con x = impl_IsArticle.top x := by kernel_rfl
  exact h
set_option maxRecDepth 100000 in
theorem impl_IsArticle.good : Good Try.prog 163 impl_IsArticle.con :=
  good_of tabok (cs := impl_IsArticle.cs) ⟨impl_within.good, impl_IsWord.good, trivial⟩ 0 false (fn := Try.f163) Try.func163 rfl (by decide) (by simp [impl_IsArticle.con]) impl_IsArticle.keep NN (fun _ => rfl) (fun x => impl_IsArticle.body NN x)
end
end Go.Ev.Try

namespace Go.Ev.Try
open Go.Proofs Go.Pl
set_option linter.unusedVariables false
noncomputable section
def impl_AreArticles.st4 (list0 : List (ByteArray × Int × Int × Int × Int × Int × Int × Int × Int)) (v8 : List (ByteArray × Int × Int × Int × Int × Int × Int × Int × Int)) (v9 : Int) (v10 : Int) : St := ⟨[.dat (.sl 142 (.pair .str (.pair (.int .i64) (.pair (.int .i64) (.pair (.int .i64) (.pair (.int .i64) (.pair (.int .i64) (.pair (.int .i64) (.pair (.int .i64) (.int .i64)))))))))) list0, .gone, .gone, .gone, .gone, .gone, .gone, .gone, .dat (.sl 142 (.pair .str (.pair (.int .i64) (.pair (.int .i64) (.pair (.int .i64) (.pair (.int .i64) (.pair (.int .i64) (.pair (.int .i64) (.pair (.int .i64) (.int .i64)))))))))) v8, .dat (.int .i64) v9, .dat (.int .i64) v10, .gone, .gone, .gone, .gone, .gone, .gone, .gone, .gone, .gone, .gone, .gone, .gone, .gone, .gone, .gone, .gone, .gone, .gone, .gone, .gone, .gone, .gone, .gone], []⟩
def impl_AreArticles.con : Con := { ps := [(.val, (.sl 142 (.pair .str (.pair (.int .i64) (.pair (.int .i64) (.pair (.int .i64) (.pair (.int .i64) (.pair (.int .i64) (.pair (.int .i64) (.pair (.int .i64) (.int .i64)))))))))))], rs := [(.val, .bool)], F := fun x => impl_AreArticles.f x }
def impl_AreArticles.cs : List (FuncId × Con) := [(163, impl_IsArticle.con)]
def impl_AreArticles.E : Env := envOf tab impl_AreArticles.cs 0 false
def impl_AreArticles.keep (i : Nat) : List Nat := if i = 4 then [0, 8, 9, 10] else []
def impl_AreArticles.at4 (n : Nat) (x : List (ByteArray × Int × Int × Int × Int × Int × Int × Int × Int)) : Code × (Ex → St → Option (Bool)) := ctx impl_AreArticles.E impl_AreArticles.keep n [.snd, .snd, .fst, .snd, .blk] (codeOf Try.f146) (kEnd impl_AreArticles.E Try.f146 impl_AreArticles.con x)
def impl_AreArticles.LN4 (n : Nat) (x : List (ByteArray × Int × Int × Int × Int × Int × Int × Int × Int)) : Nat → St → Option (Bool) := loopN (exec impl_AreArticles.E impl_AreArticles.keep n (bodyOf (impl_AreArticles.at4 n x).1)) (St.norm 0 (impl_AreArticles.keep 4)) (impl_AreArticles.at4 n x).2
set_option maxRecDepth 100000 in
theorem impl_AreArticles.lem4 (n : Nat) (x : List (ByteArray × Int × Int × Int × Int × Int × Int × Int × Int)) : ∀ (k : Nat) (list0 : List (ByteArray × Int × Int × Int × Int × Int × Int × Int × Int)) (v8 : List (ByteArray × Int × Int × Int × Int × Int × Int × Int × Int)) (v9 : Int) (v10 : Int), impl_AreArticles.LN4 n x k (impl_AreArticles.st4 list0 v8 v9 v10) = impl_AreArticles.l4 n k list0 v8 v9 v10 := by
  intro k
  induction k with
  | zero => intro list0 v8 v9 v10; rfl
  | succ k ih =>
    intro list0 v8 v9 v10
    have h : impl_AreArticles.LN4 n x (k + 1) (impl_AreArticles.st4 list0 v8 v9 v10) = impl_AreArticles.g4 (fun list0 v8 v9 v10 => impl_AreArticles.LN4 n x k (impl_AreArticles.st4 list0 v8 v9 v10)) list0 v8 v9 v10 := by kernel_rfl
    rw [h]
    simp only [ih]
    rfl
set_option maxRecDepth 100000 in
theorem impl_AreArticles.body (n : Nat) (x : List (ByteArray × Int × Int × Int × Int × Int × Int × Int × Int)) : bodyF impl_AreArticles.E impl_AreArticles.keep n Try.f146 impl_AreArticles.con x = impl_AreArticles.fn n x := by
  have h : bodyF impl_AreArticles.E impl_AreArticles.keep n Try.f146 impl_AreArticles.con x = impl_AreArticles.top (fun list0 v8 v9 v10 => impl_AreArticles.LN4 n x n (impl_AreArticles.st4 list0 v8 v9 v10)) x := by kernel_rfl
  rw [h]
  simp only [impl_AreArticles.lem4]
  rfl
set_option maxRecDepth 100000 in
theorem impl_AreArticles.good : Good Try.prog 146 impl_AreArticles.con :=
  good_of tabok (cs := impl_AreArticles.cs) ⟨impl_IsArticle.good, trivial⟩ 0 false (fn := Try.f146) Try.func146 rfl (by decide) (by simp [impl_AreArticles.con]) impl_AreArticles.keep NN (fun _ => rfl) (fun x => impl_AreArticles.body NN x)
end
end Go.Ev.Try

namespace Go.Ev.Try
open Go.Proofs Go.Pl
set_option linter.unusedVariables false
noncomputable section
def impl_paperAsked.st4 (list0 : List (ByteArray × Int × Int × Int × Int × Int × Int × Int × Int)) (v16 : List (ByteArray × Int)) (v17 : Int) (v18 : Int) : St := ⟨[.dat (.sl 142 (.pair .str (.pair (.int .i64) (.pair (.int .i64) (.pair (.int .i64) (.pair (.int .i64) (.pair (.int .i64) (.pair (.int .i64) (.pair (.int .i64) (.int .i64)))))))))) list0, .gone, .gone, .gone, .gone, .gone, .gone, .gone, .gone, .gone, .gone, .gone, .gone, .gone, .gone, .gone, .dat (.sl 82 (.pair .str (.int .i64))) v16, .dat (.int .i64) v17, .dat (.int .i64) v18, .gone, .gone, .gone, .gone, .gone, .gone, .gone, .gone, .gone], []⟩
def impl_paperAsked.con : Con := { ps := [(.val, (.sl 142 (.pair .str (.pair (.int .i64) (.pair (.int .i64) (.pair (.int .i64) (.pair (.int .i64) (.pair (.int .i64) (.pair (.int .i64) (.pair (.int .i64) (.int .i64))))))))))), (.val, (.pair .str (.pair (.int .i64) (.sl 82 (.pair .str (.int .i64))))))], rs := [(.val, (.int .i64))], F := fun x => impl_paperAsked.f x.1 x.2 }
def impl_paperAsked.cs : List (FuncId × Con) := [(42, impl_IsPaper.con), (116, impl_articleOf.con), (146, impl_AreArticles.con)]
def impl_paperAsked.E : Env := envOf tab impl_paperAsked.cs 0 false
def impl_paperAsked.keep (i : Nat) : List Nat := if i = 4 then [0, 16, 17, 18] else []
def impl_paperAsked.at4 (n : Nat) (x : (List (ByteArray × Int × Int × Int × Int × Int × Int × Int × Int)) × ByteArray × Int × List (ByteArray × Int)) : Code × (Ex → St → Option (Int)) := ctx impl_paperAsked.E impl_paperAsked.keep n [.snd, .snd, .fst, .snd, .blk] (codeOf Try.f115) (kEnd impl_paperAsked.E Try.f115 impl_paperAsked.con x)
def impl_paperAsked.LN4 (n : Nat) (x : (List (ByteArray × Int × Int × Int × Int × Int × Int × Int × Int)) × ByteArray × Int × List (ByteArray × Int)) : Nat → St → Option (Int) := loopN (exec impl_paperAsked.E impl_paperAsked.keep n (bodyOf (impl_paperAsked.at4 n x).1)) (St.norm 0 (impl_paperAsked.keep 4)) (impl_paperAsked.at4 n x).2
set_option maxRecDepth 100000 in
theorem impl_paperAsked.lem4 (n : Nat) (x : (List (ByteArray × Int × Int × Int × Int × Int × Int × Int × Int)) × ByteArray × Int × List (ByteArray × Int)) : ∀ (k : Nat) (list0 : List (ByteArray × Int × Int × Int × Int × Int × Int × Int × Int)) (v16 : List (ByteArray × Int)) (v17 : Int) (v18 : Int), impl_paperAsked.LN4 n x k (impl_paperAsked.st4 list0 v16 v17 v18) = impl_paperAsked.l4 n k list0 v16 v17 v18 := by
  intro k
  induction k with
  | zero => intro list0 v16 v17 v18; rfl
  | succ k ih =>
    intro list0 v16 v17 v18
    have h : impl_paperAsked.LN4 n x (k + 1) (impl_paperAsked.st4 list0 v16 v17 v18) = impl_paperAsked.g4 (fun list0 v16 v17 v18 => impl_paperAsked.LN4 n x k (impl_paperAsked.st4 list0 v16 v17 v18)) list0 v16 v17 v18 := by kernel_rfl
    rw [h]
    simp only [ih]
    rfl
set_option maxRecDepth 100000 in
theorem impl_paperAsked.body (n : Nat) (x : (List (ByteArray × Int × Int × Int × Int × Int × Int × Int × Int)) × ByteArray × Int × List (ByteArray × Int)) : bodyF impl_paperAsked.E impl_paperAsked.keep n Try.f115 impl_paperAsked.con x = impl_paperAsked.fn n x.1 x.2 := by
  have h : bodyF impl_paperAsked.E impl_paperAsked.keep n Try.f115 impl_paperAsked.con x = impl_paperAsked.top (fun list0 v16 v17 v18 => impl_paperAsked.LN4 n x n (impl_paperAsked.st4 list0 v16 v17 v18)) x.1 x.2 := by kernel_rfl
  rw [h]
  simp only [impl_paperAsked.lem4]
  rfl
set_option maxRecDepth 100000 in
theorem impl_paperAsked.good : Good Try.prog 115 impl_paperAsked.con :=
  good_of tabok (cs := impl_paperAsked.cs) ⟨impl_IsPaper.good, impl_articleOf.good, impl_AreArticles.good, trivial⟩ 0 false (fn := Try.f115) Try.func115 rfl (by decide) (by simp [impl_paperAsked.con]) impl_paperAsked.keep NN (fun _ => rfl) (fun x => impl_paperAsked.body NN x)
end
end Go.Ev.Try

namespace Go.Ev.Try
open Go.Proofs Go.Pl
set_option linter.unusedVariables false
noncomputable section
def impl_NetOfPaper.st6 (list0 : List (ByteArray × Int × Int × Int × Int × Int × Int × Int × Int)) (sum7 : Int) (v17 : List (ByteArray × Int)) (v18 : Int) (v19 : Int) : St := ⟨[.dat (.sl 142 (.pair .str (.pair (.int .i64) (.pair (.int .i64) (.pair (.int .i64) (.pair (.int .i64) (.pair (.int .i64) (.pair (.int .i64) (.pair (.int .i64) (.int .i64)))))))))) list0, .gone, .gone, .gone, .gone, .gone, .gone, .dat (.int .i64) sum7, .gone, .gone, .gone, .gone, .gone, .gone, .gone, .gone, .gone, .dat (.sl 82 (.pair .str (.int .i64))) v17, .dat (.int .i64) v18, .dat (.int .i64) v19, .gone, .gone, .gone, .gone, .gone, .gone, .gone, .gone, .gone, .gone, .gone, .gone, .gone, .gone, .gone, .gone, .gone, .gone], []⟩
def impl_NetOfPaper.con : Con := { ps := [(.val, (.sl 142 (.pair .str (.pair (.int .i64) (.pair (.int .i64) (.pair (.int .i64) (.pair (.int .i64) (.pair (.int .i64) (.pair (.int .i64) (.pair (.int .i64) (.int .i64))))))))))), (.val, (.pair .str (.pair (.int .i64) (.sl 82 (.pair .str (.int .i64))))))], rs := [(.val, (.int .i64)), (.val, (.int .i64))], F := fun x => impl_NetOfPaper.f x.1 x.2 }
def impl_NetOfPaper.cs : List (FuncId × Con) := [(115, impl_paperAsked.con), (116, impl_articleOf.con)]
def impl_NetOfPaper.E : Env := envOf tab impl_NetOfPaper.cs 0 false
def impl_NetOfPaper.keep (i : Nat) : List Nat := if i = 6 then [0, 7, 17, 18, 19] else []
def impl_NetOfPaper.at6 (n : Nat) (x : (List (ByteArray × Int × Int × Int × Int × Int × Int × Int × Int)) × ByteArray × Int × List (ByteArray × Int)) : Code × (Ex → St → Option ((Int × Int))) := ctx impl_NetOfPaper.E impl_NetOfPaper.keep n [.snd, .snd, .snd, .fst, .snd, .blk] (codeOf Try.f55) (kEnd impl_NetOfPaper.E Try.f55 impl_NetOfPaper.con x)
def impl_NetOfPaper.LN6 (n : Nat) (x : (List (ByteArray × Int × Int × Int × Int × Int × Int × Int × Int)) × ByteArray × Int × List (ByteArray × Int)) : Nat → St → Option ((Int × Int)) := loopN (exec impl_NetOfPaper.E impl_NetOfPaper.keep n (bodyOf (impl_NetOfPaper.at6 n x).1)) (St.norm 0 (impl_NetOfPaper.keep 6)) (impl_NetOfPaper.at6 n x).2
set_option maxRecDepth 100000 in
theorem impl_NetOfPaper.lem6 (n : Nat) (x : (List (ByteArray × Int × Int × Int × Int × Int × Int × Int × Int)) × ByteArray × Int × List (ByteArray × Int)) : ∀ (k : Nat) (list0 : List (ByteArray × Int × Int × Int × Int × Int × Int × Int × Int)) (sum7 : Int) (v17 : List (ByteArray × Int)) (v18 : Int) (v19 : Int), impl_NetOfPaper.LN6 n x k (impl_NetOfPaper.st6 list0 sum7 v17 v18 v19) = impl_NetOfPaper.l6 n k list0 sum7 v17 v18 v19 := by
  intro k
  induction k with
  | zero => intro list0 sum7 v17 v18 v19; rfl
  | succ k ih =>
    intro list0 sum7 v17 v18 v19
    have h : impl_NetOfPaper.LN6 n x (k + 1) (impl_NetOfPaper.st6 list0 sum7 v17 v18 v19) = impl_NetOfPaper.g6 (fun list0 sum7 v17 v18 v19 => impl_NetOfPaper.LN6 n x k (impl_NetOfPaper.st6 list0 sum7 v17 v18 v19)) list0 sum7 v17 v18 v19 := by kernel_rfl
    rw [h]
    simp only [ih]
    rfl
set_option maxRecDepth 100000 in
theorem impl_NetOfPaper.body (n : Nat) (x : (List (ByteArray × Int × Int × Int × Int × Int × Int × Int × Int)) × ByteArray × Int × List (ByteArray × Int)) : bodyF impl_NetOfPaper.E impl_NetOfPaper.keep n Try.f55 impl_NetOfPaper.con x = impl_NetOfPaper.fn n x.1 x.2 := by
  have h : bodyF impl_NetOfPaper.E impl_NetOfPaper.keep n Try.f55 impl_NetOfPaper.con x = impl_NetOfPaper.top (fun list0 sum7 v17 v18 v19 => impl_NetOfPaper.LN6 n x n (impl_NetOfPaper.st6 list0 sum7 v17 v18 v19)) x.1 x.2 := by kernel_rfl
  rw [h]
  simp only [impl_NetOfPaper.lem6]
  rfl
set_option maxRecDepth 100000 in
theorem impl_NetOfPaper.good : Good Try.prog 55 impl_NetOfPaper.con :=
  good_of tabok (cs := impl_NetOfPaper.cs) ⟨impl_paperAsked.good, impl_articleOf.good, trivial⟩ 0 false (fn := Try.f55) Try.func55 rfl (by decide) (by simp [impl_NetOfPaper.con]) impl_NetOfPaper.keep NN (fun _ => rfl) (fun x => impl_NetOfPaper.body NN x)
end
end Go.Ev.Try

namespace Go.Ev.Try
open Go.Proofs Go.Pl
set_option linter.unusedVariables false
noncomputable section
def spec_IsArticle.con : Con := { ps := [(.val, (.pair .str (.pair (.int .i64) (.pair (.int .i64) (.pair (.int .i64) (.pair (.int .i64) (.pair (.int .i64) (.pair (.int .i64) (.pair (.int .i64) (.int .i64))))))))))], rs := [(.val, .bool)], F := fun x => spec_IsArticle.f x }
def spec_IsArticle.cs : List (FuncId × Con) := [(87, spec_l01In.con), (108, spec_IsWord.con)]
def spec_IsArticle.E : Env := envOf tab spec_IsArticle.cs 0 false
def spec_IsArticle.keep (i : Nat) : List Nat := []
set_option maxRecDepth 100000 in
theorem spec_IsArticle.body (n : Nat) (x : ByteArray × Int × Int × Int × Int × Int × Int × Int × Int) : bodyF spec_IsArticle.E spec_IsArticle.keep n Try.f164 spec_IsArticle.con x = spec_IsArticle.fn n x := by
  have h : bodyF spec_IsArticle.E spec_IsArticle.keep n Try.f164 spec_IsArticle.con x = spec_IsArticle.top x := by kernel_rfl
  exact h
set_option maxRecDepth 100000 in
theorem spec_IsArticle.good : Good Try.prog 164 spec_IsArticle.con :=
  good_of tabok (cs := spec_IsArticle.cs) ⟨spec_l01In.good, spec_IsWord.good, trivial⟩ 0 false (fn := Try.f164) Try.func164 rfl (by decide) (by simp [spec_IsArticle.con]) spec_IsArticle.keep NN (fun _ => rfl) (fun x => spec_IsArticle.body NN x)
end
end Go.Ev.Try

namespace Go.Ev.Try
open Go.Proofs Go.Pl
set_option linter.unusedVariables false
noncomputable section
def spec_AreArticles.st2 (list0 : List (ByteArray × Int × Int × Int × Int × Int × Int × Int × Int)) (i3 : Int) : St := ⟨[.dat (.sl 142 (.pair .str (.pair (.int .i64) (.pair (.int .i64) (.pair (.int .i64) (.pair (.int .i64) (.pair (.int .i64) (.pair (.int .i64) (.pair (.int .i64) (.int .i64)))))))))) list0, .gone, .gone, .dat (.int .i64) i3, .gone, .gone, .gone, .gone, .gone, .gone, .gone, .gone, .gone, .gone, .gone, .gone, .gone, .gone, .gone, .gone, .gone, .gone, .gone, .gone, .gone, .gone, .gone, .gone, .gone, .gone, .gone, .gone, .gone, .gone, .gone, .gone, .gone], []⟩
def spec_AreArticles.con : Con := { ps := [(.val, (.sl 142 (.pair .str (.pair (.int .i64) (.pair (.int .i64) (.pair (.int .i64) (.pair (.int .i64) (.pair (.int .i64) (.pair (.int .i64) (.pair (.int .i64) (.int .i64)))))))))))], rs := [(.val, .bool)], F := fun x => spec_AreArticles.f x }
def spec_AreArticles.cs : List (FuncId × Con) := [(164, spec_IsArticle.con)]
def spec_AreArticles.E : Env := envOf tab spec_AreArticles.cs 0 false
def spec_AreArticles.keep (i : Nat) : List Nat := if i = 2 then [0, 3] else []
def spec_AreArticles.at2 (n : Nat) (x : List (ByteArray × Int × Int × Int × Int × Int × Int × Int × Int)) : Code × (Ex → St → Option (Bool)) := ctx spec_AreArticles.E spec_AreArticles.keep n [.snd, .fst, .snd, .blk] (codeOf Try.f147) (kEnd spec_AreArticles.E Try.f147 spec_AreArticles.con x)
def spec_AreArticles.LN2 (n : Nat) (x : List (ByteArray × Int × Int × Int × Int × Int × Int × Int × Int)) : Nat → St → Option (Bool) := loopN (exec spec_AreArticles.E spec_AreArticles.keep n (bodyOf (spec_AreArticles.at2 n x).1)) (St.norm 0 (spec_AreArticles.keep 2)) (spec_AreArticles.at2 n x).2
set_option maxRecDepth 100000 in
theorem spec_AreArticles.lem2 (n : Nat) (x : List (ByteArray × Int × Int × Int × Int × Int × Int × Int × Int)) : ∀ (k : Nat) (list0 : List (ByteArray × Int × Int × Int × Int × Int × Int × Int × Int)) (i3 : Int), spec_AreArticles.LN2 n x k (spec_AreArticles.st2 list0 i3) = spec_AreArticles.l2 n k list0 i3 := by
  intro k
  induction k with
  | zero => intro list0 i3; rfl
  | succ k ih =>
    intro list0 i3
    have h : spec_AreArticles.LN2 n x (k + 1) (spec_AreArticles.st2 list0 i3) = spec_AreArticles.g2 (fun list0 i3 => spec_AreArticles.LN2 n x k (spec_AreArticles.st2 list0 i3)) list0 i3 := by kernel_rfl
    rw [h]
    simp only [ih]
    rfl
set_option maxRecDepth 100000 in
theorem spec_AreArticles.body (n : Nat) (x : List (ByteArray × Int × Int × Int × Int × Int × Int × Int × Int)) : bodyF spec_AreArticles.E spec_AreArticles.keep n Try.f147 spec_AreArticles.con x = spec_AreArticles.fn n x := by
  have h : bodyF spec_AreArticles.E spec_AreArticles.keep n Try.f147 spec_AreArticles.con x = spec_AreArticles.top (fun list0 i3 => spec_AreArticles.LN2 n x n (spec_AreArticles.st2 list0 i3)) x := by kernel_rfl
  rw [h]
  simp only [spec_AreArticles.lem2]
  rfl
set_option maxRecDepth 100000 in
theorem spec_AreArticles.good : Good Try.prog 147 spec_AreArticles.con :=
  good_of tabok (cs := spec_AreArticles.cs) ⟨spec_IsArticle.good, trivial⟩ 0 false (fn := Try.f147) Try.func147 rfl (by decide) (by simp [spec_AreArticles.con]) spec_AreArticles.keep NN (fun _ => rfl) (fun x => spec_AreArticles.body NN x)
end
end Go.Ev.Try

namespace Go.Ev.Try
open Go.Proofs Go.Pl
set_option linter.unusedVariables false
noncomputable section
def spec_l29True.st4 (list0 : List (ByteArray × Int × Int × Int × Int × Int × Int × Int × Int)) (i5 : Int) (p3 : ByteArray × Int × List (ByteArray × Int)) : St := ⟨[.dat (.sl 142 (.pair .str (.pair (.int .i64) (.pair (.int .i64) (.pair (.int .i64) (.pair (.int .i64) (.pair (.int .i64) (.pair (.int .i64) (.pair (.int .i64) (.int .i64)))))))))) list0, .gone, .gone, .ptr 0 [], .gone, .dat (.int .i64) i5, .gone, .gone, .gone, .gone, .gone, .gone, .gone, .gone, .gone, .gone, .gone, .gone, .gone, .gone, .gone, .gone, .gone, .gone, .gone, .gone, .gone, .gone, .gone, .gone], [.box 47 (.pair .str (.pair (.int .i64) (.sl 82 (.pair .str (.int .i64))))) (.dat (.pair .str (.pair (.int .i64) (.sl 82 (.pair .str (.int .i64))))) p3)]⟩
def spec_l29True.con : Con := { ps := [(.val, (.sl 142 (.pair .str (.pair (.int .i64) (.pair (.int .i64) (.pair (.int .i64) (.pair (.int .i64) (.pair (.int .i64) (.pair (.int .i64) (.pair (.int .i64) (.int .i64))))))))))), (.val, (.pair .str (.pair (.int .i64) (.sl 82 (.pair .str (.int .i64))))))], rs := [(.val, (.int .i64))], F := fun x => spec_l29True.f x.1 x.2 }
def spec_l29True.cs : List (FuncId × Con) := [(103, spec_IsPaper.con), (118, spec_l03Find.con), (147, spec_AreArticles.con)]
def spec_l29True.E : Env := envOf tab spec_l29True.cs 0 false
def spec_l29True.keep (i : Nat) : List Nat := if i = 4 then [0, 3, 5] else []
def spec_l29True.at4 (n : Nat) (x : (List (ByteArray × Int × Int × Int × Int × Int × Int × Int × Int)) × ByteArray × Int × List (ByteArray × Int)) : Code × (Ex → St → Option (Int)) := ctx spec_l29True.E spec_l29True.keep n [.snd, .snd, .fst, .snd, .blk] (codeOf Try.f117) (kEnd spec_l29True.E Try.f117 spec_l29True.con x)
def spec_l29True.LN4 (n : Nat) (x : (List (ByteArray × Int × Int × Int × Int × Int × Int × Int × Int)) × ByteArray × Int × List (ByteArray × Int)) : Nat → St → Option (Int) := loopN (exec spec_l29True.E spec_l29True.keep n (bodyOf (spec_l29True.at4 n x).1)) (St.norm 0 (spec_l29True.keep 4)) (spec_l29True.at4 n x).2
set_option maxRecDepth 100000 in
theorem spec_l29True.lem4 (n : Nat) (x : (List (ByteArray × Int × Int × Int × Int × Int × Int × Int × Int)) × ByteArray × Int × List (ByteArray × Int)) : ∀ (k : Nat) (list0 : List (ByteArray × Int × Int × Int × Int × Int × Int × Int × Int)) (i5 : Int) (p3 : ByteArray × Int × List (ByteArray × Int)), spec_l29True.LN4 n x k (spec_l29True.st4 list0 i5 p3) = spec_l29True.l4 n k list0 i5 p3 := by
  intro k
  induction k with
  | zero => intro list0 i5 p3; rfl
  | succ k ih =>
    intro list0 i5 p3
    have h : spec_l29True.LN4 n x (k + 1) (spec_l29True.st4 list0 i5 p3) = spec_l29True.g4 (fun list0 i5 p3 => spec_l29True.LN4 n x k (spec_l29True.st4 list0 i5 p3)) list0 i5 p3 := by kernel_rfl
    rw [h]
    simp only [ih]
    rfl
set_option maxRecDepth 100000 in
theorem spec_l29True.body (n : Nat) (x : (List (ByteArray × Int × Int × Int × Int × Int × Int × Int × Int)) × ByteArray × Int × List (ByteArray × Int)) : bodyF spec_l29True.E spec_l29True.keep n Try.f117 spec_l29True.con x = spec_l29True.fn n x.1 x.2 := by
  have h : bodyF spec_l29True.E spec_l29True.keep n Try.f117 spec_l29True.con x = spec_l29True.top (fun list0 i5 p3 => spec_l29True.LN4 n x n (spec_l29True.st4 list0 i5 p3)) x.1 x.2 := by kernel_rfl
  rw [h]
  simp only [spec_l29True.lem4]
  rfl
set_option maxRecDepth 100000 in
theorem spec_l29True.good : Good Try.prog 117 spec_l29True.con :=
  good_of tabok (cs := spec_l29True.cs) ⟨spec_IsPaper.good, spec_l03Find.good, spec_AreArticles.good, trivial⟩ 0 false (fn := Try.f117) Try.func117 rfl (by decide) (by simp [spec_l29True.con]) spec_l29True.keep NN (fun _ => rfl) (fun x => spec_l29True.body NN x)
end
end Go.Ev.Try

namespace Go.Ev.Try
open Go.Proofs Go.Pl
set_option linter.unusedVariables false
noncomputable section
def spec_NetOfPaper.st6 (list0 : List (ByteArray × Int × Int × Int × Int × Int × Int × Int × Int)) (n7 : Int) (i8 : Int) (p3 : ByteArray × Int × List (ByteArray × Int)) : St := ⟨[.dat (.sl 142 (.pair .str (.pair (.int .i64) (.pair (.int .i64) (.pair (.int .i64) (.pair (.int .i64) (.pair (.int .i64) (.pair (.int .i64) (.pair (.int .i64) (.int .i64)))))))))) list0, .gone, .gone, .ptr 0 [], .gone, .gone, .gone, .dat (.int .i64) n7, .dat (.int .i64) i8, .gone, .gone, .gone, .gone, .gone, .gone, .gone, .gone, .gone, .gone, .gone, .gone, .gone, .gone, .gone, .gone, .gone, .gone, .gone, .gone, .gone, .gone, .gone, .gone, .gone, .gone, .gone, .gone, .gone, .gone, .gone, .gone, .gone, .gone, .gone], [.box 47 (.pair .str (.pair (.int .i64) (.sl 82 (.pair .str (.int .i64))))) (.dat (.pair .str (.pair (.int .i64) (.sl 82 (.pair .str (.int .i64))))) p3)]⟩
def spec_NetOfPaper.con : Con := { ps := [(.val, (.sl 142 (.pair .str (.pair (.int .i64) (.pair (.int .i64) (.pair (.int .i64) (.pair (.int .i64) (.pair (.int .i64) (.pair (.int .i64) (.pair (.int .i64) (.int .i64))))))))))), (.val, (.pair .str (.pair (.int .i64) (.sl 82 (.pair .str (.int .i64))))))], rs := [(.val, (.int .i64)), (.val, (.int .i64))], F := fun x => spec_NetOfPaper.f x.1 x.2 }
def spec_NetOfPaper.cs : List (FuncId × Con) := [(117, spec_l29True.con), (118, spec_l03Find.con)]
def spec_NetOfPaper.E : Env := envOf tab spec_NetOfPaper.cs 0 false
def spec_NetOfPaper.keep (i : Nat) : List Nat := if i = 6 then [0, 3, 7, 8] else []
def spec_NetOfPaper.at6 (n : Nat) (x : (List (ByteArray × Int × Int × Int × Int × Int × Int × Int × Int)) × ByteArray × Int × List (ByteArray × Int)) : Code × (Ex → St → Option ((Int × Int))) := ctx spec_NetOfPaper.E spec_NetOfPaper.keep n [.snd, .snd, .snd, .snd, .fst, .snd, .blk] (codeOf Try.f56) (kEnd spec_NetOfPaper.E Try.f56 spec_NetOfPaper.con x)
def spec_NetOfPaper.LN6 (n : Nat) (x : (List (ByteArray × Int × Int × Int × Int × Int × Int × Int × Int)) × ByteArray × Int × List (ByteArray × Int)) : Nat → St → Option ((Int × Int)) := loopN (exec spec_NetOfPaper.E spec_NetOfPaper.keep n (bodyOf (spec_NetOfPaper.at6 n x).1)) (St.norm 0 (spec_NetOfPaper.keep 6)) (spec_NetOfPaper.at6 n x).2
set_option maxRecDepth 100000 in
theorem spec_NetOfPaper.lem6 (n : Nat) (x : (List (ByteArray × Int × Int × Int × Int × Int × Int × Int × Int)) × ByteArray × Int × List (ByteArray × Int)) : ∀ (k : Nat) (list0 : List (ByteArray × Int × Int × Int × Int × Int × Int × Int × Int)) (n7 : Int) (i8 : Int) (p3 : ByteArray × Int × List (ByteArray × Int)), spec_NetOfPaper.LN6 n x k (spec_NetOfPaper.st6 list0 n7 i8 p3) = spec_NetOfPaper.l6 n k list0 n7 i8 p3 := by
  intro k
  induction k with
  | zero => intro list0 n7 i8 p3; rfl
  | succ k ih =>
    intro list0 n7 i8 p3
    have h : spec_NetOfPaper.LN6 n x (k + 1) (spec_NetOfPaper.st6 list0 n7 i8 p3) = spec_NetOfPaper.g6 (fun list0 n7 i8 p3 => spec_NetOfPaper.LN6 n x k (spec_NetOfPaper.st6 list0 n7 i8 p3)) list0 n7 i8 p3 := by kernel_rfl
    rw [h]
    simp only [ih]
    rfl
set_option maxRecDepth 100000 in
theorem spec_NetOfPaper.body (n : Nat) (x : (List (ByteArray × Int × Int × Int × Int × Int × Int × Int × Int)) × ByteArray × Int × List (ByteArray × Int)) : bodyF spec_NetOfPaper.E spec_NetOfPaper.keep n Try.f56 spec_NetOfPaper.con x = spec_NetOfPaper.fn n x.1 x.2 := by
  have h : bodyF spec_NetOfPaper.E spec_NetOfPaper.keep n Try.f56 spec_NetOfPaper.con x = spec_NetOfPaper.top (fun list0 n7 i8 p3 => spec_NetOfPaper.LN6 n x n (spec_NetOfPaper.st6 list0 n7 i8 p3)) x.1 x.2 := by kernel_rfl
  rw [h]
  simp only [spec_NetOfPaper.lem6]
  rfl
set_option maxRecDepth 100000 in
theorem spec_NetOfPaper.good : Good Try.prog 56 spec_NetOfPaper.con :=
  good_of tabok (cs := spec_NetOfPaper.cs) ⟨spec_l29True.good, spec_l03Find.good, trivial⟩ 0 false (fn := Try.f56) Try.func56 rfl (by decide) (by simp [spec_NetOfPaper.con]) spec_NetOfPaper.keep NN (fun _ => rfl) (fun x => spec_NetOfPaper.body NN x)
end
end Go.Ev.Try

namespace Go.Ev.Try
open Go.Proofs Go.Pl
set_option linter.unusedVariables false
noncomputable section
def impl_AreBoxes.st4 (v8 : List (Int × Int)) (v9 : Int) (v10 : Int) : St := ⟨[.gone, .gone, .gone, .gone, .gone, .gone, .gone, .gone, .dat (.sl 79 (.pair (.int .i64) (.int .i64))) v8, .dat (.int .i64) v9, .dat (.int .i64) v10, .gone, .gone, .gone, .gone, .gone, .gone, .gone, .gone, .gone, .gone, .gone, .gone, .gone, .gone], []⟩
def impl_AreBoxes.con : Con := { ps := [(.val, (.sl 79 (.pair (.int .i64) (.int .i64))))], rs := [(.val, .bool)], F := fun x => impl_AreBoxes.f x }
def impl_AreBoxes.cs : List (FuncId × Con) := [(90, impl_within.con)]
def impl_AreBoxes.E : Env := envOf tab impl_AreBoxes.cs 0 false
def impl_AreBoxes.keep (i : Nat) : List Nat := if i = 4 then [8, 9, 10] else []
def impl_AreBoxes.at4 (n : Nat) (x : List (Int × Int)) : Code × (Ex → St → Option (Bool)) := ctx impl_AreBoxes.E impl_AreBoxes.keep n [.snd, .snd, .fst, .snd, .blk] (codeOf Try.f60) (kEnd impl_AreBoxes.E Try.f60 impl_AreBoxes.con x)
def impl_AreBoxes.LN4 (n : Nat) (x : List (Int × Int)) : Nat → St → Option (Bool) := loopN (exec impl_AreBoxes.E impl_AreBoxes.keep n (bodyOf (impl_AreBoxes.at4 n x).1)) (St.norm 0 (impl_AreBoxes.keep 4)) (impl_AreBoxes.at4 n x).2
set_option maxRecDepth 100000 in
theorem impl_AreBoxes.lem4 (n : Nat) (x : List (Int × Int)) : ∀ (k : Nat) (v8 : List (Int × Int)) (v9 : Int) (v10 : Int), impl_AreBoxes.LN4 n x k (impl_AreBoxes.st4 v8 v9 v10) = impl_AreBoxes.l4 n k v8 v9 v10 := by
  intro k
  induction k with
  | zero => intro v8 v9 v10; rfl
  | succ k ih =>
    intro v8 v9 v10
    have h : impl_AreBoxes.LN4 n x (k + 1) (impl_AreBoxes.st4 v8 v9 v10) = impl_AreBoxes.g4 (fun v8 v9 v10 => impl_AreBoxes.LN4 n x k (impl_AreBoxes.st4 v8 v9 v10)) v8 v9 v10 := by kernel_rfl
    rw [h]
    simp only [ih]
    rfl
set_option maxRecDepth 100000 in
theorem impl_AreBoxes.body (n : Nat) (x : List (Int × Int)) : bodyF impl_AreBoxes.E impl_AreBoxes.keep n Try.f60 impl_AreBoxes.con x = impl_AreBoxes.fn n x := by
  have h : bodyF impl_AreBoxes.E impl_AreBoxes.keep n Try.f60 impl_AreBoxes.con x = impl_AreBoxes.top (fun v8 v9 v10 => impl_AreBoxes.LN4 n x n (impl_AreBoxes.st4 v8 v9 v10)) x := by kernel_rfl
  rw [h]
  simp only [impl_AreBoxes.lem4]
  rfl
set_option maxRecDepth 100000 in
theorem impl_AreBoxes.good : Good Try.prog 60 impl_AreBoxes.con :=
  good_of tabok (cs := impl_AreBoxes.cs) ⟨impl_within.good, trivial⟩ 0 false (fn := Try.f60) Try.func60 rfl (by decide) (by simp [impl_AreBoxes.con]) impl_AreBoxes.keep NN (fun _ => rfl) (fun x => impl_AreBoxes.body NN x)
end
end Go.Ev.Try

namespace Go.Ev.Try
open Go.Proofs Go.Pl
set_option linter.unusedVariables false
noncomputable section
def impl_BoxesOf.st6 (list0 : List (ByteArray × Int × Int × Int × Int × Int × Int × Int × Int)) (v18 : List (ByteArray × Int)) (v19 : Int) (v20 : Int) (out7 : List (Int × Int)) : St := ⟨[.dat (.sl 142 (.pair .str (.pair (.int .i64) (.pair (.int .i64) (.pair (.int .i64) (.pair (.int .i64) (.pair (.int .i64) (.pair (.int .i64) (.pair (.int .i64) (.int .i64)))))))))) list0, .gone, .gone, .gone, .gone, .gone, .gone, .ref 0, .gone, .gone, .gone, .gone, .gone, .gone, .gone, .gone, .gone, .gone, .dat (.sl 82 (.pair .str (.int .i64))) v18, .dat (.int .i64) v19, .dat (.int .i64) v20, .gone, .gone, .gone, .gone, .gone, .gone, .gone, .gone, .gone, .gone, .gone, .gone, .gone, .gone, .gone, .gone, .gone, .gone, .gone, .gone, .gone, .gone, .gone, .gone, .gone, .gone], [.row 79 (.pair (.int .i64) (.int .i64)) out7 none]⟩
def impl_BoxesOf.con : Con := { ps := [(.val, (.sl 142 (.pair .str (.pair (.int .i64) (.pair (.int .i64) (.pair (.int .i64) (.pair (.int .i64) (.pair (.int .i64) (.pair (.int .i64) (.pair (.int .i64) (.int .i64))))))))))), (.val, (.pair .str (.pair (.int .i64) (.sl 82 (.pair .str (.int .i64))))))], rs := [(.own, (.sl 79 (.pair (.int .i64) (.int .i64)))), (.own, (.int .i64))], F := fun x => impl_BoxesOf.f x.1 x.2 }
def impl_BoxesOf.cs : List (FuncId × Con) := [(60, impl_AreBoxes.con), (115, impl_paperAsked.con), (116, impl_articleOf.con)]
def impl_BoxesOf.E : Env := envOf tab impl_BoxesOf.cs 0 false
def impl_BoxesOf.keep (i : Nat) : List Nat := if i = 6 then [0, 7, 18, 19, 20] else []
def impl_BoxesOf.at6 (n : Nat) (x : (List (ByteArray × Int × Int × Int × Int × Int × Int × Int × Int)) × ByteArray × Int × List (ByteArray × Int)) : Code × (Ex → St → Option (((List (Int × Int)) × Int))) := ctx impl_BoxesOf.E impl_BoxesOf.keep n [.snd, .snd, .snd, .fst, .snd, .blk] (codeOf Try.f57) (kEnd impl_BoxesOf.E Try.f57 impl_BoxesOf.con x)
def impl_BoxesOf.LN6 (n : Nat) (x : (List (ByteArray × Int × Int × Int × Int × Int × Int × Int × Int)) × ByteArray × Int × List (ByteArray × Int)) : Nat → St → Option (((List (Int × Int)) × Int)) := loopN (exec impl_BoxesOf.E impl_BoxesOf.keep n (bodyOf (impl_BoxesOf.at6 n x).1)) (St.norm 0 (impl_BoxesOf.keep 6)) (impl_BoxesOf.at6 n x).2
set_option maxRecDepth 100000 in
theorem impl_BoxesOf.lem6 (n : Nat) (x : (List (ByteArray × Int × Int × Int × Int × Int × Int × Int × Int)) × ByteArray × Int × List (ByteArray × Int)) : ∀ (k : Nat) (list0 : List (ByteArray × Int × Int × Int × Int × Int × Int × Int × Int)) (v18 : List (ByteArray × Int)) (v19 : Int) (v20 : Int) (out7 : List (Int × Int)), impl_BoxesOf.LN6 n x k (impl_BoxesOf.st6 list0 v18 v19 v20 out7) = impl_BoxesOf.l6 n k list0 v18 v19 v20 out7 := by
  intro k
  induction k with
  | zero => intro list0 v18 v19 v20 out7; rfl
  | succ k ih =>
    intro list0 v18 v19 v20 out7
    have h : impl_BoxesOf.LN6 n x (k + 1) (impl_BoxesOf.st6 list0 v18 v19 v20 out7) = impl_BoxesOf.g6 (fun list0 v18 v19 v20 out7 => impl_BoxesOf.LN6 n x k (impl_BoxesOf.st6 list0 v18 v19 v20 out7)) list0 v18 v19 v20 out7 := by kernel_rfl
    rw [h]
    simp only [ih]
    rfl
set_option maxRecDepth 100000 in
theorem impl_BoxesOf.body (n : Nat) (x : (List (ByteArray × Int × Int × Int × Int × Int × Int × Int × Int)) × ByteArray × Int × List (ByteArray × Int)) : bodyF impl_BoxesOf.E impl_BoxesOf.keep n Try.f57 impl_BoxesOf.con x = impl_BoxesOf.fn n x.1 x.2 := by
  have h : bodyF impl_BoxesOf.E impl_BoxesOf.keep n Try.f57 impl_BoxesOf.con x = impl_BoxesOf.top (fun list0 v18 v19 v20 out7 => impl_BoxesOf.LN6 n x n (impl_BoxesOf.st6 list0 v18 v19 v20 out7)) x.1 x.2 := by kernel_rfl
  rw [h]
  simp only [impl_BoxesOf.lem6]
  rfl
set_option maxRecDepth 100000 in
theorem impl_BoxesOf.good : Good Try.prog 57 impl_BoxesOf.con :=
  good_of tabok (cs := impl_BoxesOf.cs) ⟨impl_AreBoxes.good, impl_paperAsked.good, impl_articleOf.good, trivial⟩ 0 false (fn := Try.f57) Try.func57 rfl (by decide) (by simp [impl_BoxesOf.con]) impl_BoxesOf.keep NN (fun _ => rfl) (fun x => impl_BoxesOf.body NN x)
end
end Go.Ev.Try

namespace Go.Ev.Try
open Go.Proofs Go.Pl
set_option linter.unusedVariables false
noncomputable section
def spec_AreBoxes.st2 (list0 : List (Int × Int)) (i3 : Int) : St := ⟨[.dat (.sl 79 (.pair (.int .i64) (.int .i64))) list0, .gone, .gone, .dat (.int .i64) i3, .gone, .gone, .gone, .gone, .gone, .gone, .gone, .gone, .gone, .gone, .gone, .gone, .gone, .gone, .gone, .gone, .gone, .gone, .gone, .gone, .gone, .gone, .gone, .gone, .gone], []⟩
def spec_AreBoxes.con : Con := { ps := [(.val, (.sl 79 (.pair (.int .i64) (.int .i64))))], rs := [(.val, .bool)], F := fun x => spec_AreBoxes.f x }
def spec_AreBoxes.cs : List (FuncId × Con) := [(87, spec_l01In.con)]
def spec_AreBoxes.E : Env := envOf tab spec_AreBoxes.cs 0 false
def spec_AreBoxes.keep (i : Nat) : List Nat := if i = 2 then [0, 3] else []
def spec_AreBoxes.at2 (n : Nat) (x : List (Int × Int)) : Code × (Ex → St → Option (Bool)) := ctx spec_AreBoxes.E spec_AreBoxes.keep n [.snd, .fst, .snd, .blk] (codeOf Try.f119) (kEnd spec_AreBoxes.E Try.f119 spec_AreBoxes.con x)
def spec_AreBoxes.LN2 (n : Nat) (x : List (Int × Int)) : Nat → St → Option (Bool) := loopN (exec spec_AreBoxes.E spec_AreBoxes.keep n (bodyOf (spec_AreBoxes.at2 n x).1)) (St.norm 0 (spec_AreBoxes.keep 2)) (spec_AreBoxes.at2 n x).2
set_option maxRecDepth 100000 in
theorem spec_AreBoxes.lem2 (n : Nat) (x : List (Int × Int)) : ∀ (k : Nat) (list0 : List (Int × Int)) (i3 : Int), spec_AreBoxes.LN2 n x k (spec_AreBoxes.st2 list0 i3) = spec_AreBoxes.l2 n k list0 i3 := by
  intro k
  induction k with
  | zero => intro list0 i3; rfl
  | succ k ih =>
    intro list0 i3
    have h : spec_AreBoxes.LN2 n x (k + 1) (spec_AreBoxes.st2 list0 i3) = spec_AreBoxes.g2 (fun list0 i3 => spec_AreBoxes.LN2 n x k (spec_AreBoxes.st2 list0 i3)) list0 i3 := by kernel_rfl
    rw [h]
    simp only [ih]
    rfl
set_option maxRecDepth 100000 in
theorem spec_AreBoxes.body (n : Nat) (x : List (Int × Int)) : bodyF spec_AreBoxes.E spec_AreBoxes.keep n Try.f119 spec_AreBoxes.con x = spec_AreBoxes.fn n x := by
  have h : bodyF spec_AreBoxes.E spec_AreBoxes.keep n Try.f119 spec_AreBoxes.con x = spec_AreBoxes.top (fun list0 i3 => spec_AreBoxes.LN2 n x n (spec_AreBoxes.st2 list0 i3)) x := by kernel_rfl
  rw [h]
  simp only [spec_AreBoxes.lem2]
  rfl
set_option maxRecDepth 100000 in
theorem spec_AreBoxes.good : Good Try.prog 119 spec_AreBoxes.con :=
  good_of tabok (cs := spec_AreBoxes.cs) ⟨spec_l01In.good, trivial⟩ 0 false (fn := Try.f119) Try.func119 rfl (by decide) (by simp [spec_AreBoxes.con]) spec_AreBoxes.keep NN (fun _ => rfl) (fun x => spec_AreBoxes.body NN x)
end
end Go.Ev.Try

namespace Go.Ev.Try
open Go.Proofs Go.Pl
set_option linter.unusedVariables false
noncomputable section
def spec_BoxesOf.st6 (list0 : List (ByteArray × Int × Int × Int × Int × Int × Int × Int × Int)) (i8 : Int) (p3 : ByteArray × Int × List (ByteArray × Int)) (out7 : List (Int × Int)) : St := ⟨[.dat (.sl 142 (.pair .str (.pair (.int .i64) (.pair (.int .i64) (.pair (.int .i64) (.pair (.int .i64) (.pair (.int .i64) (.pair (.int .i64) (.pair (.int .i64) (.int .i64)))))))))) list0, .gone, .gone, .ptr 0 [], .gone, .gone, .gone, .ref 1, .dat (.int .i64) i8, .gone, .gone, .gone, .gone, .gone, .gone, .gone, .gone, .gone, .gone, .gone, .gone, .gone, .gone, .gone, .gone, .gone, .gone, .gone, .gone, .gone, .gone, .gone, .gone, .gone, .gone, .gone, .gone, .gone, .gone, .gone, .gone, .gone, .gone, .gone, .gone, .gone, .gone, .gone, .gone, .gone, .gone, .gone, .gone, .gone], [.box 47 (.pair .str (.pair (.int .i64) (.sl 82 (.pair .str (.int .i64))))) (.dat (.pair .str (.pair (.int .i64) (.sl 82 (.pair .str (.int .i64))))) p3), .row 79 (.pair (.int .i64) (.int .i64)) out7 none]⟩
def spec_BoxesOf.con : Con := { ps := [(.val, (.sl 142 (.pair .str (.pair (.int .i64) (.pair (.int .i64) (.pair (.int .i64) (.pair (.int .i64) (.pair (.int .i64) (.pair (.int .i64) (.pair (.int .i64) (.int .i64))))))))))), (.val, (.pair .str (.pair (.int .i64) (.sl 82 (.pair .str (.int .i64))))))], rs := [(.own, (.sl 79 (.pair (.int .i64) (.int .i64)))), (.own, (.int .i64))], F := fun x => spec_BoxesOf.f x.1 x.2 }
def spec_BoxesOf.cs : List (FuncId × Con) := [(117, spec_l29True.con), (118, spec_l03Find.con), (119, spec_AreBoxes.con)]
def spec_BoxesOf.E : Env := envOf tab spec_BoxesOf.cs 0 false
def spec_BoxesOf.keep (i : Nat) : List Nat := if i = 6 then [0, 3, 7, 8] else []
def spec_BoxesOf.at6 (n : Nat) (x : (List (ByteArray × Int × Int × Int × Int × Int × Int × Int × Int)) × ByteArray × Int × List (ByteArray × Int)) : Code × (Ex → St → Option (((List (Int × Int)) × Int))) := ctx spec_BoxesOf.E spec_BoxesOf.keep n [.snd, .snd, .snd, .snd, .fst, .snd, .blk] (codeOf Try.f58) (kEnd spec_BoxesOf.E Try.f58 spec_BoxesOf.con x)
def spec_BoxesOf.LN6 (n : Nat) (x : (List (ByteArray × Int × Int × Int × Int × Int × Int × Int × Int)) × ByteArray × Int × List (ByteArray × Int)) : Nat → St → Option (((List (Int × Int)) × Int)) := loopN (exec spec_BoxesOf.E spec_BoxesOf.keep n (bodyOf (spec_BoxesOf.at6 n x).1)) (St.norm 0 (spec_BoxesOf.keep 6)) (spec_BoxesOf.at6 n x).2
set_option maxRecDepth 100000 in
theorem spec_BoxesOf.lem6 (n : Nat) (x : (List (ByteArray × Int × Int × Int × Int × Int × Int × Int × Int)) × ByteArray × Int × List (ByteArray × Int)) : ∀ (k : Nat) (list0 : List (ByteArray × Int × Int × Int × Int × Int × Int × Int × Int)) (i8 : Int) (p3 : ByteArray × Int × List (ByteArray × Int)) (out7 : List (Int × Int)), spec_BoxesOf.LN6 n x k (spec_BoxesOf.st6 list0 i8 p3 out7) = spec_BoxesOf.l6 n k list0 i8 p3 out7 := by
  intro k
  induction k with
  | zero => intro list0 i8 p3 out7; rfl
  | succ k ih =>
    intro list0 i8 p3 out7
    have h : spec_BoxesOf.LN6 n x (k + 1) (spec_BoxesOf.st6 list0 i8 p3 out7) = spec_BoxesOf.g6 (fun list0 i8 p3 out7 => spec_BoxesOf.LN6 n x k (spec_BoxesOf.st6 list0 i8 p3 out7)) list0 i8 p3 out7 := by kernel_rfl
    rw [h]
    simp only [ih]
    rfl
set_option maxRecDepth 100000 in
theorem spec_BoxesOf.body (n : Nat) (x : (List (ByteArray × Int × Int × Int × Int × Int × Int × Int × Int)) × ByteArray × Int × List (ByteArray × Int)) : bodyF spec_BoxesOf.E spec_BoxesOf.keep n Try.f58 spec_BoxesOf.con x = spec_BoxesOf.fn n x.1 x.2 := by
  have h : bodyF spec_BoxesOf.E spec_BoxesOf.keep n Try.f58 spec_BoxesOf.con x = spec_BoxesOf.top (fun list0 i8 p3 out7 => spec_BoxesOf.LN6 n x n (spec_BoxesOf.st6 list0 i8 p3 out7)) x.1 x.2 := by kernel_rfl
  rw [h]
  simp only [spec_BoxesOf.lem6]
  rfl
set_option maxRecDepth 100000 in
theorem spec_BoxesOf.good : Good Try.prog 58 spec_BoxesOf.con :=
  good_of tabok (cs := spec_BoxesOf.cs) ⟨spec_l29True.good, spec_l03Find.good, spec_AreBoxes.good, trivial⟩ 0 false (fn := Try.f58) Try.func58 rfl (by decide) (by simp [spec_BoxesOf.con]) spec_BoxesOf.keep NN (fun _ => rfl) (fun x => spec_BoxesOf.body NN x)
end
end Go.Ev.Try

namespace Go.Ev.Try
open Go.Proofs Go.Pl
set_option linter.unusedVariables false
noncomputable section
def laws_likeBoxes.st4 (a0 : List (Int × Int)) (b1 : List (Int × Int)) (i5 : Int) : St := ⟨[.dat (.sl 79 (.pair (.int .i64) (.int .i64))) a0, .dat (.sl 79 (.pair (.int .i64) (.int .i64))) b1, .gone, .gone, .gone, .dat (.int .i64) i5, .gone, .gone, .gone, .gone, .gone, .gone, .gone, .gone, .gone, .gone, .gone, .gone, .gone, .gone, .gone, .gone, .gone, .gone, .gone, .gone], []⟩
def laws_likeBoxes.con : Con := { ps := [(.val, (.sl 79 (.pair (.int .i64) (.int .i64)))), (.val, (.sl 79 (.pair (.int .i64) (.int .i64))))], rs := [(.val, .bool)], F := fun x => laws_likeBoxes.f x.1 x.2 }
def laws_likeBoxes.cs : List (FuncId × Con) := []
def laws_likeBoxes.E : Env := envOf tab laws_likeBoxes.cs 0 false
def laws_likeBoxes.keep (i : Nat) : List Nat := if i = 4 then [0, 1, 5] else []
def laws_likeBoxes.at4 (n : Nat) (x : (List (Int × Int)) × List (Int × Int)) : Code × (Ex → St → Option (Bool)) := ctx laws_likeBoxes.E laws_likeBoxes.keep n [.snd, .snd, .fst, .snd, .blk] (codeOf Try.f59) (kEnd laws_likeBoxes.E Try.f59 laws_likeBoxes.con x)
def laws_likeBoxes.LN4 (n : Nat) (x : (List (Int × Int)) × List (Int × Int)) : Nat → St → Option (Bool) := loopN (exec laws_likeBoxes.E laws_likeBoxes.keep n (bodyOf (laws_likeBoxes.at4 n x).1)) (St.norm 0 (laws_likeBoxes.keep 4)) (laws_likeBoxes.at4 n x).2
set_option maxRecDepth 100000 in
theorem laws_likeBoxes.lem4 (n : Nat) (x : (List (Int × Int)) × List (Int × Int)) : ∀ (k : Nat) (a0 : List (Int × Int)) (b1 : List (Int × Int)) (i5 : Int), laws_likeBoxes.LN4 n x k (laws_likeBoxes.st4 a0 b1 i5) = laws_likeBoxes.l4 n k a0 b1 i5 := by
  intro k
  induction k with
  | zero => intro a0 b1 i5; rfl
  | succ k ih =>
    intro a0 b1 i5
    have h : laws_likeBoxes.LN4 n x (k + 1) (laws_likeBoxes.st4 a0 b1 i5) = laws_likeBoxes.g4 (fun a0 b1 i5 => laws_likeBoxes.LN4 n x k (laws_likeBoxes.st4 a0 b1 i5)) a0 b1 i5 := by kernel_rfl
    rw [h]
    simp only [ih]
    rfl
set_option maxRecDepth 100000 in
theorem laws_likeBoxes.body (n : Nat) (x : (List (Int × Int)) × List (Int × Int)) : bodyF laws_likeBoxes.E laws_likeBoxes.keep n Try.f59 laws_likeBoxes.con x = laws_likeBoxes.fn n x.1 x.2 := by
  have h : bodyF laws_likeBoxes.E laws_likeBoxes.keep n Try.f59 laws_likeBoxes.con x = laws_likeBoxes.top (fun a0 b1 i5 => laws_likeBoxes.LN4 n x n (laws_likeBoxes.st4 a0 b1 i5)) x.1 x.2 := by kernel_rfl
  rw [h]
  simp only [laws_likeBoxes.lem4]
  rfl
set_option maxRecDepth 100000 in
theorem laws_likeBoxes.good : Good Try.prog 59 laws_likeBoxes.con :=
  good_of tabok (cs := laws_likeBoxes.cs) trivial 0 false (fn := Try.f59) Try.func59 rfl (by decide) (by simp [laws_likeBoxes.con]) laws_likeBoxes.keep NN (fun _ => rfl) (fun x => laws_likeBoxes.body NN x)
end
end Go.Ev.Try
