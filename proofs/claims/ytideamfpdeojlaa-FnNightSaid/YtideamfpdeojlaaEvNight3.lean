/- Part 3 of what the law FnNight stands on: an evaluator of the model's code, proved sound; the functions as plain texts; their contracts. -/
import Derived.Test.YtideamfpdeojlaaChecked
import Derived.Test.YtideamfpdeojlaaProg
import Derived.Test.YtideamfpdeojlaaRows
import Derived.Below
import Derived.Calls
import Derived.Carry
import Derived.ChangeArms
import Derived.ChangeKeysEq
import Derived.ChangeOld
import Derived.Deep.Quiet
import Derived.KernelRfl
import Derived.Laws.Append
import Derived.Laws.BytesString
import Derived.Laws.MakeOwn
import Derived.Laws.Strings
import Derived.Laws.StructEq
import Derived.OpenShut
import Derived.OrdersHeld
import Derived.ProofKit
import Derived.ShutString
import Derived.SizedLaws
import Derived.Tactics
import Derived.WalkKit
import Derived.WideShapes
import Derived.Test.YtideamfpdeojlaaEvNight2
namespace Go.Ev.Try
open Go.Proofs Go.Pl
set_option linter.unusedVariables false
noncomputable section
def impl_firedTicks.st1000019 (times0 : List Int) (moves2 : List (Int × ByteArray × Int)) (zones3 : List ByteArray) (last10 : Int) (out9 : List Int) (d13a : List (Int × Int)) (d13ba : Int) (d13bba : Int) (d13bbba : Bool × Bool × Bool × Bool × Bool × Int) (w2 : List Int) : St := ⟨[.dat (.sl 2 (.int .i64)) times0, .gone, .dat (.sl 148 (.pair (.int .i64) (.pair .str (.int .i64)))) moves2, .dat (.sl 9 .str) zones3, .gone, .gone, .gone, .gone, .gone, .ref 0, .dat (.int .i64) last10, .gone, .gone, .ptr 1 [], .gone, .gone, .gone, .gone, .gone, .gone, .gone, .gone, .gone, .gone, .gone, .gone, .gone, .gone, .gone, .gone, .gone, .gone, .gone, .gone, .gone, .gone, .gone, .gone, .gone, .gone, .gone, .gone, .gone, .gone, .gone, .gone, .gone, .gone, .gone, .gone, .gone, .gone, .gone, .gone, .gone, .gone, .gone, .gone, .gone, .gone, .gone, .gone, .gone, .gone, .gone, .gone, .gone, .gone, .gone, .gone, .gone, .gone, .gone, .gone, .gone, .gone, .gone, .gone, .gone, .gone, .gone, .gone, .gone, .gone, .gone], [.row 2 (.int .i64) out9 none, .box 178 (.pair (.sl 153 (.pair (.int .i64) (.int .i64))) (.pair (.int .i64) (.pair (.int .i64) (.pair (.pair .bool (.pair .bool (.pair .bool (.pair .bool (.pair .bool (.int .i64)))))) (.sl 2 (.int .i64)))))) (.pr (.dat (.sl 153 (.pair (.int .i64) (.int .i64))) d13a) (.pr (.dat (.int .i64) d13ba) (.pr (.dat (.int .i64) d13bba) (.pr (.dat (.pair .bool (.pair .bool (.pair .bool (.pair .bool (.pair .bool (.int .i64)))))) d13bbba) (.ref 2))))), .row 2 (.int .i64) w2 none]⟩
def impl_firedTicks.st14 (times0 : List Int) (moves2 : List (Int × ByteArray × Int)) (zones3 : List ByteArray) (last10 : Int) (v50 : List Int) (v51 : Int) (v52 : Int) (out9 : List Int) (d13a : List (Int × Int)) (d13ba : Int) (d13bba : Int) (d13bbba : Bool × Bool × Bool × Bool × Bool × Int) (w2 : List Int) : St := ⟨[.dat (.sl 2 (.int .i64)) times0, .gone, .dat (.sl 148 (.pair (.int .i64) (.pair .str (.int .i64)))) moves2, .dat (.sl 9 .str) zones3, .gone, .gone, .gone, .gone, .gone, .ref 0, .dat (.int .i64) last10, .gone, .gone, .ptr 1 [], .gone, .gone, .gone, .gone, .gone, .gone, .gone, .gone, .gone, .gone, .gone, .gone, .gone, .gone, .gone, .gone, .gone, .gone, .gone, .gone, .gone, .gone, .gone, .gone, .gone, .gone, .gone, .gone, .gone, .gone, .gone, .gone, .gone, .gone, .gone, .gone, .dat (.sl 2 (.int .i64)) v50, .dat (.int .i64) v51, .dat (.int .i64) v52, .gone, .gone, .gone, .gone, .gone, .gone, .gone, .gone, .gone, .gone, .gone, .gone, .gone, .gone, .gone, .gone, .gone, .gone, .gone, .gone, .gone, .gone, .gone, .gone, .gone, .gone, .gone, .gone, .gone, .gone, .gone, .gone], [.row 2 (.int .i64) out9 none, .box 178 (.pair (.sl 153 (.pair (.int .i64) (.int .i64))) (.pair (.int .i64) (.pair (.int .i64) (.pair (.pair .bool (.pair .bool (.pair .bool (.pair .bool (.pair .bool (.int .i64)))))) (.sl 2 (.int .i64)))))) (.pr (.dat (.sl 153 (.pair (.int .i64) (.int .i64))) d13a) (.pr (.dat (.int .i64) d13ba) (.pr (.dat (.int .i64) d13bba) (.pr (.dat (.pair .bool (.pair .bool (.pair .bool (.pair .bool (.pair .bool (.int .i64)))))) d13bbba) (.ref 2))))), .row 2 (.int .i64) w2 none]⟩
def impl_firedTicks.st1000012 (times0 : List Int) (moves2 : List (Int × ByteArray × Int)) (zones3 : List ByteArray) (last10 : Int) (out9 : List Int) (d13a : List (Int × Int)) (d13ba : Int) (d13bba : Int) (d13bbba : Bool × Bool × Bool × Bool × Bool × Int) (w2 : List Int) : St := ⟨[.dat (.sl 2 (.int .i64)) times0, .gone, .dat (.sl 148 (.pair (.int .i64) (.pair .str (.int .i64)))) moves2, .dat (.sl 9 .str) zones3, .gone, .gone, .gone, .gone, .gone, .ref 0, .dat (.int .i64) last10, .gone, .gone, .ptr 1 [], .gone, .gone, .gone, .gone, .gone, .gone, .gone, .gone, .gone, .gone, .gone, .gone, .gone, .gone, .gone, .gone, .gone, .gone, .gone, .gone, .gone, .gone, .gone, .gone, .gone, .gone, .gone, .gone, .gone, .gone, .gone, .gone, .gone, .gone, .gone, .gone, .gone, .gone, .gone, .gone, .gone, .gone, .gone, .gone, .gone, .gone, .gone, .gone, .gone, .gone, .gone, .gone, .gone, .gone, .gone, .gone, .gone, .gone, .gone, .gone, .gone, .gone, .gone, .gone, .gone, .gone, .gone, .gone, .gone, .gone, .gone], [.row 2 (.int .i64) out9 none, .box 178 (.pair (.sl 153 (.pair (.int .i64) (.int .i64))) (.pair (.int .i64) (.pair (.int .i64) (.pair (.pair .bool (.pair .bool (.pair .bool (.pair .bool (.pair .bool (.int .i64)))))) (.sl 2 (.int .i64)))))) (.pr (.dat (.sl 153 (.pair (.int .i64) (.int .i64))) d13a) (.pr (.dat (.int .i64) d13ba) (.pr (.dat (.int .i64) d13bba) (.pr (.dat (.pair .bool (.pair .bool (.pair .bool (.pair .bool (.pair .bool (.int .i64)))))) d13bbba) (.ref 2))))), .row 2 (.int .i64) w2 none]⟩
def impl_firedTicks.st120000001 (w0 : List Int) (d0a : List (Int × Int)) (d0ba : Int) (d0bba : Int) (d0bbba : Bool × Bool × Bool × Bool × Bool × Int) (w2' : List Int) : St := ⟨[.ptr 1 [], .gone, .gone, .gone, .gone, .gone, .gone, .gone, .gone, .gone, .gone, .gone, .gone, .gone, .gone, .gone, .gone, .gone, .gone, .gone, .gone, .gone, .gone, .gone, .gone, .gone, .gone, .gone, .gone, .gone, .gone, .gone, .gone, .gone, .gone, .gone, .gone, .gone, .gone, .gone, .gone, .gone, .gone, .gone, .gone, .gone, .gone, .gone, .gone, .gone, .gone, .gone, .gone, .gone, .gone, .gone, .gone, .gone, .gone, .gone, .gone, .gone, .gone, .gone, .gone, .gone, .gone, .gone, .gone, .gone, .gone, .gone, .gone, .gone, .gone, .gone, .gone], [.row 2 (.int .i64) w0 none, .box 178 (.pair (.sl 153 (.pair (.int .i64) (.int .i64))) (.pair (.int .i64) (.pair (.int .i64) (.pair (.pair .bool (.pair .bool (.pair .bool (.pair .bool (.pair .bool (.int .i64)))))) (.sl 2 (.int .i64)))))) (.pr (.dat (.sl 153 (.pair (.int .i64) (.int .i64))) d0a) (.pr (.dat (.int .i64) d0ba) (.pr (.dat (.int .i64) d0bba) (.pr (.dat (.pair .bool (.pair .bool (.pair .bool (.pair .bool (.pair .bool (.int .i64)))))) d0bbba) (.ref 2))))), .row 2 (.int .i64) w2' none]⟩
def impl_firedTicks.tr0 (L120000001 : List Int → (List (Int × ByteArray × Int)) → List ByteArray → Int → List Int → (List (Int × Int)) → Int → Int → (Bool × Bool × Bool × Bool × Bool × Int) → List Int → List Int → (List (Int × Int)) → Int → Int → (Bool × Bool × Bool × Bool × Bool × Int) → List Int → Option (List Int)) (times0 : List Int) (moves2 : List (Int × ByteArray × Int)) (zones3 : List ByteArray) (last10 : Int) (out9 : List Int) (d13a : List (Int × Int)) (d13ba : Int) (d13bba : Int) (d13bbba : Bool × Bool × Bool × Bool × Bool × Int) (w2 : List Int) (w0 : List Int) (d0a : List (Int × Int)) (d0ba : Int) (d0bba : Int) (d0bbba : Bool × Bool × Bool × Bool × Bool × Int) (w2' : List Int) : Option (List Int) :=
  if w2'.length + ([d0ba]).length < room 8 then
    L120000001 times0 moves2 zones3 last10 out9 d13a d13ba d13bba d13bbba w2 w0 d0a (IntKind.i64.wrap (d0ba + 1)) d0bba d0bbba (w2' ++ ([d0ba]))
  else
    none
def impl_firedTicks.tr1 (L120000001 : List Int → (List (Int × ByteArray × Int)) → List ByteArray → Int → List Int → (List (Int × Int)) → Int → Int → (Bool × Bool × Bool × Bool × Bool × Int) → List Int → List Int → (List (Int × Int)) → Int → Int → (Bool × Bool × Bool × Bool × Bool × Int) → List Int → Option (List Int)) (times0 : List Int) (moves2 : List (Int × ByteArray × Int)) (zones3 : List ByteArray) (last10 : Int) (out9 : List Int) (d13a : List (Int × Int)) (d13ba : Int) (d13bba : Int) (d13bbba : Bool × Bool × Bool × Bool × Bool × Int) (w2 : List Int) (w0 : List Int) (d0a : List (Int × Int)) (d0ba : Int) (d0bba : Int) (d0bbba : Bool × Bool × Bool × Bool × Bool × Int) (w2' : List Int) : Option (List Int) :=
  (impl_giveInput.f d0bbba ((d0a.getD (d0ba : Int).toNat (0, 0)).2)).bind fun r1 =>
  if ((r1.2 : Int) == 0) = true then
    L120000001 times0 moves2 zones3 last10 out9 d13a d13ba d13bba d13bbba w2 w0 d0a (IntKind.i64.wrap (d0ba + 1)) d0bba r1.1 w2'
  else
    agree (
      impl_firedTicks.tr0 L120000001 times0 moves2 zones3 last10 out9 d13a d13ba d13bba d13bbba w2 w0 d0a d0ba d0bba d0bbba w2'
    ) (
      agree (
        impl_firedTicks.tr0 L120000001 times0 moves2 zones3 last10 out9 d13a d13ba d13bba d13bbba w2 w0 d0a d0ba d0bba d0bbba w2'
      ) (
        impl_firedTicks.tr0 L120000001 times0 moves2 zones3 last10 out9 d13a d13ba d13bba d13bbba w2 w0 d0a d0ba d0bba d0bbba w2'
      )
    )
def impl_firedTicks.tr2 (L120000001 : List Int → (List (Int × ByteArray × Int)) → List ByteArray → Int → List Int → (List (Int × Int)) → Int → Int → (Bool × Bool × Bool × Bool × Bool × Int) → List Int → List Int → (List (Int × Int)) → Int → Int → (Bool × Bool × Bool × Bool × Bool × Int) → List Int → Option (List Int)) (times0 : List Int) (moves2 : List (Int × ByteArray × Int)) (zones3 : List ByteArray) (last10 : Int) (out9 : List Int) (d13a : List (Int × Int)) (d13ba : Int) (d13bba : Int) (d13bbba : Bool × Bool × Bool × Bool × Bool × Int) (w2 : List Int) (w0 : List Int) (d0a : List (Int × Int)) (d0ba : Int) (d0bba : Int) (d0bbba : Bool × Bool × Bool × Bool × Bool × Int) (w2' : List Int) : Option (List Int) :=
  agree (
    impl_firedTicks.tr1 L120000001 times0 moves2 zones3 last10 out9 d13a d13ba d13bba d13bbba w2 w0 d0a d0ba d0bba d0bbba w2'
  ) (
    impl_firedTicks.tr1 L120000001 times0 moves2 zones3 last10 out9 d13a d13ba d13bba d13bbba w2 w0 d0a d0ba d0bba d0bbba w2'
  )
def impl_firedTicks.tr3 (L120000001 : List Int → (List (Int × ByteArray × Int)) → List ByteArray → Int → List Int → (List (Int × Int)) → Int → Int → (Bool × Bool × Bool × Bool × Bool × Int) → List Int → List Int → (List (Int × Int)) → Int → Int → (Bool × Bool × Bool × Bool × Bool × Int) → List Int → Option (List Int)) (times0 : List Int) (moves2 : List (Int × ByteArray × Int)) (zones3 : List ByteArray) (last10 : Int) (out9 : List Int) (d13a : List (Int × Int)) (d13ba : Int) (d13bba : Int) (d13bbba : Bool × Bool × Bool × Bool × Bool × Int) (w2 : List Int) (w0 : List Int) (d0a : List (Int × Int)) (d0ba : Int) (d0bba : Int) (d0bbba : Bool × Bool × Bool × Bool × Bool × Int) (w2' : List Int) : Option (List Int) :=
  agree (
    impl_firedTicks.tr2 L120000001 times0 moves2 zones3 last10 out9 d13a d13ba d13bba d13bbba w2 w0 d0a d0ba d0bba d0bbba w2'
  ) (
    impl_firedTicks.tr1 L120000001 times0 moves2 zones3 last10 out9 d13a d13ba d13bba d13bbba w2 w0 d0a d0ba d0bba d0bbba w2'
  )
def impl_firedTicks.tr4 (L120000001 : List Int → (List (Int × ByteArray × Int)) → List ByteArray → Int → List Int → (List (Int × Int)) → Int → Int → (Bool × Bool × Bool × Bool × Bool × Int) → List Int → List Int → (List (Int × Int)) → Int → Int → (Bool × Bool × Bool × Bool × Bool × Int) → List Int → Option (List Int)) (times0 : List Int) (moves2 : List (Int × ByteArray × Int)) (zones3 : List ByteArray) (last10 : Int) (out9 : List Int) (d13a : List (Int × Int)) (d13ba : Int) (d13bba : Int) (d13bbba : Bool × Bool × Bool × Bool × Bool × Int) (w2 : List Int) (w0 : List Int) (d0a : List (Int × Int)) (d0ba : Int) (d0bba : Int) (d0bbba : Bool × Bool × Bool × Bool × Bool × Int) (w2' : List Int) : Option (List Int) :=
  if (0 : Int) ≤ d0ba ∧ (d0ba : Int) < d0a.length then
    impl_firedTicks.tr1 L120000001 times0 moves2 zones3 last10 out9 d13a d13ba d13bba d13bbba w2 w0 d0a d0ba d0bba d0bbba w2'
  else
    none
def impl_firedTicks.tr5 (L120000001 : List Int → (List (Int × ByteArray × Int)) → List ByteArray → Int → List Int → (List (Int × Int)) → Int → Int → (Bool × Bool × Bool × Bool × Bool × Int) → List Int → List Int → (List (Int × Int)) → Int → Int → (Bool × Bool × Bool × Bool × Bool × Int) → List Int → Option (List Int)) (times0 : List Int) (moves2 : List (Int × ByteArray × Int)) (zones3 : List ByteArray) (last10 : Int) (out9 : List Int) (d13a : List (Int × Int)) (d13ba : Int) (d13bba : Int) (d13bbba : Bool × Bool × Bool × Bool × Bool × Int) (w2 : List Int) (w0 : List Int) (d0a : List (Int × Int)) (d0ba : Int) (d0bba : Int) (d0bbba : Bool × Bool × Bool × Bool × Bool × Int) (w2' : List Int) : Option (List Int) :=
  agree (
    if (0 : Int) ≤ d0ba ∧ (d0ba : Int) < d0a.length then
      impl_firedTicks.tr3 L120000001 times0 moves2 zones3 last10 out9 d13a d13ba d13bba d13bbba w2 w0 d0a d0ba d0bba d0bbba w2'
    else
      none
  ) (
    impl_firedTicks.tr4 L120000001 times0 moves2 zones3 last10 out9 d13a d13ba d13bba d13bbba w2 w0 d0a d0ba d0bba d0bbba w2'
  )
def impl_firedTicks.tr6 (L120000001 : List Int → (List (Int × ByteArray × Int)) → List ByteArray → Int → List Int → (List (Int × Int)) → Int → Int → (Bool × Bool × Bool × Bool × Bool × Int) → List Int → List Int → (List (Int × Int)) → Int → Int → (Bool × Bool × Bool × Bool × Bool × Int) → List Int → Option (List Int)) (times0 : List Int) (moves2 : List (Int × ByteArray × Int)) (zones3 : List ByteArray) (last10 : Int) (out9 : List Int) (d13a : List (Int × Int)) (d13ba : Int) (d13bba : Int) (d13bbba : Bool × Bool × Bool × Bool × Bool × Int) (w2 : List Int) (w0 : List Int) (d0a : List (Int × Int)) (d0ba : Int) (d0bba : Int) (d0bbba : Bool × Bool × Bool × Bool × Bool × Int) (w2' : List Int) : Option (List Int) :=
  agree (
    impl_firedTicks.tr4 L120000001 times0 moves2 zones3 last10 out9 d13a d13ba d13bba d13bbba w2 w0 d0a d0ba d0bba d0bbba w2'
  ) (
    impl_firedTicks.tr4 L120000001 times0 moves2 zones3 last10 out9 d13a d13ba d13bba d13bbba w2 w0 d0a d0ba d0bba d0bbba w2'
  )
def impl_firedTicks.tr7 (L120000001 : List Int → (List (Int × ByteArray × Int)) → List ByteArray → Int → List Int → (List (Int × Int)) → Int → Int → (Bool × Bool × Bool × Bool × Bool × Int) → List Int → List Int → (List (Int × Int)) → Int → Int → (Bool × Bool × Bool × Bool × Bool × Int) → List Int → Option (List Int)) (times0 : List Int) (moves2 : List (Int × ByteArray × Int)) (zones3 : List ByteArray) (last10 : Int) (out9 : List Int) (d13a : List (Int × Int)) (d13ba : Int) (d13bba : Int) (d13bbba : Bool × Bool × Bool × Bool × Bool × Int) (w2 : List Int) (w0 : List Int) (d0a : List (Int × Int)) (d0ba : Int) (d0bba : Int) (d0bbba : Bool × Bool × Bool × Bool × Bool × Int) (w2' : List Int) : Option (List Int) :=
  agree (
    impl_firedTicks.tr4 L120000001 times0 moves2 zones3 last10 out9 d13a d13ba d13bba d13bbba w2 w0 d0a d0ba d0bba d0bbba w2'
  ) (
    if (0 : Int) ≤ d0ba ∧ (d0ba : Int) < d0a.length then
      impl_firedTicks.tr2 L120000001 times0 moves2 zones3 last10 out9 d13a d13ba d13bba d13bbba w2 w0 d0a d0ba d0bba d0bbba w2'
    else
      none
  )
def impl_firedTicks.tr8 (L120000001 : List Int → (List (Int × ByteArray × Int)) → List ByteArray → Int → List Int → (List (Int × Int)) → Int → Int → (Bool × Bool × Bool × Bool × Bool × Int) → List Int → List Int → (List (Int × Int)) → Int → Int → (Bool × Bool × Bool × Bool × Bool × Int) → List Int → Option (List Int)) (times0 : List Int) (moves2 : List (Int × ByteArray × Int)) (zones3 : List ByteArray) (last10 : Int) (out9 : List Int) (d13a : List (Int × Int)) (d13ba : Int) (d13bba : Int) (d13bbba : Bool × Bool × Bool × Bool × Bool × Int) (w2 : List Int) (w0 : List Int) (d0a : List (Int × Int)) (d0ba : Int) (d0bba : Int) (d0bbba : Bool × Bool × Bool × Bool × Bool × Int) (w2' : List Int) : Option (List Int) :=
  agree (
    impl_firedTicks.tr5 L120000001 times0 moves2 zones3 last10 out9 d13a d13ba d13bba d13bbba w2 w0 d0a d0ba d0bba d0bbba w2'
  ) (
    agree (
      if (0 : Int) ≤ d0ba ∧ (d0ba : Int) < d0a.length then
        agree (
          impl_firedTicks.tr3 L120000001 times0 moves2 zones3 last10 out9 d13a d13ba d13bba d13bbba w2 w0 d0a d0ba d0bba d0bbba w2'
        ) (
          agree (
            impl_firedTicks.tr3 L120000001 times0 moves2 zones3 last10 out9 d13a d13ba d13bba d13bbba w2 w0 d0a d0ba d0bba d0bbba w2'
          ) (
            impl_firedTicks.tr2 L120000001 times0 moves2 zones3 last10 out9 d13a d13ba d13bba d13bbba w2 w0 d0a d0ba d0bba d0bbba w2'
          )
        )
      else
        none
    ) (
      impl_firedTicks.tr7 L120000001 times0 moves2 zones3 last10 out9 d13a d13ba d13bba d13bbba w2 w0 d0a d0ba d0bba d0bbba w2'
    )
  )
def impl_firedTicks.g120000001raw (I1000012 : List Int → (List (Int × ByteArray × Int)) → List ByteArray → Int → List Int → (List (Int × Int)) → Int → Int → (Bool × Bool × Bool × Bool × Bool × Int) → List Int → Option (List Int)) (L10 : List Int → (List (Int × ByteArray × Int)) → List ByteArray → Int → List Int → (List (Int × Int)) → Int → Int → (Bool × Bool × Bool × Bool × Bool × Int) → List Int → Option (List Int)) (L120000001 : List Int → (List (Int × ByteArray × Int)) → List ByteArray → Int → List Int → (List (Int × Int)) → Int → Int → (Bool × Bool × Bool × Bool × Bool × Int) → List Int → List Int → (List (Int × Int)) → Int → Int → (Bool × Bool × Bool × Bool × Bool × Int) → List Int → Option (List Int)) (times0 : List Int) (moves2 : List (Int × ByteArray × Int)) (zones3 : List ByteArray) (last10 : Int) (out9 : List Int) (d13a : List (Int × Int)) (d13ba : Int) (d13bba : Int) (d13bbba : Bool × Bool × Bool × Bool × Bool × Int) (w2 : List Int) (w0 : List Int) (d0a : List (Int × Int)) (d0ba : Int) (d0bba : Int) (d0bbba : Bool × Bool × Bool × Bool × Bool × Int) (w2' : List Int) : Option (List Int) :=
  if (decide ((d0ba : Int) < (d0a.length : Int))) = true then
    if (0 : Int) ≤ d0ba ∧ (d0ba : Int) < d0a.length then
      if ((((d0a.getD (d0ba : Int).toNat (0, 0)).1) : Int) == d0bba) = true then
        agree (
          agree (
            impl_firedTicks.tr5 L120000001 times0 moves2 zones3 last10 out9 d13a d13ba d13bba d13bbba w2 w0 d0a d0ba d0bba d0bbba w2'
          ) (
            agree (
              impl_firedTicks.tr5 L120000001 times0 moves2 zones3 last10 out9 d13a d13ba d13bba d13bbba w2 w0 d0a d0ba d0bba d0bbba w2'
            ) (
              impl_firedTicks.tr6 L120000001 times0 moves2 zones3 last10 out9 d13a d13ba d13bba d13bbba w2 w0 d0a d0ba d0bba d0bbba w2'
            )
          )
        ) (
          agree (
            impl_firedTicks.tr8 L120000001 times0 moves2 zones3 last10 out9 d13a d13ba d13bba d13bbba w2 w0 d0a d0ba d0bba d0bbba w2'
          ) (
            agree (
              impl_firedTicks.tr8 L120000001 times0 moves2 zones3 last10 out9 d13a d13ba d13bba d13bbba w2 w0 d0a d0ba d0bba d0bbba w2'
            ) (
              agree (
                impl_firedTicks.tr6 L120000001 times0 moves2 zones3 last10 out9 d13a d13ba d13bba d13bbba w2 w0 d0a d0ba d0bba d0bbba w2'
              ) (
                agree (
                  impl_firedTicks.tr7 L120000001 times0 moves2 zones3 last10 out9 d13a d13ba d13bba d13bbba w2 w0 d0a d0ba d0bba d0bbba w2'
                ) (
                  impl_firedTicks.tr7 L120000001 times0 moves2 zones3 last10 out9 d13a d13ba d13bba d13bbba w2 w0 d0a d0ba d0bba d0bbba w2'
                )
              )
            )
          )
        )
      else
        I1000012 times0 moves2 zones3 last10 w0 d0a d0ba d0bba d0bbba w2'
    else
      none
  else
    I1000012 times0 moves2 zones3 last10 w0 d0a d0ba d0bba d0bbba w2'
theorem impl_firedTicks.g120000001raw_eq (I1000012 : List Int → (List (Int × ByteArray × Int)) → List ByteArray → Int → List Int → (List (Int × Int)) → Int → Int → (Bool × Bool × Bool × Bool × Bool × Int) → List Int → Option (List Int)) (L10 : List Int → (List (Int × ByteArray × Int)) → List ByteArray → Int → List Int → (List (Int × Int)) → Int → Int → (Bool × Bool × Bool × Bool × Bool × Int) → List Int → Option (List Int)) (L120000001 : List Int → (List (Int × ByteArray × Int)) → List ByteArray → Int → List Int → (List (Int × Int)) → Int → Int → (Bool × Bool × Bool × Bool × Bool × Int) → List Int → List Int → (List (Int × Int)) → Int → Int → (Bool × Bool × Bool × Bool × Bool × Int) → List Int → Option (List Int)) (times0 : List Int) (moves2 : List (Int × ByteArray × Int)) (zones3 : List ByteArray) (last10 : Int) (out9 : List Int) (d13a : List (Int × Int)) (d13ba : Int) (d13bba : Int) (d13bbba : Bool × Bool × Bool × Bool × Bool × Int) (w2 : List Int) (w0 : List Int) (d0a : List (Int × Int)) (d0ba : Int) (d0bba : Int) (d0bbba : Bool × Bool × Bool × Bool × Bool × Int) (w2' : List Int) : impl_firedTicks.g120000001raw I1000012 L10 L120000001 times0 moves2 zones3 last10 out9 d13a d13ba d13bba d13bbba w2 w0 d0a d0ba d0bba d0bbba w2' = impl_firedTicks.g120000001 I1000012 L10 L120000001 times0 moves2 zones3 last10 out9 d13a d13ba d13bba d13bbba w2 w0 d0a d0ba d0bba d0bbba w2' := by
  unfold impl_firedTicks.g120000001raw impl_firedTicks.g120000001
  simp only [agree_self, impl_firedTicks.tr0, impl_firedTicks.tr1, impl_firedTicks.tr2, impl_firedTicks.tr3, impl_firedTicks.tr4, impl_firedTicks.tr5, impl_firedTicks.tr6, impl_firedTicks.tr7, impl_firedTicks.tr8]
def impl_firedTicks.st1000011 (times0 : List Int) (moves2 : List (Int × ByteArray × Int)) (zones3 : List ByteArray) (last10 : Int) (out9 : List Int) (d13a : List (Int × Int)) (d13ba : Int) (d13bba : Int) (d13bbba : Bool × Bool × Bool × Bool × Bool × Int) (w2 : List Int) : St := ⟨[.dat (.sl 2 (.int .i64)) times0, .gone, .dat (.sl 148 (.pair (.int .i64) (.pair .str (.int .i64)))) moves2, .dat (.sl 9 .str) zones3, .gone, .gone, .gone, .gone, .gone, .ref 0, .dat (.int .i64) last10, .gone, .gone, .ptr 1 [], .gone, .gone, .gone, .gone, .gone, .gone, .gone, .gone, .gone, .gone, .gone, .gone, .gone, .gone, .gone, .gone, .gone, .gone, .gone, .gone, .gone, .gone, .gone, .gone, .gone, .gone, .gone, .gone, .gone, .gone, .gone, .gone, .gone, .gone, .gone, .gone, .gone, .gone, .gone, .gone, .gone, .gone, .gone, .gone, .gone, .gone, .gone, .gone, .gone, .gone, .gone, .gone, .gone, .gone, .gone, .gone, .gone, .gone, .gone, .gone, .gone, .gone, .gone, .gone, .gone, .gone, .gone, .gone, .gone, .gone, .gone], [.row 2 (.int .i64) out9 none, .box 178 (.pair (.sl 153 (.pair (.int .i64) (.int .i64))) (.pair (.int .i64) (.pair (.int .i64) (.pair (.pair .bool (.pair .bool (.pair .bool (.pair .bool (.pair .bool (.int .i64)))))) (.sl 2 (.int .i64)))))) (.pr (.dat (.sl 153 (.pair (.int .i64) (.int .i64))) d13a) (.pr (.dat (.int .i64) d13ba) (.pr (.dat (.int .i64) d13bba) (.pr (.dat (.pair .bool (.pair .bool (.pair .bool (.pair .bool (.pair .bool (.int .i64)))))) d13bbba) (.ref 2))))), .row 2 (.int .i64) w2 none]⟩
def impl_firedTicks.st10 (times0 : List Int) (moves2 : List (Int × ByteArray × Int)) (zones3 : List ByteArray) (last10 : Int) (out9 : List Int) (d13a : List (Int × Int)) (d13ba : Int) (d13bba : Int) (d13bbba : Bool × Bool × Bool × Bool × Bool × Int) (w2 : List Int) : St := ⟨[.dat (.sl 2 (.int .i64)) times0, .gone, .dat (.sl 148 (.pair (.int .i64) (.pair .str (.int .i64)))) moves2, .dat (.sl 9 .str) zones3, .gone, .gone, .gone, .gone, .gone, .ref 0, .dat (.int .i64) last10, .gone, .gone, .ptr 1 [], .gone, .gone, .gone, .gone, .gone, .gone, .gone, .gone, .gone, .gone, .gone, .gone, .gone, .gone, .gone, .gone, .gone, .gone, .gone, .gone, .gone, .gone, .gone, .gone, .gone, .gone, .gone, .gone, .gone, .gone, .gone, .gone, .gone, .gone, .gone, .gone, .gone, .gone, .gone, .gone, .gone, .gone, .gone, .gone, .gone, .gone, .gone, .gone, .gone, .gone, .gone, .gone, .gone, .gone, .gone, .gone, .gone, .gone, .gone, .gone, .gone, .gone, .gone, .gone, .gone, .gone, .gone, .gone, .gone, .gone, .gone], [.row 2 (.int .i64) out9 none, .box 178 (.pair (.sl 153 (.pair (.int .i64) (.int .i64))) (.pair (.int .i64) (.pair (.int .i64) (.pair (.pair .bool (.pair .bool (.pair .bool (.pair .bool (.pair .bool (.int .i64)))))) (.sl 2 (.int .i64)))))) (.pr (.dat (.sl 153 (.pair (.int .i64) (.int .i64))) d13a) (.pr (.dat (.int .i64) d13ba) (.pr (.dat (.int .i64) d13bba) (.pr (.dat (.pair .bool (.pair .bool (.pair .bool (.pair .bool (.pair .bool (.int .i64)))))) d13bbba) (.ref 2))))), .row 2 (.int .i64) w2 none]⟩
def impl_firedTicks.st4 (times0 : List Int) (list1 : List (Int × Int)) (moves2 : List (Int × ByteArray × Int)) (zones3 : List ByteArray) (last10 : Int) (v19 : List Int) (v20 : Int) (v21 : Int) (out9 : List Int) : St := ⟨[.dat (.sl 2 (.int .i64)) times0, .dat (.sl 153 (.pair (.int .i64) (.int .i64))) list1, .dat (.sl 148 (.pair (.int .i64) (.pair .str (.int .i64)))) moves2, .dat (.sl 9 .str) zones3, .gone, .gone, .gone, .gone, .gone, .ref 0, .dat (.int .i64) last10, .gone, .gone, .gone, .gone, .gone, .gone, .gone, .gone, .dat (.sl 2 (.int .i64)) v19, .dat (.int .i64) v20, .dat (.int .i64) v21, .gone, .gone, .gone, .gone, .gone, .gone, .gone, .gone, .gone, .gone, .gone, .gone, .gone, .gone, .gone, .gone, .gone, .gone, .gone, .gone, .gone, .gone, .gone, .gone, .gone, .gone, .gone, .gone, .gone, .gone, .gone, .gone, .gone, .gone, .gone, .gone, .gone, .gone, .gone, .gone, .gone, .gone, .gone, .gone, .gone, .gone, .gone, .gone, .gone, .gone, .gone, .gone, .gone, .gone, .gone, .gone, .gone, .gone, .gone, .gone, .gone, .gone, .gone], [.row 2 (.int .i64) out9 none]⟩
def impl_firedTicks.con : Con := { ps := [(.val, (.sl 2 (.int .i64))), (.val, (.sl 153 (.pair (.int .i64) (.int .i64)))), (.val, (.sl 148 (.pair (.int .i64) (.pair .str (.int .i64))))), (.val, (.sl 9 .str))], rs := [(.own, (.sl 2 (.int .i64)))], F := fun x => impl_firedTicks.f x.1 x.2.1 x.2.2.1 x.2.2.2 }
def impl_firedTicks.cs : List (FuncId × Con) := [(135, impl_mayFire.con), (136, impl_areAllClear.con), (160, impl_giveInput.con)]
def impl_firedTicks.E : Env := envOf tab impl_firedTicks.cs 0 false
def impl_firedTicks.I (f : FuncId) : Option Func := if f = 134 then some Try.f134 else if f = 137 then some Try.f137 else none
theorem impl_firedTicks.hI : ∀ f fn, impl_firedTicks.I f = some fn → Try.prog.funcs[f]? = some fn ∧ fn.body.isSome = true ∧ fn.name ≠ "runtime.NumGoroutine" := by
  intro f fn h
  unfold impl_firedTicks.I at h
  split at h
  · rename_i e; subst e; cases h; exact ⟨Try.func134, rfl, by decide⟩
  split at h
  · rename_i e; subst e; cases h; exact ⟨Try.func137, rfl, by decide⟩
  cases h
def impl_firedTicks.keep (i : Nat) : List Nat := if i = 1000019 then [0, 2, 3, 9, 10, 13] else if i = 14 then [0, 2, 3, 9, 10, 13, 50, 51, 52] else if i = 1000012 then [0, 2, 3, 9, 10, 13] else if i = 120000001 then [0, 200000] else if i = 1000011 then [0, 2, 3, 9, 10, 13] else if i = 10 then [0, 2, 3, 9, 10, 13, 200013] else if i = 4 then [0, 1, 2, 3, 9, 10, 19, 20, 21] else []
def impl_firedTicks.at1000019 (n : Nat) (x : List Int × (List (Int × Int)) × (List (Int × ByteArray × Int)) × List ByteArray) (M10 : St → Option ((List Int))) : Code × (Ex → St → Option ((List Int))) := ctxI impl_firedTicks.E impl_firedTicks.I impl_firedTicks.keep n [.snd, .snd, .snd, .snd, .snd, .fst, .blk, .rd M10, .snd, .blk, .snd, .snd] (codeOf Try.f81) (kEnd impl_firedTicks.E Try.f81 impl_firedTicks.con x)
def impl_firedTicks.LN1000019 (n : Nat) (x : List Int × (List (Int × Int)) × (List (Int × ByteArray × Int)) × List ByteArray) (M10 : St → Option ((List Int))) : Nat → St → Option ((List Int)) := cutN (execI impl_firedTicks.E impl_firedTicks.I impl_firedTicks.keep n (impl_firedTicks.at1000019 n x M10).1 (impl_firedTicks.at1000019 n x M10).2)
def impl_firedTicks.at14 (n : Nat) (x : List Int × (List (Int × Int)) × (List (Int × ByteArray × Int)) × List ByteArray) (M10 : St → Option ((List Int))) : Code × (Ex → St → Option ((List Int))) := ctxI impl_firedTicks.E impl_firedTicks.I impl_firedTicks.keep n [.snd, .snd, .snd, .snd, .snd, .fst, .blk, .rd M10, .snd, .blk, .snd, .fst, .snd, .yes, .snd, .blk] (codeOf Try.f81) (kEnd impl_firedTicks.E Try.f81 impl_firedTicks.con x)
def impl_firedTicks.LN14 (n : Nat) (x : List Int × (List (Int × Int)) × (List (Int × ByteArray × Int)) × List ByteArray) (M10 : St → Option ((List Int))) : Nat → St → Option ((List Int)) := loopN (execI impl_firedTicks.E impl_firedTicks.I impl_firedTicks.keep n (bodyOf (impl_firedTicks.at14 n x M10).1)) (St.norm 0 (impl_firedTicks.keep 14)) (impl_firedTicks.at14 n x M10).2
def impl_firedTicks.at1000012 (n : Nat) (x : List Int × (List (Int × Int)) × (List (Int × ByteArray × Int)) × List ByteArray) (M10 : St → Option ((List Int))) : Code × (Ex → St → Option ((List Int))) := ctxI impl_firedTicks.E impl_firedTicks.I impl_firedTicks.keep n [.snd, .snd, .snd, .snd, .snd, .fst, .blk, .rd M10, .snd, .blk, .snd] (codeOf Try.f81) (kEnd impl_firedTicks.E Try.f81 impl_firedTicks.con x)
def impl_firedTicks.LN1000012 (n : Nat) (x : List Int × (List (Int × Int)) × (List (Int × ByteArray × Int)) × List ByteArray) (M10 : St → Option ((List Int))) : Nat → St → Option ((List Int)) := cutN (execI impl_firedTicks.E impl_firedTicks.I impl_firedTicks.keep n (impl_firedTicks.at1000012 n x M10).1 (impl_firedTicks.at1000012 n x M10).2)
def impl_firedTicks.at120000001 (n : Nat) (x : List Int × (List (Int × Int)) × (List (Int × ByteArray × Int)) × List ByteArray) (M10 : St → Option ((List Int))) (times0 : List Int) (moves2 : List (Int × ByteArray × Int)) (zones3 : List ByteArray) (last10 : Int) (out9 : List Int) (d13a : List (Int × Int)) (d13ba : Int) (d13bba : Int) (d13bbba : Bool × Bool × Bool × Bool × Bool × Int) (w2 : List Int) : Code × (Ex → St → Option ((List Int))) := ctx (envIn impl_firedTicks.E 2) (keepIn impl_firedTicks.keep 11) n [.blk] (codeOf Try.f134) (kIn ((ctxI impl_firedTicks.E impl_firedTicks.I impl_firedTicks.keep n [.snd, .snd, .snd, .snd, .snd, .fst, .blk, .rd M10, .snd, .blk, .fst] (codeOf Try.f81) (kEnd impl_firedTicks.E Try.f81 impl_firedTicks.con x)).2 .normal) [.dat (.sl 2 (.int .i64)) times0, .gone, .dat (.sl 148 (.pair (.int .i64) (.pair .str (.int .i64)))) moves2, .dat (.sl 9 .str) zones3, .gone, .gone, .gone, .gone, .gone, .ref 0, .dat (.int .i64) last10, .gone, .gone, .ptr 1 [], .gone, .gone, .gone, .gone, .gone, .gone, .gone, .gone, .gone, .gone, .gone, .gone, .gone, .gone, .gone, .gone, .gone, .gone, .gone, .gone, .gone, .gone, .gone, .gone, .gone, .gone, .gone, .gone, .gone, .ptr 1 [], .gone, .gone, .gone, .gone, .gone, .gone, .gone, .gone, .gone, .gone, .gone, .gone, .gone, .gone, .gone, .gone, .gone, .gone, .gone, .gone, .gone, .gone, .gone, .gone, .gone, .gone, .gone, .gone, .gone, .gone, .gone, .gone, .gone, .gone, .gone, .gone, .gone, .gone, .gone, .gone, .gone] (some 44))
def impl_firedTicks.LN120000001 (n : Nat) (x : List Int × (List (Int × Int)) × (List (Int × ByteArray × Int)) × List ByteArray) (M10 : St → Option ((List Int))) (times0 : List Int) (moves2 : List (Int × ByteArray × Int)) (zones3 : List ByteArray) (last10 : Int) (out9 : List Int) (d13a : List (Int × Int)) (d13ba : Int) (d13bba : Int) (d13bbba : Bool × Bool × Bool × Bool × Bool × Int) (w2 : List Int) : Nat → St → Option ((List Int)) := loopN (exec (envIn impl_firedTicks.E 2) (keepIn impl_firedTicks.keep 11) n (bodyOf (impl_firedTicks.at120000001 n x M10 times0 moves2 zones3 last10 out9 d13a d13ba d13bba d13bbba w2).1)) (St.norm 2 (keepIn impl_firedTicks.keep 11 1)) (impl_firedTicks.at120000001 n x M10 times0 moves2 zones3 last10 out9 d13a d13ba d13bba d13bbba w2).2
def impl_firedTicks.at1000011 (n : Nat) (x : List Int × (List (Int × Int)) × (List (Int × ByteArray × Int)) × List ByteArray) (M10 : St → Option ((List Int))) : Code × (Ex → St → Option ((List Int))) := ctxI impl_firedTicks.E impl_firedTicks.I impl_firedTicks.keep n [.snd, .snd, .snd, .snd, .snd, .fst, .blk, .rd M10, .snd] (codeOf Try.f81) (kEnd impl_firedTicks.E Try.f81 impl_firedTicks.con x)
def impl_firedTicks.LN1000011 (n : Nat) (x : List Int × (List (Int × Int)) × (List (Int × ByteArray × Int)) × List ByteArray) (M10 : St → Option ((List Int))) : Nat → St → Option ((List Int)) := cutN (execI impl_firedTicks.E impl_firedTicks.I impl_firedTicks.keep n (impl_firedTicks.at1000011 n x M10).1 (impl_firedTicks.at1000011 n x M10).2)
def impl_firedTicks.at10 (n : Nat) (x : List Int × (List (Int × Int)) × (List (Int × ByteArray × Int)) × List ByteArray) : Code × (Ex → St → Option ((List Int))) := ctxI impl_firedTicks.E impl_firedTicks.I impl_firedTicks.keep n [.snd, .snd, .snd, .snd, .snd, .fst, .blk] (codeOf Try.f81) (kEnd impl_firedTicks.E Try.f81 impl_firedTicks.con x)
def impl_firedTicks.LN10 (n : Nat) (x : List Int × (List (Int × Int)) × (List (Int × ByteArray × Int)) × List ByteArray) : Nat → St → Option ((List Int)) := loopN (execI impl_firedTicks.E impl_firedTicks.I impl_firedTicks.keep n (bodyOf (impl_firedTicks.at10 n x).1)) (St.norm 0 (impl_firedTicks.keep 10)) (impl_firedTicks.at10 n x).2
def impl_firedTicks.at4 (n : Nat) (x : List Int × (List (Int × Int)) × (List (Int × ByteArray × Int)) × List ByteArray) : Code × (Ex → St → Option ((List Int))) := ctxI impl_firedTicks.E impl_firedTicks.I impl_firedTicks.keep n [.snd, .snd, .snd, .fst, .snd, .blk] (codeOf Try.f81) (kEnd impl_firedTicks.E Try.f81 impl_firedTicks.con x)
def impl_firedTicks.LN4 (n : Nat) (x : List Int × (List (Int × Int)) × (List (Int × ByteArray × Int)) × List ByteArray) : Nat → St → Option ((List Int)) := loopN (execI impl_firedTicks.E impl_firedTicks.I impl_firedTicks.keep n (bodyOf (impl_firedTicks.at4 n x).1)) (St.norm 0 (impl_firedTicks.keep 4)) (impl_firedTicks.at4 n x).2
set_option maxRecDepth 100000 in
theorem impl_firedTicks.lem1000019 (n : Nat) (x : List Int × (List (Int × Int)) × (List (Int × ByteArray × Int)) × List ByteArray) (M10 : St → Option ((List Int))) : ∀ (k : Nat) (times0 : List Int) (moves2 : List (Int × ByteArray × Int)) (zones3 : List ByteArray) (last10 : Int) (out9 : List Int) (d13a : List (Int × Int)) (d13ba : Int) (d13bba : Int) (d13bbba : Bool × Bool × Bool × Bool × Bool × Int) (w2 : List Int), impl_firedTicks.LN1000019 n x M10 k (impl_firedTicks.st1000019 times0 moves2 zones3 last10 out9 d13a d13ba d13bba d13bbba w2) = impl_firedTicks.l1000019 n (fun times0 moves2 zones3 last10 out9 d13a d13ba d13bba d13bbba w2 => M10 (impl_firedTicks.st10 times0 moves2 zones3 last10 out9 d13a d13ba d13bba d13bbba w2)) k times0 moves2 zones3 last10 out9 d13a d13ba d13bba d13bbba w2 := by
  intro k
  induction k with
  | zero => intro times0 moves2 zones3 last10 out9 d13a d13ba d13bba d13bbba w2; rfl
  | succ k ih =>
    intro times0 moves2 zones3 last10 out9 d13a d13ba d13bba d13bbba w2
    have h : impl_firedTicks.LN1000019 n x M10 (k + 1) (impl_firedTicks.st1000019 times0 moves2 zones3 last10 out9 d13a d13ba d13bba d13bbba w2) = impl_firedTicks.g1000019 (fun times0 moves2 zones3 last10 out9 d13a d13ba d13bba d13bbba w2 => M10 (impl_firedTicks.st10 times0 moves2 zones3 last10 out9 d13a d13ba d13bba d13bbba w2)) (fun times0 moves2 zones3 last10 out9 d13a d13ba d13bba d13bbba w2 => impl_firedTicks.LN1000019 n x M10 k (impl_firedTicks.st1000019 times0 moves2 zones3 last10 out9 d13a d13ba d13bba d13bbba w2)) times0 moves2 zones3 last10 out9 d13a d13ba d13bba d13bbba w2 := by kernel_rfl
    rw [h]
    simp only [ih]
    rfl
set_option maxRecDepth 100000 in
theorem impl_firedTicks.lem14 (n : Nat) (x : List Int × (List (Int × Int)) × (List (Int × ByteArray × Int)) × List ByteArray) (M10 : St → Option ((List Int))) : ∀ (k : Nat) (times0 : List Int) (moves2 : List (Int × ByteArray × Int)) (zones3 : List ByteArray) (last10 : Int) (v50 : List Int) (v51 : Int) (v52 : Int) (out9 : List Int) (d13a : List (Int × Int)) (d13ba : Int) (d13bba : Int) (d13bbba : Bool × Bool × Bool × Bool × Bool × Int) (w2 : List Int), impl_firedTicks.LN14 n x M10 k (impl_firedTicks.st14 times0 moves2 zones3 last10 v50 v51 v52 out9 d13a d13ba d13bba d13bbba w2) = impl_firedTicks.l14 n (fun times0 moves2 zones3 last10 out9 d13a d13ba d13bba d13bbba w2 => M10 (impl_firedTicks.st10 times0 moves2 zones3 last10 out9 d13a d13ba d13bba d13bbba w2)) k times0 moves2 zones3 last10 v50 v51 v52 out9 d13a d13ba d13bba d13bbba w2 := by
  intro k
  induction k with
  | zero => intro times0 moves2 zones3 last10 v50 v51 v52 out9 d13a d13ba d13bba d13bbba w2; rfl
  | succ k ih =>
    intro times0 moves2 zones3 last10 v50 v51 v52 out9 d13a d13ba d13bba d13bbba w2
    have h : impl_firedTicks.LN14 n x M10 (k + 1) (impl_firedTicks.st14 times0 moves2 zones3 last10 v50 v51 v52 out9 d13a d13ba d13bba d13bbba w2) = impl_firedTicks.g14 (fun times0 moves2 zones3 last10 out9 d13a d13ba d13bba d13bbba w2 => impl_firedTicks.LN1000019 n x M10 n (impl_firedTicks.st1000019 times0 moves2 zones3 last10 out9 d13a d13ba d13bba d13bbba w2)) (fun times0 moves2 zones3 last10 out9 d13a d13ba d13bba d13bbba w2 => M10 (impl_firedTicks.st10 times0 moves2 zones3 last10 out9 d13a d13ba d13bba d13bbba w2)) (fun times0 moves2 zones3 last10 v50 v51 v52 out9 d13a d13ba d13bba d13bbba w2 => impl_firedTicks.LN14 n x M10 k (impl_firedTicks.st14 times0 moves2 zones3 last10 v50 v51 v52 out9 d13a d13ba d13bba d13bbba w2)) times0 moves2 zones3 last10 v50 v51 v52 out9 d13a d13ba d13bba d13bbba w2 := by kernel_rfl
    rw [h]
    simp only [ih, impl_firedTicks.lem1000019]
    rfl
set_option maxRecDepth 100000 in
theorem impl_firedTicks.lem1000012 (n : Nat) (x : List Int × (List (Int × Int)) × (List (Int × ByteArray × Int)) × List ByteArray) (M10 : St → Option ((List Int))) : ∀ (k : Nat) (times0 : List Int) (moves2 : List (Int × ByteArray × Int)) (zones3 : List ByteArray) (last10 : Int) (out9 : List Int) (d13a : List (Int × Int)) (d13ba : Int) (d13bba : Int) (d13bbba : Bool × Bool × Bool × Bool × Bool × Int) (w2 : List Int), impl_firedTicks.LN1000012 n x M10 k (impl_firedTicks.st1000012 times0 moves2 zones3 last10 out9 d13a d13ba d13bba d13bbba w2) = impl_firedTicks.l1000012 n (fun times0 moves2 zones3 last10 out9 d13a d13ba d13bba d13bbba w2 => M10 (impl_firedTicks.st10 times0 moves2 zones3 last10 out9 d13a d13ba d13bba d13bbba w2)) k times0 moves2 zones3 last10 out9 d13a d13ba d13bba d13bbba w2 := by
  intro k
  induction k with
  | zero => intro times0 moves2 zones3 last10 out9 d13a d13ba d13bba d13bbba w2; rfl
  | succ k ih =>
    intro times0 moves2 zones3 last10 out9 d13a d13ba d13bba d13bbba w2
    have h : impl_firedTicks.LN1000012 n x M10 (k + 1) (impl_firedTicks.st1000012 times0 moves2 zones3 last10 out9 d13a d13ba d13bba d13bbba w2) = impl_firedTicks.g1000012 (fun times0 moves2 zones3 last10 v50 v51 v52 out9 d13a d13ba d13bba d13bbba w2 => impl_firedTicks.LN14 n x M10 n (impl_firedTicks.st14 times0 moves2 zones3 last10 v50 v51 v52 out9 d13a d13ba d13bba d13bbba w2)) (fun times0 moves2 zones3 last10 out9 d13a d13ba d13bba d13bbba w2 => impl_firedTicks.LN1000019 n x M10 n (impl_firedTicks.st1000019 times0 moves2 zones3 last10 out9 d13a d13ba d13bba d13bbba w2)) (fun times0 moves2 zones3 last10 out9 d13a d13ba d13bba d13bbba w2 => M10 (impl_firedTicks.st10 times0 moves2 zones3 last10 out9 d13a d13ba d13bba d13bbba w2)) (fun times0 moves2 zones3 last10 out9 d13a d13ba d13bba d13bbba w2 => impl_firedTicks.LN1000012 n x M10 k (impl_firedTicks.st1000012 times0 moves2 zones3 last10 out9 d13a d13ba d13bba d13bbba w2)) times0 moves2 zones3 last10 out9 d13a d13ba d13bba d13bbba w2 := by kernel_rfl
    rw [h]
    simp only [ih, impl_firedTicks.lem14, impl_firedTicks.lem1000019]
    rfl
set_option maxRecDepth 100000 in
theorem impl_firedTicks.lem120000001 (n : Nat) (x : List Int × (List (Int × Int)) × (List (Int × ByteArray × Int)) × List ByteArray) (M10 : St → Option ((List Int))) : ∀ (k : Nat) (times0 : List Int) (moves2 : List (Int × ByteArray × Int)) (zones3 : List ByteArray) (last10 : Int) (out9 : List Int) (d13a : List (Int × Int)) (d13ba : Int) (d13bba : Int) (d13bbba : Bool × Bool × Bool × Bool × Bool × Int) (w2 : List Int) (w0 : List Int) (d0a : List (Int × Int)) (d0ba : Int) (d0bba : Int) (d0bbba : Bool × Bool × Bool × Bool × Bool × Int) (w2' : List Int), impl_firedTicks.LN120000001 n x M10 times0 moves2 zones3 last10 out9 d13a d13ba d13bba d13bbba w2 k (impl_firedTicks.st120000001 w0 d0a d0ba d0bba d0bbba w2') = impl_firedTicks.l120000001 n (fun times0 moves2 zones3 last10 out9 d13a d13ba d13bba d13bbba w2 => M10 (impl_firedTicks.st10 times0 moves2 zones3 last10 out9 d13a d13ba d13bba d13bbba w2)) k times0 moves2 zones3 last10 out9 d13a d13ba d13bba d13bbba w2 w0 d0a d0ba d0bba d0bbba w2' := by
  intro k
  induction k with
  | zero => intro times0 moves2 zones3 last10 out9 d13a d13ba d13bba d13bbba w2 w0 d0a d0ba d0bba d0bbba w2'; rfl
  | succ k ih =>
    intro times0 moves2 zones3 last10 out9 d13a d13ba d13bba d13bbba w2 w0 d0a d0ba d0bba d0bbba w2'
    have h : impl_firedTicks.LN120000001 n x M10 times0 moves2 zones3 last10 out9 d13a d13ba d13bba d13bbba w2 (k + 1) (impl_firedTicks.st120000001 w0 d0a d0ba d0bba d0bbba w2') = impl_firedTicks.g120000001raw (fun times0 moves2 zones3 last10 out9 d13a d13ba d13bba d13bbba w2 => impl_firedTicks.LN1000012 n x M10 n (impl_firedTicks.st1000012 times0 moves2 zones3 last10 out9 d13a d13ba d13bba d13bbba w2)) (fun times0 moves2 zones3 last10 out9 d13a d13ba d13bba d13bbba w2 => M10 (impl_firedTicks.st10 times0 moves2 zones3 last10 out9 d13a d13ba d13bba d13bbba w2)) (fun times0 moves2 zones3 last10 out9 d13a d13ba d13bba d13bbba w2 w0 d0a d0ba d0bba d0bbba w2' => impl_firedTicks.LN120000001 n x M10 times0 moves2 zones3 last10 out9 d13a d13ba d13bba d13bbba w2 k (impl_firedTicks.st120000001 w0 d0a d0ba d0bba d0bbba w2')) times0 moves2 zones3 last10 out9 d13a d13ba d13bba d13bbba w2 w0 d0a d0ba d0bba d0bbba w2' := by kernel_rfl
    rw [impl_firedTicks.g120000001raw_eq] at h
    rw [h]
    simp only [ih, impl_firedTicks.lem1000012]
    rfl
set_option maxRecDepth 100000 in
theorem impl_firedTicks.lem1000011 (n : Nat) (x : List Int × (List (Int × Int)) × (List (Int × ByteArray × Int)) × List ByteArray) (M10 : St → Option ((List Int))) : ∀ (k : Nat) (times0 : List Int) (moves2 : List (Int × ByteArray × Int)) (zones3 : List ByteArray) (last10 : Int) (out9 : List Int) (d13a : List (Int × Int)) (d13ba : Int) (d13bba : Int) (d13bbba : Bool × Bool × Bool × Bool × Bool × Int) (w2 : List Int), impl_firedTicks.LN1000011 n x M10 k (impl_firedTicks.st1000011 times0 moves2 zones3 last10 out9 d13a d13ba d13bba d13bbba w2) = impl_firedTicks.l1000011 n (fun times0 moves2 zones3 last10 out9 d13a d13ba d13bba d13bbba w2 => M10 (impl_firedTicks.st10 times0 moves2 zones3 last10 out9 d13a d13ba d13bba d13bbba w2)) k times0 moves2 zones3 last10 out9 d13a d13ba d13bba d13bbba w2 := by
  intro k
  induction k with
  | zero => intro times0 moves2 zones3 last10 out9 d13a d13ba d13bba d13bbba w2; rfl
  | succ k ih =>
    intro times0 moves2 zones3 last10 out9 d13a d13ba d13bba d13bbba w2
    have h : impl_firedTicks.LN1000011 n x M10 (k + 1) (impl_firedTicks.st1000011 times0 moves2 zones3 last10 out9 d13a d13ba d13bba d13bbba w2) = impl_firedTicks.g1000011 (fun times0 moves2 zones3 last10 out9 d13a d13ba d13bba d13bbba w2 w0 d0a d0ba d0bba d0bbba w2' => impl_firedTicks.LN120000001 n x M10 times0 moves2 zones3 last10 out9 d13a d13ba d13bba d13bbba w2 n (impl_firedTicks.st120000001 w0 d0a d0ba d0bba d0bbba w2')) (fun times0 moves2 zones3 last10 out9 d13a d13ba d13bba d13bbba w2 => M10 (impl_firedTicks.st10 times0 moves2 zones3 last10 out9 d13a d13ba d13bba d13bbba w2)) (fun times0 moves2 zones3 last10 out9 d13a d13ba d13bba d13bbba w2 => impl_firedTicks.LN1000011 n x M10 k (impl_firedTicks.st1000011 times0 moves2 zones3 last10 out9 d13a d13ba d13bba d13bbba w2)) times0 moves2 zones3 last10 out9 d13a d13ba d13bba d13bbba w2 := by kernel_rfl
    rw [h]
    simp only [ih, impl_firedTicks.lem120000001]
    rfl
set_option maxRecDepth 100000 in
theorem impl_firedTicks.lem10 (n : Nat) (x : List Int × (List (Int × Int)) × (List (Int × ByteArray × Int)) × List ByteArray) : ∀ (k : Nat) (times0 : List Int) (moves2 : List (Int × ByteArray × Int)) (zones3 : List ByteArray) (last10 : Int) (out9 : List Int) (d13a : List (Int × Int)) (d13ba : Int) (d13bba : Int) (d13bbba : Bool × Bool × Bool × Bool × Bool × Int) (w2 : List Int), impl_firedTicks.LN10 n x k (impl_firedTicks.st10 times0 moves2 zones3 last10 out9 d13a d13ba d13bba d13bbba w2) = impl_firedTicks.l10 n k times0 moves2 zones3 last10 out9 d13a d13ba d13bba d13bbba w2 := by
  intro k
  induction k with
  | zero => intro times0 moves2 zones3 last10 out9 d13a d13ba d13bba d13bbba w2; rfl
  | succ k ih =>
    intro times0 moves2 zones3 last10 out9 d13a d13ba d13bba d13bbba w2
    have h : impl_firedTicks.LN10 n x (k + 1) (impl_firedTicks.st10 times0 moves2 zones3 last10 out9 d13a d13ba d13bba d13bbba w2) = impl_firedTicks.g10 (fun times0 moves2 zones3 last10 out9 d13a d13ba d13bba d13bbba w2 => impl_firedTicks.LN1000011 n x (impl_firedTicks.LN10 n x k) n (impl_firedTicks.st1000011 times0 moves2 zones3 last10 out9 d13a d13ba d13bba d13bbba w2)) (fun times0 moves2 zones3 last10 out9 d13a d13ba d13bba d13bbba w2 => impl_firedTicks.LN10 n x k (impl_firedTicks.st10 times0 moves2 zones3 last10 out9 d13a d13ba d13bba d13bbba w2)) times0 moves2 zones3 last10 out9 d13a d13ba d13bba d13bbba w2 := by kernel_rfl
    rw [h]
    simp only [ih, impl_firedTicks.lem1000011]
    rfl
set_option maxRecDepth 100000 in
theorem impl_firedTicks.lem4 (n : Nat) (x : List Int × (List (Int × Int)) × (List (Int × ByteArray × Int)) × List ByteArray) : ∀ (k : Nat) (times0 : List Int) (list1 : List (Int × Int)) (moves2 : List (Int × ByteArray × Int)) (zones3 : List ByteArray) (last10 : Int) (v19 : List Int) (v20 : Int) (v21 : Int) (out9 : List Int), impl_firedTicks.LN4 n x k (impl_firedTicks.st4 times0 list1 moves2 zones3 last10 v19 v20 v21 out9) = impl_firedTicks.l4 n k times0 list1 moves2 zones3 last10 v19 v20 v21 out9 := by
  intro k
  induction k with
  | zero => intro times0 list1 moves2 zones3 last10 v19 v20 v21 out9; rfl
  | succ k ih =>
    intro times0 list1 moves2 zones3 last10 v19 v20 v21 out9
    have h : impl_firedTicks.LN4 n x (k + 1) (impl_firedTicks.st4 times0 list1 moves2 zones3 last10 v19 v20 v21 out9) = impl_firedTicks.g4 (fun times0 moves2 zones3 last10 out9 d13a d13ba d13bba d13bbba w2 => impl_firedTicks.LN10 n x n (impl_firedTicks.st10 times0 moves2 zones3 last10 out9 d13a d13ba d13bba d13bbba w2)) (fun times0 list1 moves2 zones3 last10 v19 v20 v21 out9 => impl_firedTicks.LN4 n x k (impl_firedTicks.st4 times0 list1 moves2 zones3 last10 v19 v20 v21 out9)) times0 list1 moves2 zones3 last10 v19 v20 v21 out9 := by kernel_rfl
    rw [h]
    simp only [ih, impl_firedTicks.lem10]
    rfl
set_option maxRecDepth 100000 in
theorem impl_firedTicks.body (n : Nat) (x : List Int × (List (Int × Int)) × (List (Int × ByteArray × Int)) × List ByteArray) : bodyFI impl_firedTicks.E impl_firedTicks.I impl_firedTicks.keep n Try.f81 impl_firedTicks.con x = impl_firedTicks.fn n x.1 x.2.1 x.2.2.1 x.2.2.2 := by
  have h : bodyFI impl_firedTicks.E impl_firedTicks.I impl_firedTicks.keep n Try.f81 impl_firedTicks.con x = impl_firedTicks.top (fun times0 list1 moves2 zones3 last10 v19 v20 v21 out9 => impl_firedTicks.LN4 n x n (impl_firedTicks.st4 times0 list1 moves2 zones3 last10 v19 v20 v21 out9)) x.1 x.2.1 x.2.2.1 x.2.2.2 := by kernel_rfl
  rw [h]
  simp only [impl_firedTicks.lem4]
  rfl
set_option maxRecDepth 100000 in
theorem impl_firedTicks.good : Good Try.prog 81 impl_firedTicks.con :=
  good_ofI tabok (cs := impl_firedTicks.cs) ⟨impl_mayFire.good, impl_areAllClear.good, impl_giveInput.good, trivial⟩ 0 false (fn := Try.f81) Try.func81 rfl (by decide) (by simp [impl_firedTicks.con]) impl_firedTicks.keep NN (fun _ => rfl) impl_firedTicks.hI (fun x => impl_firedTicks.body NN x)
end
end Go.Ev.Try

namespace Go.Ev.Try
open Go.Proofs Go.Pl
set_option linter.unusedVariables false
noncomputable section
def impl_FiredSafely.con : Con := { ps := [(.val, (.sl 2 (.int .i64))), (.val, (.sl 153 (.pair (.int .i64) (.int .i64)))), (.val, (.sl 148 (.pair (.int .i64) (.pair .str (.int .i64))))), (.val, (.sl 9 .str))], rs := [(.own, (.sl 2 (.int .i64))), (.own, (.int .i64))], F := fun x => impl_FiredSafely.f x.1 x.2.1 x.2.2.1 x.2.2.2 }
def impl_FiredSafely.cs : List (FuncId × Con) := [(80, impl_areFired.con), (81, impl_firedTicks.con)]
def impl_FiredSafely.E : Env := envOf tab impl_FiredSafely.cs 0 false
def impl_FiredSafely.keep (i : Nat) : List Nat := []
set_option maxRecDepth 100000 in
theorem impl_FiredSafely.body (n : Nat) (x : List Int × (List (Int × Int)) × (List (Int × ByteArray × Int)) × List ByteArray) : bodyF impl_FiredSafely.E impl_FiredSafely.keep n Try.f28 impl_FiredSafely.con x = impl_FiredSafely.fn n x.1 x.2.1 x.2.2.1 x.2.2.2 := by
  have h : bodyF impl_FiredSafely.E impl_FiredSafely.keep n Try.f28 impl_FiredSafely.con x = impl_FiredSafely.top x.1 x.2.1 x.2.2.1 x.2.2.2 := by kernel_rfl
  exact h
set_option maxRecDepth 100000 in
theorem impl_FiredSafely.good : Good Try.prog 28 impl_FiredSafely.con :=
  good_of tabok (cs := impl_FiredSafely.cs) ⟨impl_areFired.good, impl_firedTicks.good, trivial⟩ 0 false (fn := Try.f28) Try.func28 rfl (by decide) (by simp [impl_FiredSafely.con]) impl_FiredSafely.keep NN (fun _ => rfl) (fun x => impl_FiredSafely.body NN x)
end
end Go.Ev.Try

namespace Go.Ev.Try
open Go.Proofs Go.Pl
set_option linter.unusedVariables false
noncomputable section
def spec_l01IsTime.con : Con := { ps := [(.val, (.int .i64))], rs := [(.val, .bool)], F := fun x => spec_l01IsTime.f x }
def spec_l01IsTime.cs : List (FuncId × Con) := [(105, spec_l01In.con)]
def spec_l01IsTime.E : Env := envOf tab spec_l01IsTime.cs 0 false
def spec_l01IsTime.keep (i : Nat) : List Nat := []
set_option maxRecDepth 100000 in
theorem spec_l01IsTime.body (n : Nat) (x : Int) : bodyF spec_l01IsTime.E spec_l01IsTime.keep n Try.f103 spec_l01IsTime.con x = spec_l01IsTime.fn n x := by
  have h : bodyF spec_l01IsTime.E spec_l01IsTime.keep n Try.f103 spec_l01IsTime.con x = spec_l01IsTime.top x := by kernel_rfl
  exact h
set_option maxRecDepth 100000 in
theorem spec_l01IsTime.good : Good Try.prog 103 spec_l01IsTime.con :=
  good_of tabok (cs := spec_l01IsTime.cs) ⟨spec_l01In.good, trivial⟩ 0 false (fn := Try.f103) Try.func103 rfl (by decide) (by simp [spec_l01IsTime.con]) spec_l01IsTime.keep NN (fun _ => rfl) (fun x => spec_l01IsTime.body NN x)
end
end Go.Ev.Try

namespace Go.Ev.Try
open Go.Proofs Go.Pl
set_option linter.unusedVariables false
noncomputable section
def spec_l20People.st3 (list0 : List (Int × ByteArray × Int)) (zone1 : ByteArray) (n2 : Int) (people7 : Int) (i8 : Int) : St := ⟨[.dat (.sl 148 (.pair (.int .i64) (.pair .str (.int .i64)))) list0, .dat .str zone1, .dat (.int .i64) n2, .gone, .gone, .gone, .gone, .dat (.int .i64) people7, .dat (.int .i64) i8, .gone, .gone, .gone, .gone, .gone, .gone, .gone, .gone, .gone, .gone, .gone, .gone, .gone, .gone, .gone, .gone, .gone, .gone, .gone, .gone], []⟩
def spec_l20People.con : Con := { ps := [(.val, (.sl 148 (.pair (.int .i64) (.pair .str (.int .i64))))), (.val, .str), (.val, (.int .i64))], rs := [(.val, (.int .i64))], F := fun x => spec_l20People.f x.1 x.2.1 x.2.2 }
def spec_l20People.cs : List (FuncId × Con) := []
def spec_l20People.E : Env := envOf tab spec_l20People.cs 0 false
def spec_l20People.keep (i : Nat) : List Nat := if i = 3 then [0, 1, 2, 7, 8] else []
def spec_l20People.at3 (n : Nat) (x : (List (Int × ByteArray × Int)) × ByteArray × Int) : Code × (Ex → St → Option (Int)) := ctx spec_l20People.E spec_l20People.keep n [.snd, .snd, .fst, .snd, .blk] (codeOf Try.f106) (kEnd spec_l20People.E Try.f106 spec_l20People.con x)
def spec_l20People.LN3 (n : Nat) (x : (List (Int × ByteArray × Int)) × ByteArray × Int) : Nat → St → Option (Int) := loopN (exec spec_l20People.E spec_l20People.keep n (bodyOf (spec_l20People.at3 n x).1)) (St.norm 0 (spec_l20People.keep 3)) (spec_l20People.at3 n x).2
set_option maxRecDepth 100000 in
theorem spec_l20People.lem3 (n : Nat) (x : (List (Int × ByteArray × Int)) × ByteArray × Int) : ∀ (k : Nat) (list0 : List (Int × ByteArray × Int)) (zone1 : ByteArray) (n2 : Int) (people7 : Int) (i8 : Int), spec_l20People.LN3 n x k (spec_l20People.st3 list0 zone1 n2 people7 i8) = spec_l20People.l3 n k list0 zone1 n2 people7 i8 := by
  intro k
  induction k with
  | zero => intro list0 zone1 n2 people7 i8; rfl
  | succ k ih =>
    intro list0 zone1 n2 people7 i8
    have h : spec_l20People.LN3 n x (k + 1) (spec_l20People.st3 list0 zone1 n2 people7 i8) = spec_l20People.g3 (fun list0 zone1 n2 people7 i8 => spec_l20People.LN3 n x k (spec_l20People.st3 list0 zone1 n2 people7 i8)) list0 zone1 n2 people7 i8 := by kernel_rfl
    rw [h]
    simp only [ih]
    rfl
set_option maxRecDepth 100000 in
theorem spec_l20People.body (n : Nat) (x : (List (Int × ByteArray × Int)) × ByteArray × Int) : bodyF spec_l20People.E spec_l20People.keep n Try.f106 spec_l20People.con x = spec_l20People.fn n x.1 x.2.1 x.2.2 := by
  have h : bodyF spec_l20People.E spec_l20People.keep n Try.f106 spec_l20People.con x = spec_l20People.top (fun list0 zone1 n2 people7 i8 => spec_l20People.LN3 n x n (spec_l20People.st3 list0 zone1 n2 people7 i8)) x.1 x.2.1 x.2.2 := by kernel_rfl
  rw [h]
  simp only [spec_l20People.lem3]
  rfl
set_option maxRecDepth 100000 in
theorem spec_l20People.good : Good Try.prog 106 spec_l20People.con :=
  good_of tabok (cs := spec_l20People.cs) trivial 0 false (fn := Try.f106) Try.func106 rfl (by decide) (by simp [spec_l20People.con]) spec_l20People.keep NN (fun _ => rfl) (fun x => spec_l20People.body NN x)
end
end Go.Ev.Try

namespace Go.Ev.Try
open Go.Proofs Go.Pl
set_option linter.unusedVariables false
noncomputable section
def spec_AreMoves.st2 (list0 : List (Int × ByteArray × Int)) (i3 : Int) : St := ⟨[.dat (.sl 148 (.pair (.int .i64) (.pair .str (.int .i64)))) list0, .gone, .gone, .dat (.int .i64) i3, .gone, .gone, .gone, .gone, .gone, .gone, .gone, .gone, .gone, .gone, .gone, .gone, .gone, .gone, .gone, .gone, .gone, .gone, .gone, .gone, .gone, .gone, .gone, .gone, .gone, .gone, .gone, .gone, .gone, .gone, .gone, .gone, .gone, .gone, .gone, .gone, .gone, .gone, .gone, .gone, .gone, .gone, .gone, .gone, .gone, .gone, .gone, .gone, .gone, .gone, .gone, .gone, .gone, .gone, .gone, .gone, .gone, .gone, .gone], []⟩
def spec_AreMoves.con : Con := { ps := [(.val, (.sl 148 (.pair (.int .i64) (.pair .str (.int .i64)))))], rs := [(.val, .bool)], F := fun x => spec_AreMoves.f x }
def spec_AreMoves.cs : List (FuncId × Con) := [(103, spec_l01IsTime.con), (104, spec_IsWord.con), (105, spec_l01In.con), (106, spec_l20People.con)]
def spec_AreMoves.E : Env := envOf tab spec_AreMoves.cs 0 false
def spec_AreMoves.keep (i : Nat) : List Nat := if i = 2 then [0, 3] else []
def spec_AreMoves.at2 (n : Nat) (x : List (Int × ByteArray × Int)) : Code × (Ex → St → Option (Bool)) := ctx spec_AreMoves.E spec_AreMoves.keep n [.snd, .fst, .snd, .blk] (codeOf Try.f49) (kEnd spec_AreMoves.E Try.f49 spec_AreMoves.con x)
def spec_AreMoves.LN2 (n : Nat) (x : List (Int × ByteArray × Int)) : Nat → St → Option (Bool) := loopN (exec spec_AreMoves.E spec_AreMoves.keep n (bodyOf (spec_AreMoves.at2 n x).1)) (St.norm 0 (spec_AreMoves.keep 2)) (spec_AreMoves.at2 n x).2
set_option maxRecDepth 100000 in
theorem spec_AreMoves.lem2 (n : Nat) (x : List (Int × ByteArray × Int)) : ∀ (k : Nat) (list0 : List (Int × ByteArray × Int)) (i3 : Int), spec_AreMoves.LN2 n x k (spec_AreMoves.st2 list0 i3) = spec_AreMoves.l2 n k list0 i3 := by
  intro k
  induction k with
  | zero => intro list0 i3; rfl
  | succ k ih =>
    intro list0 i3
    have h : spec_AreMoves.LN2 n x (k + 1) (spec_AreMoves.st2 list0 i3) = spec_AreMoves.g2 (fun list0 i3 => spec_AreMoves.LN2 n x k (spec_AreMoves.st2 list0 i3)) list0 i3 := by kernel_rfl
    rw [h]
    simp only [ih]
    rfl
set_option maxRecDepth 100000 in
theorem spec_AreMoves.body (n : Nat) (x : List (Int × ByteArray × Int)) : bodyF spec_AreMoves.E spec_AreMoves.keep n Try.f49 spec_AreMoves.con x = spec_AreMoves.fn n x := by
  have h : bodyF spec_AreMoves.E spec_AreMoves.keep n Try.f49 spec_AreMoves.con x = spec_AreMoves.top (fun list0 i3 => spec_AreMoves.LN2 n x n (spec_AreMoves.st2 list0 i3)) x := by kernel_rfl
  rw [h]
  simp only [spec_AreMoves.lem2]
  rfl
set_option maxRecDepth 100000 in
theorem spec_AreMoves.good : Good Try.prog 49 spec_AreMoves.con :=
  good_of tabok (cs := spec_AreMoves.cs) ⟨spec_l01IsTime.good, spec_IsWord.good, spec_l01In.good, spec_l20People.good, trivial⟩ 0 false (fn := Try.f49) Try.func49 rfl (by decide) (by simp [spec_AreMoves.con]) spec_AreMoves.keep NN (fun _ => rfl) (fun x => spec_AreMoves.body NN x)
end
end Go.Ev.Try

namespace Go.Ev.Try
open Go.Proofs Go.Pl
set_option linter.unusedVariables false
noncomputable section
def spec_AreSignals.st2 (list0 : List (Int × Int)) (i3 : Int) : St := ⟨[.dat (.sl 153 (.pair (.int .i64) (.int .i64))) list0, .gone, .gone, .dat (.int .i64) i3, .gone, .gone, .gone, .gone, .gone, .gone, .gone, .gone, .gone, .gone, .gone, .gone, .gone, .gone, .gone, .gone, .gone, .gone, .gone, .gone, .gone, .gone, .gone, .gone, .gone, .gone, .gone, .gone, .gone, .gone, .gone, .gone, .gone, .gone, .gone, .gone, .gone, .gone, .gone, .gone, .gone, .gone, .gone, .gone], []⟩
def spec_AreSignals.con : Con := { ps := [(.val, (.sl 153 (.pair (.int .i64) (.int .i64))))], rs := [(.val, .bool)], F := fun x => spec_AreSignals.f x }
def spec_AreSignals.cs : List (FuncId × Con) := [(105, spec_l01In.con)]
def spec_AreSignals.E : Env := envOf tab spec_AreSignals.cs 0 false
def spec_AreSignals.keep (i : Nat) : List Nat := if i = 2 then [0, 3] else []
def spec_AreSignals.at2 (n : Nat) (x : List (Int × Int)) : Code × (Ex → St → Option (Bool)) := ctx spec_AreSignals.E spec_AreSignals.keep n [.snd, .fst, .snd, .blk] (codeOf Try.f50) (kEnd spec_AreSignals.E Try.f50 spec_AreSignals.con x)
def spec_AreSignals.LN2 (n : Nat) (x : List (Int × Int)) : Nat → St → Option (Bool) := loopN (exec spec_AreSignals.E spec_AreSignals.keep n (bodyOf (spec_AreSignals.at2 n x).1)) (St.norm 0 (spec_AreSignals.keep 2)) (spec_AreSignals.at2 n x).2
set_option maxRecDepth 100000 in
theorem spec_AreSignals.lem2 (n : Nat) (x : List (Int × Int)) : ∀ (k : Nat) (list0 : List (Int × Int)) (i3 : Int), spec_AreSignals.LN2 n x k (spec_AreSignals.st2 list0 i3) = spec_AreSignals.l2 n k list0 i3 := by
  intro k
  induction k with
  | zero => intro list0 i3; rfl
  | succ k ih =>
    intro list0 i3
    have h : spec_AreSignals.LN2 n x (k + 1) (spec_AreSignals.st2 list0 i3) = spec_AreSignals.g2 (fun list0 i3 => spec_AreSignals.LN2 n x k (spec_AreSignals.st2 list0 i3)) list0 i3 := by kernel_rfl
    rw [h]
    simp only [ih]
    rfl
set_option maxRecDepth 100000 in
theorem spec_AreSignals.body (n : Nat) (x : List (Int × Int)) : bodyF spec_AreSignals.E spec_AreSignals.keep n Try.f50 spec_AreSignals.con x = spec_AreSignals.fn n x := by
  have h : bodyF spec_AreSignals.E spec_AreSignals.keep n Try.f50 spec_AreSignals.con x = spec_AreSignals.top (fun list0 i3 => spec_AreSignals.LN2 n x n (spec_AreSignals.st2 list0 i3)) x := by kernel_rfl
  rw [h]
  simp only [spec_AreSignals.lem2]
  rfl
set_option maxRecDepth 100000 in
theorem spec_AreSignals.good : Good Try.prog 50 spec_AreSignals.con :=
  good_of tabok (cs := spec_AreSignals.cs) ⟨spec_l01In.good, trivial⟩ 0 false (fn := Try.f50) Try.func50 rfl (by decide) (by simp [spec_AreSignals.con]) spec_AreSignals.keep NN (fun _ => rfl) (fun x => spec_AreSignals.body NN x)
end
end Go.Ev.Try

namespace Go.Ev.Try
open Go.Proofs Go.Pl
set_option linter.unusedVariables false
noncomputable section
def spec_l01All.st2 (words0 : List ByteArray) (i3 : Int) : St := ⟨[.dat (.sl 9 .str) words0, .gone, .gone, .dat (.int .i64) i3, .gone, .gone, .gone, .gone, .gone, .gone, .gone, .gone, .gone, .gone, .gone, .gone], []⟩
def spec_l01All.con : Con := { ps := [(.val, (.sl 9 .str))], rs := [(.val, .bool)], F := fun x => spec_l01All.f x }
def spec_l01All.cs : List (FuncId × Con) := [(104, spec_IsWord.con)]
def spec_l01All.E : Env := envOf tab spec_l01All.cs 0 false
def spec_l01All.keep (i : Nat) : List Nat := if i = 2 then [0, 3] else []
def spec_l01All.at2 (n : Nat) (x : List ByteArray) : Code × (Ex → St → Option (Bool)) := ctx spec_l01All.E spec_l01All.keep n [.snd, .fst, .snd, .blk] (codeOf Try.f138) (kEnd spec_l01All.E Try.f138 spec_l01All.con x)
def spec_l01All.LN2 (n : Nat) (x : List ByteArray) : Nat → St → Option (Bool) := loopN (exec spec_l01All.E spec_l01All.keep n (bodyOf (spec_l01All.at2 n x).1)) (St.norm 0 (spec_l01All.keep 2)) (spec_l01All.at2 n x).2
set_option maxRecDepth 100000 in
theorem spec_l01All.lem2 (n : Nat) (x : List ByteArray) : ∀ (k : Nat) (words0 : List ByteArray) (i3 : Int), spec_l01All.LN2 n x k (spec_l01All.st2 words0 i3) = spec_l01All.l2 n k words0 i3 := by
  intro k
  induction k with
  | zero => intro words0 i3; rfl
  | succ k ih =>
    intro words0 i3
    have h : spec_l01All.LN2 n x (k + 1) (spec_l01All.st2 words0 i3) = spec_l01All.g2 (fun words0 i3 => spec_l01All.LN2 n x k (spec_l01All.st2 words0 i3)) words0 i3 := by kernel_rfl
    rw [h]
    simp only [ih]
    rfl
set_option maxRecDepth 100000 in
theorem spec_l01All.body (n : Nat) (x : List ByteArray) : bodyF spec_l01All.E spec_l01All.keep n Try.f138 spec_l01All.con x = spec_l01All.fn n x := by
  have h : bodyF spec_l01All.E spec_l01All.keep n Try.f138 spec_l01All.con x = spec_l01All.top (fun words0 i3 => spec_l01All.LN2 n x n (spec_l01All.st2 words0 i3)) x := by kernel_rfl
  rw [h]
  simp only [spec_l01All.lem2]
  rfl
set_option maxRecDepth 100000 in
theorem spec_l01All.good : Good Try.prog 138 spec_l01All.con :=
  good_of tabok (cs := spec_l01All.cs) ⟨spec_IsWord.good, trivial⟩ 0 false (fn := Try.f138) Try.func138 rfl (by decide) (by simp [spec_l01All.con]) spec_l01All.keep NN (fun _ => rfl) (fun x => spec_l01All.body NN x)
end
end Go.Ev.Try

namespace Go.Ev.Try
open Go.Proofs Go.Pl
set_option linter.unusedVariables false
noncomputable section
def spec_l22Times.st2 (times0 : List Int) (list1 : List (Int × Int)) (moves2 : List (Int × ByteArray × Int)) (zones3 : List ByteArray) (i9 : Int) : St := ⟨[.dat (.sl 2 (.int .i64)) times0, .dat (.sl 153 (.pair (.int .i64) (.int .i64))) list1, .dat (.sl 148 (.pair (.int .i64) (.pair .str (.int .i64)))) moves2, .dat (.sl 9 .str) zones3, .gone, .gone, .gone, .gone, .gone, .dat (.int .i64) i9, .gone, .gone, .gone, .gone, .gone, .gone, .gone, .gone, .gone, .gone, .gone, .gone, .gone, .gone, .gone, .gone, .gone, .gone, .gone, .gone, .gone, .gone, .gone, .gone, .gone, .gone, .gone, .gone, .gone, .gone, .gone, .gone, .gone, .gone, .gone], []⟩
def spec_l22Times.con : Con := { ps := [(.val, (.sl 2 (.int .i64))), (.val, (.sl 153 (.pair (.int .i64) (.int .i64)))), (.val, (.sl 148 (.pair (.int .i64) (.pair .str (.int .i64))))), (.val, (.sl 9 .str))], rs := [(.val, (.int .i64))], F := fun x => spec_l22Times.f x.1 x.2.1 x.2.2.1 x.2.2.2 }
def spec_l22Times.cs : List (FuncId × Con) := [(49, spec_AreMoves.con), (50, spec_AreSignals.con), (103, spec_l01IsTime.con), (138, spec_l01All.con)]
def spec_l22Times.E : Env := envOf tab spec_l22Times.cs 0 false
def spec_l22Times.keep (i : Nat) : List Nat := if i = 2 then [0, 1, 2, 3, 9] else []
def spec_l22Times.at2 (n : Nat) (x : List Int × (List (Int × Int)) × (List (Int × ByteArray × Int)) × List ByteArray) : Code × (Ex → St → Option (Int)) := ctx spec_l22Times.E spec_l22Times.keep n [.snd, .fst, .snd, .blk] (codeOf Try.f82) (kEnd spec_l22Times.E Try.f82 spec_l22Times.con x)
def spec_l22Times.LN2 (n : Nat) (x : List Int × (List (Int × Int)) × (List (Int × ByteArray × Int)) × List ByteArray) : Nat → St → Option (Int) := loopN (exec spec_l22Times.E spec_l22Times.keep n (bodyOf (spec_l22Times.at2 n x).1)) (St.norm 0 (spec_l22Times.keep 2)) (spec_l22Times.at2 n x).2
set_option maxRecDepth 100000 in
theorem spec_l22Times.lem2 (n : Nat) (x : List Int × (List (Int × Int)) × (List (Int × ByteArray × Int)) × List ByteArray) : ∀ (k : Nat) (times0 : List Int) (list1 : List (Int × Int)) (moves2 : List (Int × ByteArray × Int)) (zones3 : List ByteArray) (i9 : Int), spec_l22Times.LN2 n x k (spec_l22Times.st2 times0 list1 moves2 zones3 i9) = spec_l22Times.l2 n k times0 list1 moves2 zones3 i9 := by
  intro k
  induction k with
  | zero => intro times0 list1 moves2 zones3 i9; rfl
  | succ k ih =>
    intro times0 list1 moves2 zones3 i9
    have h : spec_l22Times.LN2 n x (k + 1) (spec_l22Times.st2 times0 list1 moves2 zones3 i9) = spec_l22Times.g2 (fun times0 list1 moves2 zones3 i9 => spec_l22Times.LN2 n x k (spec_l22Times.st2 times0 list1 moves2 zones3 i9)) times0 list1 moves2 zones3 i9 := by kernel_rfl
    rw [h]
    simp only [ih]
    rfl
set_option maxRecDepth 100000 in
theorem spec_l22Times.body (n : Nat) (x : List Int × (List (Int × Int)) × (List (Int × ByteArray × Int)) × List ByteArray) : bodyF spec_l22Times.E spec_l22Times.keep n Try.f82 spec_l22Times.con x = spec_l22Times.fn n x.1 x.2.1 x.2.2.1 x.2.2.2 := by
  have h : bodyF spec_l22Times.E spec_l22Times.keep n Try.f82 spec_l22Times.con x = spec_l22Times.top (fun times0 list1 moves2 zones3 i9 => spec_l22Times.LN2 n x n (spec_l22Times.st2 times0 list1 moves2 zones3 i9)) x.1 x.2.1 x.2.2.1 x.2.2.2 := by kernel_rfl
  rw [h]
  simp only [spec_l22Times.lem2]
  rfl
set_option maxRecDepth 100000 in
theorem spec_l22Times.good : Good Try.prog 82 spec_l22Times.con :=
  good_of tabok (cs := spec_l22Times.cs) ⟨spec_AreMoves.good, spec_AreSignals.good, spec_l01IsTime.good, spec_l01All.good, trivial⟩ 0 false (fn := Try.f82) Try.func82 rfl (by decide) (by simp [spec_l22Times.con]) spec_l22Times.keep NN (fun _ => rfl) (fun x => spec_l22Times.body NN x)
end
end Go.Ev.Try

namespace Go.Ev.Try
open Go.Proofs Go.Pl
set_option linter.unusedVariables false
noncomputable section
def spec_l21Off.con : Con := { ps := [(.val, (.pair .bool (.pair .bool (.pair .bool (.pair .bool (.pair .bool (.int .i64)))))))], rs := [(.val, (.pair .bool (.pair .bool (.pair .bool (.pair .bool (.pair .bool (.int .i64)))))))], F := fun x => spec_l21Off.f x }
def spec_l21Off.cs : List (FuncId × Con) := []
def spec_l21Off.E : Env := envOf tab spec_l21Off.cs 0 false
def spec_l21Off.keep (i : Nat) : List Nat := []
set_option maxRecDepth 100000 in
theorem spec_l21Off.body (n : Nat) (x : Bool × Bool × Bool × Bool × Bool × Int) : bodyF spec_l21Off.E spec_l21Off.keep n Try.f168 spec_l21Off.con x = spec_l21Off.fn n x := by
  have h : bodyF spec_l21Off.E spec_l21Off.keep n Try.f168 spec_l21Off.con x = spec_l21Off.top x := by kernel_rfl
  exact h
set_option maxRecDepth 100000 in
theorem spec_l21Off.good : Good Try.prog 168 spec_l21Off.con :=
  good_of tabok (cs := spec_l21Off.cs) trivial 0 false (fn := Try.f168) Try.func168 rfl (by decide) (by simp [spec_l21Off.con]) spec_l21Off.keep NN (fun _ => rfl) (fun x => spec_l21Off.body NN x)
end
end Go.Ev.Try

namespace Go.Ev.Try
open Go.Proofs Go.Pl
set_option linter.unusedVariables false
noncomputable section
def spec_l21Give.con : Con := { ps := [(.val, (.pair .bool (.pair .bool (.pair .bool (.pair .bool (.pair .bool (.int .i64))))))), (.val, (.int .i64))], rs := [(.val, (.pair .bool (.pair .bool (.pair .bool (.pair .bool (.pair .bool (.int .i64))))))), (.val, .bool)], F := fun x => spec_l21Give.f x.1 x.2 }
def spec_l21Give.cs : List (FuncId × Con) := [(168, spec_l21Off.con)]
def spec_l21Give.E : Env := envOf tab spec_l21Give.cs 0 false
def spec_l21Give.keep (i : Nat) : List Nat := []
set_option maxRecDepth 100000 in
theorem spec_l21Give.body (n : Nat) (x : (Bool × Bool × Bool × Bool × Bool × Int) × Int) : bodyF spec_l21Give.E spec_l21Give.keep n Try.f163 spec_l21Give.con x = spec_l21Give.fn n x.1 x.2 := by
  have h : bodyF spec_l21Give.E spec_l21Give.keep n Try.f163 spec_l21Give.con x = spec_l21Give.top x.1 x.2 := by kernel_rfl
  exact h
set_option maxRecDepth 100000 in
theorem spec_l21Give.good : Good Try.prog 163 spec_l21Give.con :=
  good_of tabok (cs := spec_l21Give.cs) ⟨spec_l21Off.good, trivial⟩ 0 false (fn := Try.f163) Try.func163 rfl (by decide) (by simp [spec_l21Give.con]) spec_l21Give.keep NN (fun _ => rfl) (fun x => spec_l21Give.body NN x)
end
end Go.Ev.Try

namespace Go.Ev.Try
open Go.Proofs Go.Pl
set_option linter.unusedVariables false
noncomputable section
def spec_l22Ticks.st2 (k5 : Int) (c2 : Bool × Bool × Bool × Bool × Bool × Int) (v4a : Bool) (v4ba : Bool) (v4bba : Bool) (v4bbba : Bool) (v4bbbba : Bool) (v4bbbbb : Int) : St := ⟨[.gone, .gone, .ptr 0 [], .gone, .ptr 1 [], .dat (.int .i64) k5, .gone, .gone, .gone, .gone, .gone, .gone, .gone, .gone, .gone, .gone, .gone, .gone, .gone, .gone, .gone], [.box 176 (.pair .bool (.pair .bool (.pair .bool (.pair .bool (.pair .bool (.int .i64)))))) (.dat (.pair .bool (.pair .bool (.pair .bool (.pair .bool (.pair .bool (.int .i64)))))) c2), .box 176 (.pair .bool (.pair .bool (.pair .bool (.pair .bool (.pair .bool (.int .i64)))))) (.pr (.dat .bool v4a) (.pr (.dat .bool v4ba) (.pr (.dat .bool v4bba) (.pr (.dat .bool v4bbba) (.pr (.dat .bool v4bbbba) (.dat (.int .i64) v4bbbbb))))))]⟩
def spec_l22Ticks.con : Con := { ps := [(.val, (.pair .bool (.pair .bool (.pair .bool (.pair .bool (.pair .bool (.int .i64))))))), (.val, (.int .i64))], rs := [(.val, (.pair .bool (.pair .bool (.pair .bool (.pair .bool (.pair .bool (.int .i64)))))))], F := fun x => spec_l22Ticks.f x.1 x.2 }
def spec_l22Ticks.cs : List (FuncId × Con) := [(163, spec_l21Give.con)]
def spec_l22Ticks.E : Env := envOf tab spec_l22Ticks.cs 0 false
def spec_l22Ticks.keep (i : Nat) : List Nat := if i = 2 then [2, 4, 5] else []
def spec_l22Ticks.at2 (n : Nat) (x : (Bool × Bool × Bool × Bool × Bool × Int) × Int) : Code × (Ex → St → Option ((Bool × Bool × Bool × Bool × Bool × Int))) := ctx spec_l22Ticks.E spec_l22Ticks.keep n [.snd, .fst, .snd, .blk] (codeOf Try.f162) (kEnd spec_l22Ticks.E Try.f162 spec_l22Ticks.con x)
def spec_l22Ticks.LN2 (n : Nat) (x : (Bool × Bool × Bool × Bool × Bool × Int) × Int) : Nat → St → Option ((Bool × Bool × Bool × Bool × Bool × Int)) := loopN (exec spec_l22Ticks.E spec_l22Ticks.keep n (bodyOf (spec_l22Ticks.at2 n x).1)) (St.norm 0 (spec_l22Ticks.keep 2)) (spec_l22Ticks.at2 n x).2
set_option maxRecDepth 100000 in
theorem spec_l22Ticks.lem2 (n : Nat) (x : (Bool × Bool × Bool × Bool × Bool × Int) × Int) : ∀ (k : Nat) (k5 : Int) (c2 : Bool × Bool × Bool × Bool × Bool × Int) (v4a : Bool) (v4ba : Bool) (v4bba : Bool) (v4bbba : Bool) (v4bbbba : Bool) (v4bbbbb : Int), spec_l22Ticks.LN2 n x k (spec_l22Ticks.st2 k5 c2 v4a v4ba v4bba v4bbba v4bbbba v4bbbbb) = spec_l22Ticks.l2 n k k5 c2 v4a v4ba v4bba v4bbba v4bbbba v4bbbbb := by
  intro k
  induction k with
  | zero => intro k5 c2 v4a v4ba v4bba v4bbba v4bbbba v4bbbbb; rfl
  | succ k ih =>
    intro k5 c2 v4a v4ba v4bba v4bbba v4bbbba v4bbbbb
    have h : spec_l22Ticks.LN2 n x (k + 1) (spec_l22Ticks.st2 k5 c2 v4a v4ba v4bba v4bbba v4bbbba v4bbbbb) = spec_l22Ticks.g2 (fun k5 c2 v4a v4ba v4bba v4bbba v4bbbba v4bbbbb => spec_l22Ticks.LN2 n x k (spec_l22Ticks.st2 k5 c2 v4a v4ba v4bba v4bbba v4bbbba v4bbbbb)) k5 c2 v4a v4ba v4bba v4bbba v4bbbba v4bbbbb := by kernel_rfl
    rw [h]
    simp only [ih]
    rfl
set_option maxRecDepth 100000 in
theorem spec_l22Ticks.body (n : Nat) (x : (Bool × Bool × Bool × Bool × Bool × Int) × Int) : bodyF spec_l22Ticks.E spec_l22Ticks.keep n Try.f162 spec_l22Ticks.con x = spec_l22Ticks.fn n x.1 x.2 := by
  have h : bodyF spec_l22Ticks.E spec_l22Ticks.keep n Try.f162 spec_l22Ticks.con x = spec_l22Ticks.top (fun k5 c2 v4a v4ba v4bba v4bbba v4bbbba v4bbbbb => spec_l22Ticks.LN2 n x n (spec_l22Ticks.st2 k5 c2 v4a v4ba v4bba v4bbba v4bbbba v4bbbbb)) x.1 x.2 := by kernel_rfl
  rw [h]
  simp only [spec_l22Ticks.lem2]
  rfl
set_option maxRecDepth 100000 in
theorem spec_l22Ticks.good : Good Try.prog 162 spec_l22Ticks.con :=
  good_of tabok (cs := spec_l22Ticks.cs) ⟨spec_l21Give.good, trivial⟩ 0 false (fn := Try.f162) Try.func162 rfl (by decide) (by simp [spec_l22Ticks.con]) spec_l22Ticks.keep NN (fun _ => rfl) (fun x => spec_l22Ticks.body NN x)
end
end Go.Ev.Try

namespace Go.Ev.Try
open Go.Proofs Go.Pl
set_option linter.unusedVariables false
noncomputable section
def spec_l22At.st4 (list0 : List (Int × Int)) (tick1 : Int) (now7 : Int) (i9 : Int) (v4a : Bool) (v4ba : Bool) (v4bba : Bool) (v4bbba : Bool) (v4bbbba : Bool) (v4bbbbb : Int) (c6 : Bool × Bool × Bool × Bool × Bool × Int) (refused8 : List Int) : St := ⟨[.dat (.sl 153 (.pair (.int .i64) (.int .i64))) list0, .dat (.int .i64) tick1, .gone, .gone, .ptr 0 [], .gone, .ptr 1 [], .dat (.int .i64) now7, .ref 2, .dat (.int .i64) i9, .gone, .gone, .gone, .gone, .gone, .gone, .gone, .gone, .gone, .gone, .gone, .gone, .gone, .gone, .gone, .gone, .gone, .gone, .gone, .gone, .gone, .gone, .gone, .gone, .gone, .gone, .gone, .gone, .gone, .gone, .gone, .gone, .gone, .gone, .gone, .gone, .gone, .gone, .gone, .gone, .gone, .gone, .gone, .gone, .gone, .gone, .gone, .gone, .gone, .gone, .gone, .gone, .gone, .gone, .gone], [.box 176 (.pair .bool (.pair .bool (.pair .bool (.pair .bool (.pair .bool (.int .i64)))))) (.pr (.dat .bool v4a) (.pr (.dat .bool v4ba) (.pr (.dat .bool v4bba) (.pr (.dat .bool v4bbba) (.pr (.dat .bool v4bbbba) (.dat (.int .i64) v4bbbbb)))))), .box 176 (.pair .bool (.pair .bool (.pair .bool (.pair .bool (.pair .bool (.int .i64)))))) (.dat (.pair .bool (.pair .bool (.pair .bool (.pair .bool (.pair .bool (.int .i64)))))) c6), .row 2 (.int .i64) refused8 none]⟩
def spec_l22At.tr0 (L4 : (List (Int × Int)) → Int → Int → Int → Bool → Bool → Bool → Bool → Bool → Int → (Bool × Bool × Bool × Bool × Bool × Int) → List Int → Option ((Bool × Bool × Bool × Bool × Bool × Int) × List Int)) (list0 : List (Int × Int)) (tick1 : Int) (i9 : Int) (v4a : Bool) (v4ba : Bool) (v4bba : Bool) (v4bbba : Bool) (v4bbbba : Bool) (v4bbbbb : Int) (refused8 : List Int) (r1 : (Bool × Bool × Bool × Bool × Bool × Int)) : Option ((Bool × Bool × Bool × Bool × Bool × Int) × List Int) :=
  (spec_l21Give.f r1 ((list0.getD (i9 : Int).toNat (0, 0)).2)).bind fun r2 =>
  if r2.2 = true then
    L4 list0 tick1 ((list0.getD (i9 : Int).toNat (0, 0)).1) (IntKind.i64.wrap (i9 + 1)) v4a v4ba v4bba v4bbba v4bbbba v4bbbbb r2.1 refused8
  else if refused8.length + ([i9]).length < room 8 then
    L4 list0 tick1 ((list0.getD (i9 : Int).toNat (0, 0)).1) (IntKind.i64.wrap (i9 + 1)) v4a v4ba v4bba v4bbba v4bbbba v4bbbbb r1 (refused8 ++ ([i9]))
  else
    none
def spec_l22At.tr1 (L4 : (List (Int × Int)) → Int → Int → Int → Bool → Bool → Bool → Bool → Bool → Int → (Bool × Bool × Bool × Bool × Bool × Int) → List Int → Option ((Bool × Bool × Bool × Bool × Bool × Int) × List Int)) (list0 : List (Int × Int)) (tick1 : Int) (i9 : Int) (v4a : Bool) (v4ba : Bool) (v4bba : Bool) (v4bbba : Bool) (v4bbbba : Bool) (v4bbbbb : Int) (refused8 : List Int) (r1 : (Bool × Bool × Bool × Bool × Bool × Int)) : Option ((Bool × Bool × Bool × Bool × Bool × Int) × List Int) :=
  agree (
    spec_l22At.tr0 L4 list0 tick1 i9 v4a v4ba v4bba v4bbba v4bbbba v4bbbbb refused8 r1
  ) (
    spec_l22At.tr0 L4 list0 tick1 i9 v4a v4ba v4bba v4bbba v4bbbba v4bbbbb refused8 r1
  )
def spec_l22At.tr2 (L4 : (List (Int × Int)) → Int → Int → Int → Bool → Bool → Bool → Bool → Bool → Int → (Bool × Bool × Bool × Bool × Bool × Int) → List Int → Option ((Bool × Bool × Bool × Bool × Bool × Int) × List Int)) (list0 : List (Int × Int)) (tick1 : Int) (i9 : Int) (v4a : Bool) (v4ba : Bool) (v4bba : Bool) (v4bbba : Bool) (v4bbbba : Bool) (v4bbbbb : Int) (refused8 : List Int) (r1 : (Bool × Bool × Bool × Bool × Bool × Int)) : Option ((Bool × Bool × Bool × Bool × Bool × Int) × List Int) :=
  agree (
    spec_l22At.tr1 L4 list0 tick1 i9 v4a v4ba v4bba v4bbba v4bbbba v4bbbbb refused8 r1
  ) (
    spec_l22At.tr0 L4 list0 tick1 i9 v4a v4ba v4bba v4bbba v4bbbba v4bbbbb refused8 r1
  )
def spec_l22At.g4raw (L4 : (List (Int × Int)) → Int → Int → Int → Bool → Bool → Bool → Bool → Bool → Int → (Bool × Bool × Bool × Bool × Bool × Int) → List Int → Option ((Bool × Bool × Bool × Bool × Bool × Int) × List Int)) (list0 : List (Int × Int)) (tick1 : Int) (now7 : Int) (i9 : Int) (v4a : Bool) (v4ba : Bool) (v4bba : Bool) (v4bbba : Bool) (v4bbbba : Bool) (v4bbbbb : Int) (c6 : Bool × Bool × Bool × Bool × Bool × Int) (refused8 : List Int) : Option ((Bool × Bool × Bool × Bool × Bool × Int) × List Int) :=
  if (decide ((i9 : Int) < (list0.length : Int))) = true then
    if (0 : Int) ≤ i9 ∧ (i9 : Int) < list0.length then
      if (decide ((((list0.getD (i9 : Int).toNat (0, 0)).1) : Int) ≤ tick1)) = true then
        if (0 : Int) ≤ i9 ∧ (i9 : Int) < list0.length then
          (spec_l22Ticks.f c6 (IntKind.i64.wrap (((list0.getD (i9 : Int).toNat (0, 0)).1) - now7))).bind fun r1 =>
          if (0 : Int) ≤ i9 ∧ (i9 : Int) < list0.length then
            if (0 : Int) ≤ i9 ∧ (i9 : Int) < list0.length then
              agree (
                spec_l22At.tr2 L4 list0 tick1 i9 v4a v4ba v4bba v4bbba v4bbbba v4bbbbb refused8 r1
              ) (
                agree (
                  spec_l22At.tr2 L4 list0 tick1 i9 v4a v4ba v4bba v4bbba v4bbbba v4bbbbb refused8 r1
                ) (
                  spec_l22At.tr1 L4 list0 tick1 i9 v4a v4ba v4bba v4bbba v4bbbba v4bbbbb refused8 r1
                )
              )
            else
              none
          else
            none
        else
          none
      else
        (spec_l22Ticks.f c6 (IntKind.i64.wrap (tick1 - now7))).bind fun r3 =>
        some (r3, refused8)
    else
      none
  else
    (spec_l22Ticks.f c6 (IntKind.i64.wrap (tick1 - now7))).bind fun r4 =>
    some (r4, refused8)
theorem spec_l22At.g4raw_eq (L4 : (List (Int × Int)) → Int → Int → Int → Bool → Bool → Bool → Bool → Bool → Int → (Bool × Bool × Bool × Bool × Bool × Int) → List Int → Option ((Bool × Bool × Bool × Bool × Bool × Int) × List Int)) (list0 : List (Int × Int)) (tick1 : Int) (now7 : Int) (i9 : Int) (v4a : Bool) (v4ba : Bool) (v4bba : Bool) (v4bbba : Bool) (v4bbbba : Bool) (v4bbbbb : Int) (c6 : Bool × Bool × Bool × Bool × Bool × Int) (refused8 : List Int) : spec_l22At.g4raw L4 list0 tick1 now7 i9 v4a v4ba v4bba v4bbba v4bbbba v4bbbbb c6 refused8 = spec_l22At.g4 L4 list0 tick1 now7 i9 v4a v4ba v4bba v4bbba v4bbbba v4bbbbb c6 refused8 := by
  unfold spec_l22At.g4raw spec_l22At.g4
  simp only [agree_self, spec_l22At.tr0, spec_l22At.tr1, spec_l22At.tr2]
def spec_l22At.con : Con := { ps := [(.val, (.sl 153 (.pair (.int .i64) (.int .i64)))), (.val, (.int .i64))], rs := [(.own, (.pair .bool (.pair .bool (.pair .bool (.pair .bool (.pair .bool (.int .i64))))))), (.own, (.sl 2 (.int .i64)))], F := fun x => spec_l22At.f x.1 x.2 }
def spec_l22At.cs : List (FuncId × Con) := [(162, spec_l22Ticks.con), (163, spec_l21Give.con)]
def spec_l22At.E : Env := envOf tab spec_l22At.cs 0 false
def spec_l22At.keep (i : Nat) : List Nat := if i = 4 then [0, 1, 4, 6, 7, 8, 9, 200006] else []
def spec_l22At.at4 (n : Nat) (x : (List (Int × Int)) × Int) : Code × (Ex → St → Option (((Bool × Bool × Bool × Bool × Bool × Int) × List Int))) := ctx spec_l22At.E spec_l22At.keep n [.snd, .snd, .snd, .fst, .snd, .blk] (codeOf Try.f139) (kEnd spec_l22At.E Try.f139 spec_l22At.con x)
def spec_l22At.LN4 (n : Nat) (x : (List (Int × Int)) × Int) : Nat → St → Option (((Bool × Bool × Bool × Bool × Bool × Int) × List Int)) := loopN (exec spec_l22At.E spec_l22At.keep n (bodyOf (spec_l22At.at4 n x).1)) (St.norm 0 (spec_l22At.keep 4)) (spec_l22At.at4 n x).2
set_option maxRecDepth 100000 in
theorem spec_l22At.lem4 (n : Nat) (x : (List (Int × Int)) × Int) : ∀ (k : Nat) (list0 : List (Int × Int)) (tick1 : Int) (now7 : Int) (i9 : Int) (v4a : Bool) (v4ba : Bool) (v4bba : Bool) (v4bbba : Bool) (v4bbbba : Bool) (v4bbbbb : Int) (c6 : Bool × Bool × Bool × Bool × Bool × Int) (refused8 : List Int), spec_l22At.LN4 n x k (spec_l22At.st4 list0 tick1 now7 i9 v4a v4ba v4bba v4bbba v4bbbba v4bbbbb c6 refused8) = spec_l22At.l4 n k list0 tick1 now7 i9 v4a v4ba v4bba v4bbba v4bbbba v4bbbbb c6 refused8 := by
  intro k
  induction k with
  | zero => intro list0 tick1 now7 i9 v4a v4ba v4bba v4bbba v4bbbba v4bbbbb c6 refused8; rfl
  | succ k ih =>
    intro list0 tick1 now7 i9 v4a v4ba v4bba v4bbba v4bbbba v4bbbbb c6 refused8
    have h : spec_l22At.LN4 n x (k + 1) (spec_l22At.st4 list0 tick1 now7 i9 v4a v4ba v4bba v4bbba v4bbbba v4bbbbb c6 refused8) = spec_l22At.g4raw (fun list0 tick1 now7 i9 v4a v4ba v4bba v4bbba v4bbbba v4bbbbb c6 refused8 => spec_l22At.LN4 n x k (spec_l22At.st4 list0 tick1 now7 i9 v4a v4ba v4bba v4bbba v4bbbba v4bbbbb c6 refused8)) list0 tick1 now7 i9 v4a v4ba v4bba v4bbba v4bbbba v4bbbbb c6 refused8 := by kernel_rfl
    rw [spec_l22At.g4raw_eq] at h
    rw [h]
    simp only [ih]
    rfl
set_option maxRecDepth 100000 in
theorem spec_l22At.body (n : Nat) (x : (List (Int × Int)) × Int) : bodyF spec_l22At.E spec_l22At.keep n Try.f139 spec_l22At.con x = spec_l22At.fn n x.1 x.2 := by
  have h : bodyF spec_l22At.E spec_l22At.keep n Try.f139 spec_l22At.con x = spec_l22At.top (fun list0 tick1 now7 i9 v4a v4ba v4bba v4bbba v4bbbba v4bbbbb c6 refused8 => spec_l22At.LN4 n x n (spec_l22At.st4 list0 tick1 now7 i9 v4a v4ba v4bba v4bbba v4bbbba v4bbbbb c6 refused8)) x.1 x.2 := by kernel_rfl
  rw [h]
  simp only [spec_l22At.lem4]
  rfl
set_option maxRecDepth 100000 in
theorem spec_l22At.good : Good Try.prog 139 spec_l22At.con :=
  good_of tabok (cs := spec_l22At.cs) ⟨spec_l22Ticks.good, spec_l21Give.good, trivial⟩ 0 false (fn := Try.f139) Try.func139 rfl (by decide) (by simp [spec_l22At.con]) spec_l22At.keep NN (fun _ => rfl) (fun x => spec_l22At.body NN x)
end
end Go.Ev.Try

namespace Go.Ev.Try
open Go.Proofs Go.Pl
set_option linter.unusedVariables false
noncomputable section
def spec_l20Upto.st2 (list0 : List (Int × ByteArray × Int)) (t1 : Int) (n5 : Int) : St := ⟨[.dat (.sl 148 (.pair (.int .i64) (.pair .str (.int .i64)))) list0, .dat (.int .i64) t1, .gone, .gone, .gone, .dat (.int .i64) n5, .gone, .gone, .gone, .gone, .gone, .gone, .gone, .gone, .gone, .gone, .gone, .gone, .gone, .gone, .gone, .gone], []⟩
def spec_l20Upto.con : Con := { ps := [(.val, (.sl 148 (.pair (.int .i64) (.pair .str (.int .i64))))), (.val, (.int .i64))], rs := [(.val, (.int .i64))], F := fun x => spec_l20Upto.f x.1 x.2 }
def spec_l20Upto.cs : List (FuncId × Con) := []
def spec_l20Upto.E : Env := envOf tab spec_l20Upto.cs 0 false
def spec_l20Upto.keep (i : Nat) : List Nat := if i = 2 then [0, 1, 5] else []
def spec_l20Upto.at2 (n : Nat) (x : (List (Int × ByteArray × Int)) × Int) : Code × (Ex → St → Option (Int)) := ctx spec_l20Upto.E spec_l20Upto.keep n [.snd, .snd, .fst, .blk] (codeOf Try.f164) (kEnd spec_l20Upto.E Try.f164 spec_l20Upto.con x)
def spec_l20Upto.LN2 (n : Nat) (x : (List (Int × ByteArray × Int)) × Int) : Nat → St → Option (Int) := loopN (exec spec_l20Upto.E spec_l20Upto.keep n (bodyOf (spec_l20Upto.at2 n x).1)) (St.norm 0 (spec_l20Upto.keep 2)) (spec_l20Upto.at2 n x).2
set_option maxRecDepth 100000 in
theorem spec_l20Upto.lem2 (n : Nat) (x : (List (Int × ByteArray × Int)) × Int) : ∀ (k : Nat) (list0 : List (Int × ByteArray × Int)) (t1 : Int) (n5 : Int), spec_l20Upto.LN2 n x k (spec_l20Upto.st2 list0 t1 n5) = spec_l20Upto.l2 n k list0 t1 n5 := by
  intro k
  induction k with
  | zero => intro list0 t1 n5; rfl
  | succ k ih =>
    intro list0 t1 n5
    have h : spec_l20Upto.LN2 n x (k + 1) (spec_l20Upto.st2 list0 t1 n5) = spec_l20Upto.g2 (fun list0 t1 n5 => spec_l20Upto.LN2 n x k (spec_l20Upto.st2 list0 t1 n5)) list0 t1 n5 := by kernel_rfl
    rw [h]
    simp only [ih]
    rfl
set_option maxRecDepth 100000 in
theorem spec_l20Upto.body (n : Nat) (x : (List (Int × ByteArray × Int)) × Int) : bodyF spec_l20Upto.E spec_l20Upto.keep n Try.f164 spec_l20Upto.con x = spec_l20Upto.fn n x.1 x.2 := by
  have h : bodyF spec_l20Upto.E spec_l20Upto.keep n Try.f164 spec_l20Upto.con x = spec_l20Upto.top (fun list0 t1 n5 => spec_l20Upto.LN2 n x n (spec_l20Upto.st2 list0 t1 n5)) x.1 x.2 := by kernel_rfl
  rw [h]
  simp only [spec_l20Upto.lem2]
  rfl
set_option maxRecDepth 100000 in
theorem spec_l20Upto.good : Good Try.prog 164 spec_l20Upto.con :=
  good_of tabok (cs := spec_l20Upto.cs) trivial 0 false (fn := Try.f164) Try.func164 rfl (by decide) (by simp [spec_l20Upto.con]) spec_l20Upto.keep NN (fun _ => rfl) (fun x => spec_l20Upto.body NN x)
end
end Go.Ev.Try

namespace Go.Ev.Try
open Go.Proofs Go.Pl
set_option linter.unusedVariables false
noncomputable section
def spec_l20Clear.st3 (list0 : List (Int × ByteArray × Int)) (zone1 : ByteArray) (t2 : Int) (n7 : Int) (i8 : Int) : St := ⟨[.dat (.sl 148 (.pair (.int .i64) (.pair .str (.int .i64)))) list0, .dat .str zone1, .dat (.int .i64) t2, .gone, .gone, .gone, .gone, .dat (.int .i64) n7, .dat (.int .i64) i8, .gone, .gone, .gone, .gone, .gone, .gone, .gone, .gone, .gone, .gone, .gone, .gone, .gone, .gone, .gone, .gone, .gone, .gone, .gone, .gone, .gone, .gone, .gone, .gone, .gone, .gone, .gone, .gone, .gone, .gone], []⟩
def spec_l20Clear.con : Con := { ps := [(.val, (.sl 148 (.pair (.int .i64) (.pair .str (.int .i64))))), (.val, .str), (.val, (.int .i64))], rs := [(.val, .bool)], F := fun x => spec_l20Clear.f x.1 x.2.1 x.2.2 }
def spec_l20Clear.cs : List (FuncId × Con) := [(106, spec_l20People.con), (164, spec_l20Upto.con)]
def spec_l20Clear.E : Env := envOf tab spec_l20Clear.cs 0 false
def spec_l20Clear.keep (i : Nat) : List Nat := if i = 3 then [0, 1, 2, 7, 8] else []
def spec_l20Clear.at3 (n : Nat) (x : (List (Int × ByteArray × Int)) × ByteArray × Int) : Code × (Ex → St → Option (Bool)) := ctx spec_l20Clear.E spec_l20Clear.keep n [.snd, .snd, .fst, .snd, .blk] (codeOf Try.f140) (kEnd spec_l20Clear.E Try.f140 spec_l20Clear.con x)
def spec_l20Clear.LN3 (n : Nat) (x : (List (Int × ByteArray × Int)) × ByteArray × Int) : Nat → St → Option (Bool) := loopN (exec spec_l20Clear.E spec_l20Clear.keep n (bodyOf (spec_l20Clear.at3 n x).1)) (St.norm 0 (spec_l20Clear.keep 3)) (spec_l20Clear.at3 n x).2
set_option maxRecDepth 100000 in
theorem spec_l20Clear.lem3 (n : Nat) (x : (List (Int × ByteArray × Int)) × ByteArray × Int) : ∀ (k : Nat) (list0 : List (Int × ByteArray × Int)) (zone1 : ByteArray) (t2 : Int) (n7 : Int) (i8 : Int), spec_l20Clear.LN3 n x k (spec_l20Clear.st3 list0 zone1 t2 n7 i8) = spec_l20Clear.l3 n k list0 zone1 t2 n7 i8 := by
  intro k
  induction k with
  | zero => intro list0 zone1 t2 n7 i8; rfl
  | succ k ih =>
    intro list0 zone1 t2 n7 i8
    have h : spec_l20Clear.LN3 n x (k + 1) (spec_l20Clear.st3 list0 zone1 t2 n7 i8) = spec_l20Clear.g3 (fun list0 zone1 t2 n7 i8 => spec_l20Clear.LN3 n x k (spec_l20Clear.st3 list0 zone1 t2 n7 i8)) list0 zone1 t2 n7 i8 := by kernel_rfl
    rw [h]
    simp only [ih]
    rfl
set_option maxRecDepth 100000 in
theorem spec_l20Clear.body (n : Nat) (x : (List (Int × ByteArray × Int)) × ByteArray × Int) : bodyF spec_l20Clear.E spec_l20Clear.keep n Try.f140 spec_l20Clear.con x = spec_l20Clear.fn n x.1 x.2.1 x.2.2 := by
  have h : bodyF spec_l20Clear.E spec_l20Clear.keep n Try.f140 spec_l20Clear.con x = spec_l20Clear.top (fun list0 zone1 t2 n7 i8 => spec_l20Clear.LN3 n x n (spec_l20Clear.st3 list0 zone1 t2 n7 i8)) x.1 x.2.1 x.2.2 := by kernel_rfl
  rw [h]
  simp only [spec_l20Clear.lem3]
  rfl
set_option maxRecDepth 100000 in
theorem spec_l20Clear.good : Good Try.prog 140 spec_l20Clear.con :=
  good_of tabok (cs := spec_l20Clear.cs) ⟨spec_l20People.good, spec_l20Upto.good, trivial⟩ 0 false (fn := Try.f140) Try.func140 rfl (by decide) (by simp [spec_l20Clear.con]) spec_l20Clear.keep NN (fun _ => rfl) (fun x => spec_l20Clear.body NN x)
end
end Go.Ev.Try

namespace Go.Ev.Try
open Go.Proofs Go.Pl
set_option linter.unusedVariables false
noncomputable section
def spec_l22Fired.st9 (times0 : List Int) (list1 : List (Int × Int)) (moves2 : List (Int × ByteArray × Int)) (zones3 : List ByteArray) (i10 : Int) (tick11 : Int) (fired14 : Bool) (k15 : Int) (out9 : List Int) : St := ⟨[.dat (.sl 2 (.int .i64)) times0, .dat (.sl 153 (.pair (.int .i64) (.int .i64))) list1, .dat (.sl 148 (.pair (.int .i64) (.pair .str (.int .i64)))) moves2, .dat (.sl 9 .str) zones3, .gone, .gone, .gone, .gone, .gone, .ref 0, .dat (.int .i64) i10, .dat (.int .i64) tick11, .gone, .gone, .dat .bool fired14, .dat (.int .i64) k15, .gone, .gone, .gone, .gone, .gone, .gone, .gone, .gone, .gone, .gone, .gone, .gone, .gone, .gone, .gone, .gone, .gone, .gone, .gone, .gone, .gone, .gone, .gone, .gone, .gone, .gone, .gone, .gone, .gone, .gone, .gone, .gone, .gone, .gone, .gone, .gone, .gone, .gone, .gone, .gone, .gone, .gone, .gone, .gone, .gone, .gone, .gone, .gone, .gone, .gone, .gone], [.row 2 (.int .i64) out9 none]⟩
def spec_l22Fired.st3 (times0 : List Int) (list1 : List (Int × Int)) (moves2 : List (Int × ByteArray × Int)) (zones3 : List ByteArray) (i10 : Int) (out9 : List Int) : St := ⟨[.dat (.sl 2 (.int .i64)) times0, .dat (.sl 153 (.pair (.int .i64) (.int .i64))) list1, .dat (.sl 148 (.pair (.int .i64) (.pair .str (.int .i64)))) moves2, .dat (.sl 9 .str) zones3, .gone, .gone, .gone, .gone, .gone, .ref 0, .dat (.int .i64) i10, .gone, .gone, .gone, .gone, .gone, .gone, .gone, .gone, .gone, .gone, .gone, .gone, .gone, .gone, .gone, .gone, .gone, .gone, .gone, .gone, .gone, .gone, .gone, .gone, .gone, .gone, .gone, .gone, .gone, .gone, .gone, .gone, .gone, .gone, .gone, .gone, .gone, .gone, .gone, .gone, .gone, .gone, .gone, .gone, .gone, .gone, .gone, .gone, .gone, .gone, .gone, .gone, .gone, .gone, .gone, .gone], [.row 2 (.int .i64) out9 none]⟩
def spec_l22Fired.con : Con := { ps := [(.val, (.sl 2 (.int .i64))), (.val, (.sl 153 (.pair (.int .i64) (.int .i64)))), (.val, (.sl 148 (.pair (.int .i64) (.pair .str (.int .i64))))), (.val, (.sl 9 .str))], rs := [(.own, (.sl 2 (.int .i64)))], F := fun x => spec_l22Fired.f x.1 x.2.1 x.2.2.1 x.2.2.2 }
def spec_l22Fired.cs : List (FuncId × Con) := [(139, spec_l22At.con), (140, spec_l20Clear.con)]
def spec_l22Fired.E : Env := envOf tab spec_l22Fired.cs 0 false
def spec_l22Fired.keep (i : Nat) : List Nat := if i = 9 then [0, 1, 2, 3, 9, 10, 11, 14, 15] else if i = 3 then [0, 1, 2, 3, 9, 10] else []
def spec_l22Fired.at9 (n : Nat) (x : List Int × (List (Int × Int)) × (List (Int × ByteArray × Int)) × List ByteArray) (M3 : St → Option ((List Int))) : Code × (Ex → St → Option ((List Int))) := ctx spec_l22Fired.E spec_l22Fired.keep n [.snd, .snd, .fst, .snd, .blk, .rd M3, .snd, .fst, .blk, .snd, .snd, .snd, .fst, .snd, .blk] (codeOf Try.f83) (kEnd spec_l22Fired.E Try.f83 spec_l22Fired.con x)
def spec_l22Fired.LN9 (n : Nat) (x : List Int × (List (Int × Int)) × (List (Int × ByteArray × Int)) × List ByteArray) (M3 : St → Option ((List Int))) : Nat → St → Option ((List Int)) := loopN (exec spec_l22Fired.E spec_l22Fired.keep n (bodyOf (spec_l22Fired.at9 n x M3).1)) (St.norm 0 (spec_l22Fired.keep 9)) (spec_l22Fired.at9 n x M3).2
def spec_l22Fired.at3 (n : Nat) (x : List Int × (List (Int × Int)) × (List (Int × ByteArray × Int)) × List ByteArray) : Code × (Ex → St → Option ((List Int))) := ctx spec_l22Fired.E spec_l22Fired.keep n [.snd, .snd, .fst, .snd, .blk] (codeOf Try.f83) (kEnd spec_l22Fired.E Try.f83 spec_l22Fired.con x)
def spec_l22Fired.LN3 (n : Nat) (x : List Int × (List (Int × Int)) × (List (Int × ByteArray × Int)) × List ByteArray) : Nat → St → Option ((List Int)) := loopN (exec spec_l22Fired.E spec_l22Fired.keep n (bodyOf (spec_l22Fired.at3 n x).1)) (St.norm 0 (spec_l22Fired.keep 3)) (spec_l22Fired.at3 n x).2
set_option maxRecDepth 100000 in
theorem spec_l22Fired.lem9 (n : Nat) (x : List Int × (List (Int × Int)) × (List (Int × ByteArray × Int)) × List ByteArray) (M3 : St → Option ((List Int))) : ∀ (k : Nat) (times0 : List Int) (list1 : List (Int × Int)) (moves2 : List (Int × ByteArray × Int)) (zones3 : List ByteArray) (i10 : Int) (tick11 : Int) (fired14 : Bool) (k15 : Int) (out9 : List Int), spec_l22Fired.LN9 n x M3 k (spec_l22Fired.st9 times0 list1 moves2 zones3 i10 tick11 fired14 k15 out9) = spec_l22Fired.l9 n (fun times0 list1 moves2 zones3 i10 out9 => M3 (spec_l22Fired.st3 times0 list1 moves2 zones3 i10 out9)) k times0 list1 moves2 zones3 i10 tick11 fired14 k15 out9 := by
  intro k
  induction k with
  | zero => intro times0 list1 moves2 zones3 i10 tick11 fired14 k15 out9; rfl
  | succ k ih =>
    intro times0 list1 moves2 zones3 i10 tick11 fired14 k15 out9
    have h : spec_l22Fired.LN9 n x M3 (k + 1) (spec_l22Fired.st9 times0 list1 moves2 zones3 i10 tick11 fired14 k15 out9) = spec_l22Fired.g9 (fun times0 list1 moves2 zones3 i10 out9 => M3 (spec_l22Fired.st3 times0 list1 moves2 zones3 i10 out9)) (fun times0 list1 moves2 zones3 i10 tick11 fired14 k15 out9 => spec_l22Fired.LN9 n x M3 k (spec_l22Fired.st9 times0 list1 moves2 zones3 i10 tick11 fired14 k15 out9)) times0 list1 moves2 zones3 i10 tick11 fired14 k15 out9 := by kernel_rfl
    rw [h]
    simp only [ih]
    rfl
set_option maxRecDepth 100000 in
theorem spec_l22Fired.lem3 (n : Nat) (x : List Int × (List (Int × Int)) × (List (Int × ByteArray × Int)) × List ByteArray) : ∀ (k : Nat) (times0 : List Int) (list1 : List (Int × Int)) (moves2 : List (Int × ByteArray × Int)) (zones3 : List ByteArray) (i10 : Int) (out9 : List Int), spec_l22Fired.LN3 n x k (spec_l22Fired.st3 times0 list1 moves2 zones3 i10 out9) = spec_l22Fired.l3 n k times0 list1 moves2 zones3 i10 out9 := by
  intro k
  induction k with
  | zero => intro times0 list1 moves2 zones3 i10 out9; rfl
  | succ k ih =>
    intro times0 list1 moves2 zones3 i10 out9
    have h : spec_l22Fired.LN3 n x (k + 1) (spec_l22Fired.st3 times0 list1 moves2 zones3 i10 out9) = spec_l22Fired.g3 (fun times0 list1 moves2 zones3 i10 tick11 fired14 k15 out9 => spec_l22Fired.LN9 n x (spec_l22Fired.LN3 n x k) n (spec_l22Fired.st9 times0 list1 moves2 zones3 i10 tick11 fired14 k15 out9)) (fun times0 list1 moves2 zones3 i10 out9 => spec_l22Fired.LN3 n x k (spec_l22Fired.st3 times0 list1 moves2 zones3 i10 out9)) times0 list1 moves2 zones3 i10 out9 := by kernel_rfl
    rw [h]
    simp only [ih, spec_l22Fired.lem9]
    rfl
set_option maxRecDepth 100000 in
theorem spec_l22Fired.body (n : Nat) (x : List Int × (List (Int × Int)) × (List (Int × ByteArray × Int)) × List ByteArray) : bodyF spec_l22Fired.E spec_l22Fired.keep n Try.f83 spec_l22Fired.con x = spec_l22Fired.fn n x.1 x.2.1 x.2.2.1 x.2.2.2 := by
  have h : bodyF spec_l22Fired.E spec_l22Fired.keep n Try.f83 spec_l22Fired.con x = spec_l22Fired.top (fun times0 list1 moves2 zones3 i10 out9 => spec_l22Fired.LN3 n x n (spec_l22Fired.st3 times0 list1 moves2 zones3 i10 out9)) x.1 x.2.1 x.2.2.1 x.2.2.2 := by kernel_rfl
  rw [h]
  simp only [spec_l22Fired.lem3]
  rfl
set_option maxRecDepth 100000 in
theorem spec_l22Fired.good : Good Try.prog 83 spec_l22Fired.con :=
  good_of tabok (cs := spec_l22Fired.cs) ⟨spec_l22At.good, spec_l20Clear.good, trivial⟩ 0 false (fn := Try.f83) Try.func83 rfl (by decide) (by simp [spec_l22Fired.con]) spec_l22Fired.keep NN (fun _ => rfl) (fun x => spec_l22Fired.body NN x)
end
end Go.Ev.Try

namespace Go.Ev.Try
open Go.Proofs Go.Pl
set_option linter.unusedVariables false
noncomputable section
def spec_FiredSafely.con : Con := { ps := [(.val, (.sl 2 (.int .i64))), (.val, (.sl 153 (.pair (.int .i64) (.int .i64)))), (.val, (.sl 148 (.pair (.int .i64) (.pair .str (.int .i64))))), (.val, (.sl 9 .str))], rs := [(.own, (.sl 2 (.int .i64))), (.own, (.int .i64))], F := fun x => spec_FiredSafely.f x.1 x.2.1 x.2.2.1 x.2.2.2 }
def spec_FiredSafely.cs : List (FuncId × Con) := [(82, spec_l22Times.con), (83, spec_l22Fired.con)]
def spec_FiredSafely.E : Env := envOf tab spec_FiredSafely.cs 0 false
def spec_FiredSafely.keep (i : Nat) : List Nat := []
set_option maxRecDepth 100000 in
theorem spec_FiredSafely.body (n : Nat) (x : List Int × (List (Int × Int)) × (List (Int × ByteArray × Int)) × List ByteArray) : bodyF spec_FiredSafely.E spec_FiredSafely.keep n Try.f29 spec_FiredSafely.con x = spec_FiredSafely.fn n x.1 x.2.1 x.2.2.1 x.2.2.2 := by
  have h : bodyF spec_FiredSafely.E spec_FiredSafely.keep n Try.f29 spec_FiredSafely.con x = spec_FiredSafely.top x.1 x.2.1 x.2.2.1 x.2.2.2 := by kernel_rfl
  exact h
set_option maxRecDepth 100000 in
theorem spec_FiredSafely.good : Good Try.prog 29 spec_FiredSafely.con :=
  good_of tabok (cs := spec_FiredSafely.cs) ⟨spec_l22Times.good, spec_l22Fired.good, trivial⟩ 0 false (fn := Try.f29) Try.func29 rfl (by decide) (by simp [spec_FiredSafely.con]) spec_FiredSafely.keep NN (fun _ => rfl) (fun x => spec_FiredSafely.body NN x)
end
end Go.Ev.Try

namespace Go.Ev.Try
open Go.Proofs Go.Pl
set_option linter.unusedVariables false
noncomputable section
def impl_totalsOf.st3 (article1 : ByteArray) (v9 : List (Int × ByteArray × Int)) (v10 : Int) (v11 : Int) (out5 : List Int) : St := ⟨[.gone, .dat .str article1, .gone, .gone, .gone, .ref 0, .gone, .gone, .gone, .dat (.sl 127 (.pair (.int .i64) (.pair .str (.int .i64)))) v9, .dat (.int .i64) v10, .dat (.int .i64) v11, .gone, .gone, .gone, .gone, .gone, .gone, .gone, .gone, .gone, .gone, .gone, .gone, .gone, .gone, .gone, .gone, .gone, .gone], [.row 2 (.int .i64) out5 none]⟩
def impl_totalsOf.con : Con := { ps := [(.val, (.sl 127 (.pair (.int .i64) (.pair .str (.int .i64))))), (.val, .str)], rs := [(.own, (.sl 2 (.int .i64)))], F := fun x => impl_totalsOf.f x.1 x.2 }
def impl_totalsOf.cs : List (FuncId × Con) := []
def impl_totalsOf.E : Env := envOf tab impl_totalsOf.cs 0 false
def impl_totalsOf.keep (i : Nat) : List Nat := if i = 3 then [1, 5, 9, 10, 11] else []
def impl_totalsOf.at3 (n : Nat) (x : (List (Int × ByteArray × Int)) × ByteArray) : Code × (Ex → St → Option ((List Int))) := ctx impl_totalsOf.E impl_totalsOf.keep n [.snd, .snd, .fst, .snd, .blk] (codeOf Try.f141) (kEnd impl_totalsOf.E Try.f141 impl_totalsOf.con x)
def impl_totalsOf.LN3 (n : Nat) (x : (List (Int × ByteArray × Int)) × ByteArray) : Nat → St → Option ((List Int)) := loopN (exec impl_totalsOf.E impl_totalsOf.keep n (bodyOf (impl_totalsOf.at3 n x).1)) (St.norm 0 (impl_totalsOf.keep 3)) (impl_totalsOf.at3 n x).2
set_option maxRecDepth 100000 in
theorem impl_totalsOf.lem3 (n : Nat) (x : (List (Int × ByteArray × Int)) × ByteArray) : ∀ (k : Nat) (article1 : ByteArray) (v9 : List (Int × ByteArray × Int)) (v10 : Int) (v11 : Int) (out5 : List Int), impl_totalsOf.LN3 n x k (impl_totalsOf.st3 article1 v9 v10 v11 out5) = impl_totalsOf.l3 n k article1 v9 v10 v11 out5 := by
  intro k
  induction k with
  | zero => intro article1 v9 v10 v11 out5; rfl
  | succ k ih =>
    intro article1 v9 v10 v11 out5
    have h : impl_totalsOf.LN3 n x (k + 1) (impl_totalsOf.st3 article1 v9 v10 v11 out5) = impl_totalsOf.g3 (fun article1 v9 v10 v11 out5 => impl_totalsOf.LN3 n x k (impl_totalsOf.st3 article1 v9 v10 v11 out5)) article1 v9 v10 v11 out5 := by kernel_rfl
    rw [h]
    simp only [ih]
    rfl
set_option maxRecDepth 100000 in
theorem impl_totalsOf.body (n : Nat) (x : (List (Int × ByteArray × Int)) × ByteArray) : bodyF impl_totalsOf.E impl_totalsOf.keep n Try.f141 impl_totalsOf.con x = impl_totalsOf.fn n x.1 x.2 := by
  have h : bodyF impl_totalsOf.E impl_totalsOf.keep n Try.f141 impl_totalsOf.con x = impl_totalsOf.top (fun article1 v9 v10 v11 out5 => impl_totalsOf.LN3 n x n (impl_totalsOf.st3 article1 v9 v10 v11 out5)) x.1 x.2 := by kernel_rfl
  rw [h]
  simp only [impl_totalsOf.lem3]
  rfl
set_option maxRecDepth 100000 in
theorem impl_totalsOf.good : Good Try.prog 141 impl_totalsOf.con :=
  good_of tabok (cs := impl_totalsOf.cs) trivial 0 false (fn := Try.f141) Try.func141 rfl (by decide) (by simp [impl_totalsOf.con]) impl_totalsOf.keep NN (fun _ => rfl) (fun x => impl_totalsOf.body NN x)
end
end Go.Ev.Try

namespace Go.Ev.Try
open Go.Proofs Go.Pl
set_option linter.unusedVariables false
noncomputable section
def impl_piecesLeft.con : Con := { ps := [(.val, (.sl 127 (.pair (.int .i64) (.pair .str (.int .i64))))), (.val, .str)], rs := [(.val, (.int .i64))], F := fun x => impl_piecesLeft.f x.1 x.2 }
def impl_piecesLeft.cs : List (FuncId × Con) := [(141, impl_totalsOf.con)]
def impl_piecesLeft.E : Env := envOf tab impl_piecesLeft.cs 0 false
def impl_piecesLeft.keep (i : Nat) : List Nat := []
set_option maxRecDepth 100000 in
theorem impl_piecesLeft.body (n : Nat) (x : (List (Int × ByteArray × Int)) × ByteArray) : bodyF impl_piecesLeft.E impl_piecesLeft.keep n Try.f88 impl_piecesLeft.con x = impl_piecesLeft.fn n x.1 x.2 := by
  have h : bodyF impl_piecesLeft.E impl_piecesLeft.keep n Try.f88 impl_piecesLeft.con x = impl_piecesLeft.top x.1 x.2 := by kernel_rfl
  exact h
set_option maxRecDepth 100000 in
theorem impl_piecesLeft.good : Good Try.prog 88 impl_piecesLeft.con :=
  good_of tabok (cs := impl_piecesLeft.cs) ⟨impl_totalsOf.good, trivial⟩ 0 false (fn := Try.f88) Try.func88 rfl (by decide) (by simp [impl_piecesLeft.con]) impl_piecesLeft.keep NN (fun _ => rfl) (fun x => impl_piecesLeft.body NN x)
end
end Go.Ev.Try

namespace Go.Ev.Try
open Go.Proofs Go.Pl
set_option linter.unusedVariables false
noncomputable section
def impl_AreBookings.st4 (list0 : List (Int × ByteArray × Int)) (v8 : List (Int × ByteArray × Int)) (v9 : Int) (v10 : Int) : St := ⟨[.dat (.sl 127 (.pair (.int .i64) (.pair .str (.int .i64)))) list0, .gone, .gone, .gone, .gone, .gone, .gone, .gone, .dat (.sl 127 (.pair (.int .i64) (.pair .str (.int .i64)))) v8, .dat (.int .i64) v9, .dat (.int .i64) v10, .gone, .gone, .gone, .gone, .gone, .gone, .gone, .gone, .gone, .gone, .gone, .gone, .gone, .gone, .gone, .gone, .gone, .gone, .gone, .gone, .gone, .gone, .gone, .gone, .gone, .gone, .gone, .gone, .gone, .gone, .gone], []⟩
def impl_AreBookings.con : Con := { ps := [(.val, (.sl 127 (.pair (.int .i64) (.pair .str (.int .i64)))))], rs := [(.val, .bool)], F := fun x => impl_AreBookings.f x }
def impl_AreBookings.cs : List (FuncId × Con) := [(87, impl_IsWord.con), (88, impl_piecesLeft.con), (113, impl_within.con)]
def impl_AreBookings.E : Env := envOf tab impl_AreBookings.cs 0 false
def impl_AreBookings.keep (i : Nat) : List Nat := if i = 4 then [0, 8, 9, 10] else []
def impl_AreBookings.at4 (n : Nat) (x : List (Int × ByteArray × Int)) : Code × (Ex → St → Option (Bool)) := ctx impl_AreBookings.E impl_AreBookings.keep n [.snd, .snd, .fst, .snd, .blk] (codeOf Try.f56) (kEnd impl_AreBookings.E Try.f56 impl_AreBookings.con x)
def impl_AreBookings.LN4 (n : Nat) (x : List (Int × ByteArray × Int)) : Nat → St → Option (Bool) := loopN (exec impl_AreBookings.E impl_AreBookings.keep n (bodyOf (impl_AreBookings.at4 n x).1)) (St.norm 0 (impl_AreBookings.keep 4)) (impl_AreBookings.at4 n x).2
set_option maxRecDepth 100000 in
theorem impl_AreBookings.lem4 (n : Nat) (x : List (Int × ByteArray × Int)) : ∀ (k : Nat) (list0 : List (Int × ByteArray × Int)) (v8 : List (Int × ByteArray × Int)) (v9 : Int) (v10 : Int), impl_AreBookings.LN4 n x k (impl_AreBookings.st4 list0 v8 v9 v10) = impl_AreBookings.l4 n k list0 v8 v9 v10 := by
  intro k
  induction k with
  | zero => intro list0 v8 v9 v10; rfl
  | succ k ih =>
    intro list0 v8 v9 v10
    have h : impl_AreBookings.LN4 n x (k + 1) (impl_AreBookings.st4 list0 v8 v9 v10) = impl_AreBookings.g4 (fun list0 v8 v9 v10 => impl_AreBookings.LN4 n x k (impl_AreBookings.st4 list0 v8 v9 v10)) list0 v8 v9 v10 := by kernel_rfl
    rw [h]
    simp only [ih]
    rfl
set_option maxRecDepth 100000 in
theorem impl_AreBookings.body (n : Nat) (x : List (Int × ByteArray × Int)) : bodyF impl_AreBookings.E impl_AreBookings.keep n Try.f56 impl_AreBookings.con x = impl_AreBookings.fn n x := by
  have h : bodyF impl_AreBookings.E impl_AreBookings.keep n Try.f56 impl_AreBookings.con x = impl_AreBookings.top (fun list0 v8 v9 v10 => impl_AreBookings.LN4 n x n (impl_AreBookings.st4 list0 v8 v9 v10)) x := by kernel_rfl
  rw [h]
  simp only [impl_AreBookings.lem4]
  rfl
set_option maxRecDepth 100000 in
theorem impl_AreBookings.good : Good Try.prog 56 impl_AreBookings.con :=
  good_of tabok (cs := impl_AreBookings.cs) ⟨impl_IsWord.good, impl_piecesLeft.good, impl_within.good, trivial⟩ 0 false (fn := Try.f56) Try.func56 rfl (by decide) (by simp [impl_AreBookings.con]) impl_AreBookings.keep NN (fun _ => rfl) (fun x => impl_AreBookings.body NN x)
end
end Go.Ev.Try

namespace Go.Ev.Try
open Go.Proofs Go.Pl
set_option linter.unusedVariables false
noncomputable section
def impl_BookShow.st13 (v71 : Int) (v72 : Int) (x4 : (List (Int × Int)) × (List (ByteArray × Int × Int × Int × Int × Int × Int × Int × Int)) × List (Int × Int × ByteArray × Int)) (out11 : List (Int × ByteArray × Int)) (v70 : List Int) : St := ⟨[.gone, .gone, .gone, .gone, .ptr 0 [], .gone, .gone, .gone, .gone, .gone, .gone, .ref 1, .gone, .gone, .gone, .gone, .gone, .gone, .gone, .gone, .gone, .gone, .gone, .gone, .gone, .gone, .gone, .gone, .gone, .gone, .gone, .gone, .gone, .gone, .gone, .gone, .gone, .gone, .gone, .gone, .gone, .gone, .gone, .gone, .gone, .gone, .gone, .gone, .gone, .gone, .gone, .gone, .gone, .gone, .gone, .gone, .gone, .gone, .gone, .gone, .gone, .gone, .gone, .gone, .gone, .gone, .gone, .gone, .gone, .gone, .ref 2, .dat (.int .i64) v71, .dat (.int .i64) v72, .gone, .gone, .gone, .gone, .gone, .gone, .gone, .gone, .gone, .gone, .gone, .gone, .gone, .gone, .gone, .gone, .gone, .gone, .gone, .gone, .gone, .gone, .gone, .gone, .gone], [.box 62 (.pair (.sl 188 (.pair (.int .i64) (.int .i64))) (.pair (.sl 75 (.pair .str (.pair (.int .i64) (.pair (.int .i64) (.pair (.int .i64) (.pair (.int .i64) (.pair (.int .i64) (.pair (.int .i64) (.pair (.int .i64) (.int .i64)))))))))) (.sl 73 (.pair (.int .i64) (.pair (.int .i64) (.pair .str (.int .i64))))))) (.dat (.pair (.sl 188 (.pair (.int .i64) (.int .i64))) (.pair (.sl 75 (.pair .str (.pair (.int .i64) (.pair (.int .i64) (.pair (.int .i64) (.pair (.int .i64) (.pair (.int .i64) (.pair (.int .i64) (.pair (.int .i64) (.int .i64)))))))))) (.sl 73 (.pair (.int .i64) (.pair (.int .i64) (.pair .str (.int .i64))))))) x4), .row 127 (.pair (.int .i64) (.pair .str (.int .i64))) out11 none, .row 2 (.int .i64) v70 none]⟩
def impl_BookShow.st5 (list0 : List (Int × ByteArray × Int)) (fired2 : List Int) (v26 : List Int) (v27 : Int) (v28 : Int) (x4 : (List (Int × Int)) × (List (ByteArray × Int × Int × Int × Int × Int × Int × Int × Int)) × List (Int × Int × ByteArray × Int)) (counts8 : List Int) : St := ⟨[.dat (.sl 127 (.pair (.int .i64) (.pair .str (.int .i64)))) list0, .gone, .dat (.sl 2 (.int .i64)) fired2, .gone, .ptr 0 [], .gone, .gone, .gone, .ref 1, .gone, .gone, .gone, .gone, .gone, .gone, .gone, .gone, .gone, .gone, .gone, .gone, .gone, .gone, .gone, .gone, .gone, .dat (.sl 2 (.int .i64)) v26, .dat (.int .i64) v27, .dat (.int .i64) v28, .gone, .gone, .gone, .gone, .gone, .gone, .gone, .gone, .gone, .gone, .gone, .gone, .gone, .gone, .gone, .gone, .gone, .gone, .gone, .gone, .gone, .gone, .gone, .gone, .gone, .gone, .gone, .gone, .gone, .gone, .gone, .gone, .gone, .gone, .gone, .gone, .gone, .gone, .gone, .gone, .gone, .gone, .gone, .gone, .gone, .gone, .gone, .gone, .gone, .gone, .gone, .gone, .gone, .gone, .gone, .gone, .gone, .gone, .gone, .gone, .gone, .gone, .gone, .gone, .gone, .gone, .gone, .gone, .gone], [.box 62 (.pair (.sl 188 (.pair (.int .i64) (.int .i64))) (.pair (.sl 75 (.pair .str (.pair (.int .i64) (.pair (.int .i64) (.pair (.int .i64) (.pair (.int .i64) (.pair (.int .i64) (.pair (.int .i64) (.pair (.int .i64) (.int .i64)))))))))) (.sl 73 (.pair (.int .i64) (.pair (.int .i64) (.pair .str (.int .i64))))))) (.dat (.pair (.sl 188 (.pair (.int .i64) (.int .i64))) (.pair (.sl 75 (.pair .str (.pair (.int .i64) (.pair (.int .i64) (.pair (.int .i64) (.pair (.int .i64) (.pair (.int .i64) (.pair (.int .i64) (.pair (.int .i64) (.int .i64)))))))))) (.sl 73 (.pair (.int .i64) (.pair (.int .i64) (.pair .str (.int .i64))))))) x4), .row 2 (.int .i64) counts8 none]⟩
def impl_BookShow.con : Con := { ps := [(.val, (.sl 127 (.pair (.int .i64) (.pair .str (.int .i64))))), (.val, (.pair (.sl 188 (.pair (.int .i64) (.int .i64))) (.pair (.sl 75 (.pair .str (.pair (.int .i64) (.pair (.int .i64) (.pair (.int .i64) (.pair (.int .i64) (.pair (.int .i64) (.pair (.int .i64) (.pair (.int .i64) (.int .i64)))))))))) (.sl 73 (.pair (.int .i64) (.pair (.int .i64) (.pair .str (.int .i64)))))))), (.val, (.sl 2 (.int .i64)))], rs := [(.own, (.sl 127 (.pair (.int .i64) (.pair .str (.int .i64))))), (.own, (.int .i64))], F := fun x => impl_BookShow.f x.1 x.2.1 x.2.2 }
def impl_BookShow.cs : List (FuncId × Con) := [(56, impl_AreBookings.con), (69, impl_articleOf.con), (76, impl_IsShow.con), (84, impl_isIndex.con)]
def impl_BookShow.E : Env := envOf tab impl_BookShow.cs 0 false
def impl_BookShow.keep (i : Nat) : List Nat := if i = 13 then [4, 11, 70, 71, 72] else if i = 5 then [0, 2, 4, 8, 26, 27, 28] else []
def impl_BookShow.at13 (n : Nat) (x : (List (Int × ByteArray × Int)) × ((List (Int × Int)) × (List (ByteArray × Int × Int × Int × Int × Int × Int × Int × Int)) × List (Int × Int × ByteArray × Int)) × List Int) : Code × (Ex → St → Option (((List (Int × ByteArray × Int)) × Int))) := ctx impl_BookShow.E impl_BookShow.keep n [.snd, .snd, .snd, .snd, .snd, .fst, .snd, .blk] (codeOf Try.f30) (kEnd impl_BookShow.E Try.f30 impl_BookShow.con x)
def impl_BookShow.LN13 (n : Nat) (x : (List (Int × ByteArray × Int)) × ((List (Int × Int)) × (List (ByteArray × Int × Int × Int × Int × Int × Int × Int × Int)) × List (Int × Int × ByteArray × Int)) × List Int) : Nat → St → Option (((List (Int × ByteArray × Int)) × Int)) := loopN (exec impl_BookShow.E impl_BookShow.keep n (bodyOf (impl_BookShow.at13 n x).1)) (St.norm 0 (impl_BookShow.keep 13)) (impl_BookShow.at13 n x).2
def impl_BookShow.at5 (n : Nat) (x : (List (Int × ByteArray × Int)) × ((List (Int × Int)) × (List (ByteArray × Int × Int × Int × Int × Int × Int × Int × Int)) × List (Int × Int × ByteArray × Int)) × List Int) : Code × (Ex → St → Option (((List (Int × ByteArray × Int)) × Int))) := ctx impl_BookShow.E impl_BookShow.keep n [.snd, .snd, .snd, .fst, .snd, .blk] (codeOf Try.f30) (kEnd impl_BookShow.E Try.f30 impl_BookShow.con x)
def impl_BookShow.LN5 (n : Nat) (x : (List (Int × ByteArray × Int)) × ((List (Int × Int)) × (List (ByteArray × Int × Int × Int × Int × Int × Int × Int × Int)) × List (Int × Int × ByteArray × Int)) × List Int) : Nat → St → Option (((List (Int × ByteArray × Int)) × Int)) := loopN (exec impl_BookShow.E impl_BookShow.keep n (bodyOf (impl_BookShow.at5 n x).1)) (St.norm 0 (impl_BookShow.keep 5)) (impl_BookShow.at5 n x).2
set_option maxRecDepth 100000 in
theorem impl_BookShow.lem13 (n : Nat) (x : (List (Int × ByteArray × Int)) × ((List (Int × Int)) × (List (ByteArray × Int × Int × Int × Int × Int × Int × Int × Int)) × List (Int × Int × ByteArray × Int)) × List Int) : ∀ (k : Nat) (v71 : Int) (v72 : Int) (x4 : (List (Int × Int)) × (List (ByteArray × Int × Int × Int × Int × Int × Int × Int × Int)) × List (Int × Int × ByteArray × Int)) (out11 : List (Int × ByteArray × Int)) (v70 : List Int), impl_BookShow.LN13 n x k (impl_BookShow.st13 v71 v72 x4 out11 v70) = impl_BookShow.l13 n k v71 v72 x4 out11 v70 := by
  intro k
  induction k with
  | zero => intro v71 v72 x4 out11 v70; rfl
  | succ k ih =>
    intro v71 v72 x4 out11 v70
    have h : impl_BookShow.LN13 n x (k + 1) (impl_BookShow.st13 v71 v72 x4 out11 v70) = impl_BookShow.g13 (fun v71 v72 x4 out11 v70 => impl_BookShow.LN13 n x k (impl_BookShow.st13 v71 v72 x4 out11 v70)) v71 v72 x4 out11 v70 := by kernel_rfl
    rw [h]
    simp only [ih]
    rfl
set_option maxRecDepth 100000 in
theorem impl_BookShow.lem5 (n : Nat) (x : (List (Int × ByteArray × Int)) × ((List (Int × Int)) × (List (ByteArray × Int × Int × Int × Int × Int × Int × Int × Int)) × List (Int × Int × ByteArray × Int)) × List Int) : ∀ (k : Nat) (list0 : List (Int × ByteArray × Int)) (fired2 : List Int) (v26 : List Int) (v27 : Int) (v28 : Int) (x4 : (List (Int × Int)) × (List (ByteArray × Int × Int × Int × Int × Int × Int × Int × Int)) × List (Int × Int × ByteArray × Int)) (counts8 : List Int), impl_BookShow.LN5 n x k (impl_BookShow.st5 list0 fired2 v26 v27 v28 x4 counts8) = impl_BookShow.l5 n k list0 fired2 v26 v27 v28 x4 counts8 := by
  intro k
  induction k with
  | zero => intro list0 fired2 v26 v27 v28 x4 counts8; rfl
  | succ k ih =>
    intro list0 fired2 v26 v27 v28 x4 counts8
    have h : impl_BookShow.LN5 n x (k + 1) (impl_BookShow.st5 list0 fired2 v26 v27 v28 x4 counts8) = impl_BookShow.g5 (fun v71 v72 x4 out11 v70 => impl_BookShow.LN13 n x n (impl_BookShow.st13 v71 v72 x4 out11 v70)) (fun list0 fired2 v26 v27 v28 x4 counts8 => impl_BookShow.LN5 n x k (impl_BookShow.st5 list0 fired2 v26 v27 v28 x4 counts8)) list0 fired2 v26 v27 v28 x4 counts8 := by kernel_rfl
    rw [h]
    simp only [ih, impl_BookShow.lem13]
    rfl
set_option maxRecDepth 100000 in
theorem impl_BookShow.body (n : Nat) (x : (List (Int × ByteArray × Int)) × ((List (Int × Int)) × (List (ByteArray × Int × Int × Int × Int × Int × Int × Int × Int)) × List (Int × Int × ByteArray × Int)) × List Int) : bodyF impl_BookShow.E impl_BookShow.keep n Try.f30 impl_BookShow.con x = impl_BookShow.fn n x.1 x.2.1 x.2.2 := by
  have h : bodyF impl_BookShow.E impl_BookShow.keep n Try.f30 impl_BookShow.con x = impl_BookShow.top (fun list0 fired2 v26 v27 v28 x4 counts8 => impl_BookShow.LN5 n x n (impl_BookShow.st5 list0 fired2 v26 v27 v28 x4 counts8)) x.1 x.2.1 x.2.2 := by kernel_rfl
  rw [h]
  simp only [impl_BookShow.lem5]
  rfl
set_option maxRecDepth 100000 in
theorem impl_BookShow.good : Good Try.prog 30 impl_BookShow.con :=
  good_of tabok (cs := impl_BookShow.cs) ⟨impl_AreBookings.good, impl_articleOf.good, impl_IsShow.good, impl_isIndex.good, trivial⟩ 0 false (fn := Try.f30) Try.func30 rfl (by decide) (by simp [impl_BookShow.con]) impl_BookShow.keep NN (fun _ => rfl) (fun x => impl_BookShow.body NN x)
end
end Go.Ev.Try

namespace Go.Ev.Try
open Go.Proofs Go.Pl
set_option linter.unusedVariables false
noncomputable section
def spec_l32Left.st3 (list0 : List (Int × ByteArray × Int)) (article1 : ByteArray) (n2 : Int) (left7 : Int) (i8 : Int) : St := ⟨[.dat (.sl 127 (.pair (.int .i64) (.pair .str (.int .i64)))) list0, .dat .str article1, .dat (.int .i64) n2, .gone, .gone, .gone, .gone, .dat (.int .i64) left7, .dat (.int .i64) i8, .gone, .gone, .gone, .gone, .gone, .gone, .gone, .gone, .gone, .gone, .gone, .gone, .gone, .gone, .gone, .gone, .gone, .gone, .gone, .gone, .gone, .gone, .gone, .gone, .gone, .gone, .gone, .gone, .gone, .gone, .gone, .gone, .gone, .gone, .gone], []⟩
def spec_l32Left.con : Con := { ps := [(.val, (.sl 127 (.pair (.int .i64) (.pair .str (.int .i64))))), (.val, .str), (.val, (.int .i64))], rs := [(.val, (.int .i64))], F := fun x => spec_l32Left.f x.1 x.2.1 x.2.2 }
def spec_l32Left.cs : List (FuncId × Con) := []
def spec_l32Left.E : Env := envOf tab spec_l32Left.cs 0 false
def spec_l32Left.keep (i : Nat) : List Nat := if i = 3 then [0, 1, 2, 7, 8] else []
def spec_l32Left.at3 (n : Nat) (x : (List (Int × ByteArray × Int)) × ByteArray × Int) : Code × (Ex → St → Option (Int)) := ctx spec_l32Left.E spec_l32Left.keep n [.snd, .snd, .fst, .snd, .blk] (codeOf Try.f107) (kEnd spec_l32Left.E Try.f107 spec_l32Left.con x)
def spec_l32Left.LN3 (n : Nat) (x : (List (Int × ByteArray × Int)) × ByteArray × Int) : Nat → St → Option (Int) := loopN (exec spec_l32Left.E spec_l32Left.keep n (bodyOf (spec_l32Left.at3 n x).1)) (St.norm 0 (spec_l32Left.keep 3)) (spec_l32Left.at3 n x).2
set_option maxRecDepth 100000 in
theorem spec_l32Left.lem3 (n : Nat) (x : (List (Int × ByteArray × Int)) × ByteArray × Int) : ∀ (k : Nat) (list0 : List (Int × ByteArray × Int)) (article1 : ByteArray) (n2 : Int) (left7 : Int) (i8 : Int), spec_l32Left.LN3 n x k (spec_l32Left.st3 list0 article1 n2 left7 i8) = spec_l32Left.l3 n k list0 article1 n2 left7 i8 := by
  intro k
  induction k with
  | zero => intro list0 article1 n2 left7 i8; rfl
  | succ k ih =>
    intro list0 article1 n2 left7 i8
    have h : spec_l32Left.LN3 n x (k + 1) (spec_l32Left.st3 list0 article1 n2 left7 i8) = spec_l32Left.g3 (fun list0 article1 n2 left7 i8 => spec_l32Left.LN3 n x k (spec_l32Left.st3 list0 article1 n2 left7 i8)) list0 article1 n2 left7 i8 := by kernel_rfl
    rw [h]
    simp only [ih]
    rfl
set_option maxRecDepth 100000 in
theorem spec_l32Left.body (n : Nat) (x : (List (Int × ByteArray × Int)) × ByteArray × Int) : bodyF spec_l32Left.E spec_l32Left.keep n Try.f107 spec_l32Left.con x = spec_l32Left.fn n x.1 x.2.1 x.2.2 := by
  have h : bodyF spec_l32Left.E spec_l32Left.keep n Try.f107 spec_l32Left.con x = spec_l32Left.top (fun list0 article1 n2 left7 i8 => spec_l32Left.LN3 n x n (spec_l32Left.st3 list0 article1 n2 left7 i8)) x.1 x.2.1 x.2.2 := by kernel_rfl
  rw [h]
  simp only [spec_l32Left.lem3]
  rfl
set_option maxRecDepth 100000 in
theorem spec_l32Left.good : Good Try.prog 107 spec_l32Left.con :=
  good_of tabok (cs := spec_l32Left.cs) trivial 0 false (fn := Try.f107) Try.func107 rfl (by decide) (by simp [spec_l32Left.con]) spec_l32Left.keep NN (fun _ => rfl) (fun x => spec_l32Left.body NN x)
end
end Go.Ev.Try

namespace Go.Ev.Try
open Go.Proofs Go.Pl
set_option linter.unusedVariables false
noncomputable section
def spec_AreBookings.st2 (list0 : List (Int × ByteArray × Int)) (i3 : Int) : St := ⟨[.dat (.sl 127 (.pair (.int .i64) (.pair .str (.int .i64)))) list0, .gone, .gone, .dat (.int .i64) i3, .gone, .gone, .gone, .gone, .gone, .gone, .gone, .gone, .gone, .gone, .gone, .gone, .gone, .gone, .gone, .gone, .gone, .gone, .gone, .gone, .gone, .gone, .gone, .gone, .gone, .gone, .gone, .gone, .gone, .gone, .gone, .gone, .gone, .gone, .gone, .gone, .gone, .gone, .gone], []⟩
def spec_AreBookings.con : Con := { ps := [(.val, (.sl 127 (.pair (.int .i64) (.pair .str (.int .i64)))))], rs := [(.val, .bool)], F := fun x => spec_AreBookings.f x }
def spec_AreBookings.cs : List (FuncId × Con) := [(104, spec_IsWord.con), (105, spec_l01In.con), (107, spec_l32Left.con)]
def spec_AreBookings.E : Env := envOf tab spec_AreBookings.cs 0 false
def spec_AreBookings.keep (i : Nat) : List Nat := if i = 2 then [0, 3] else []
def spec_AreBookings.at2 (n : Nat) (x : List (Int × ByteArray × Int)) : Code × (Ex → St → Option (Bool)) := ctx spec_AreBookings.E spec_AreBookings.keep n [.snd, .fst, .snd, .blk] (codeOf Try.f51) (kEnd spec_AreBookings.E Try.f51 spec_AreBookings.con x)
def spec_AreBookings.LN2 (n : Nat) (x : List (Int × ByteArray × Int)) : Nat → St → Option (Bool) := loopN (exec spec_AreBookings.E spec_AreBookings.keep n (bodyOf (spec_AreBookings.at2 n x).1)) (St.norm 0 (spec_AreBookings.keep 2)) (spec_AreBookings.at2 n x).2
set_option maxRecDepth 100000 in
theorem spec_AreBookings.lem2 (n : Nat) (x : List (Int × ByteArray × Int)) : ∀ (k : Nat) (list0 : List (Int × ByteArray × Int)) (i3 : Int), spec_AreBookings.LN2 n x k (spec_AreBookings.st2 list0 i3) = spec_AreBookings.l2 n k list0 i3 := by
  intro k
  induction k with
  | zero => intro list0 i3; rfl
  | succ k ih =>
    intro list0 i3
    have h : spec_AreBookings.LN2 n x (k + 1) (spec_AreBookings.st2 list0 i3) = spec_AreBookings.g2 (fun list0 i3 => spec_AreBookings.LN2 n x k (spec_AreBookings.st2 list0 i3)) list0 i3 := by kernel_rfl
    rw [h]
    simp only [ih]
    rfl
set_option maxRecDepth 100000 in
theorem spec_AreBookings.body (n : Nat) (x : List (Int × ByteArray × Int)) : bodyF spec_AreBookings.E spec_AreBookings.keep n Try.f51 spec_AreBookings.con x = spec_AreBookings.fn n x := by
  have h : bodyF spec_AreBookings.E spec_AreBookings.keep n Try.f51 spec_AreBookings.con x = spec_AreBookings.top (fun list0 i3 => spec_AreBookings.LN2 n x n (spec_AreBookings.st2 list0 i3)) x := by kernel_rfl
  rw [h]
  simp only [spec_AreBookings.lem2]
  rfl
set_option maxRecDepth 100000 in
theorem spec_AreBookings.good : Good Try.prog 51 spec_AreBookings.con :=
  good_of tabok (cs := spec_AreBookings.cs) ⟨spec_IsWord.good, spec_l01In.good, spec_l32Left.good, trivial⟩ 0 false (fn := Try.f51) Try.func51 rfl (by decide) (by simp [spec_AreBookings.con]) spec_AreBookings.keep NN (fun _ => rfl) (fun x => spec_AreBookings.body NN x)
end
end Go.Ev.Try

namespace Go.Ev.Try
open Go.Proofs Go.Pl
set_option linter.unusedVariables false
noncomputable section
def spec_l01Rises.st2 (list0 : List Int) (n1 : Int) (i5 : Int) : St := ⟨[.dat (.sl 2 (.int .i64)) list0, .dat (.int .i64) n1, .gone, .gone, .gone, .dat (.int .i64) i5, .gone, .gone, .gone, .gone, .gone, .gone, .gone, .gone, .gone, .gone, .gone, .gone, .gone, .gone, .gone, .gone, .gone, .gone, .gone, .gone, .gone, .gone, .gone, .gone, .gone, .gone, .gone, .gone, .gone, .gone], []⟩
def spec_l01Rises.con : Con := { ps := [(.val, (.sl 2 (.int .i64))), (.val, (.int .i64))], rs := [(.val, .bool)], F := fun x => spec_l01Rises.f x.1 x.2 }
def spec_l01Rises.cs : List (FuncId × Con) := [(105, spec_l01In.con)]
def spec_l01Rises.E : Env := envOf tab spec_l01Rises.cs 0 false
def spec_l01Rises.keep (i : Nat) : List Nat := if i = 2 then [0, 1, 5] else []
def spec_l01Rises.at2 (n : Nat) (x : List Int × Int) : Code × (Ex → St → Option (Bool)) := ctx spec_l01Rises.E spec_l01Rises.keep n [.snd, .fst, .snd, .blk] (codeOf Try.f85) (kEnd spec_l01Rises.E Try.f85 spec_l01Rises.con x)
def spec_l01Rises.LN2 (n : Nat) (x : List Int × Int) : Nat → St → Option (Bool) := loopN (exec spec_l01Rises.E spec_l01Rises.keep n (bodyOf (spec_l01Rises.at2 n x).1)) (St.norm 0 (spec_l01Rises.keep 2)) (spec_l01Rises.at2 n x).2
set_option maxRecDepth 100000 in
theorem spec_l01Rises.lem2 (n : Nat) (x : List Int × Int) : ∀ (k : Nat) (list0 : List Int) (n1 : Int) (i5 : Int), spec_l01Rises.LN2 n x k (spec_l01Rises.st2 list0 n1 i5) = spec_l01Rises.l2 n k list0 n1 i5 := by
  intro k
  induction k with
  | zero => intro list0 n1 i5; rfl
  | succ k ih =>
    intro list0 n1 i5
    have h : spec_l01Rises.LN2 n x (k + 1) (spec_l01Rises.st2 list0 n1 i5) = spec_l01Rises.g2 (fun list0 n1 i5 => spec_l01Rises.LN2 n x k (spec_l01Rises.st2 list0 n1 i5)) list0 n1 i5 := by kernel_rfl
    rw [h]
    simp only [ih]
    rfl
set_option maxRecDepth 100000 in
theorem spec_l01Rises.body (n : Nat) (x : List Int × Int) : bodyF spec_l01Rises.E spec_l01Rises.keep n Try.f85 spec_l01Rises.con x = spec_l01Rises.fn n x.1 x.2 := by
  have h : bodyF spec_l01Rises.E spec_l01Rises.keep n Try.f85 spec_l01Rises.con x = spec_l01Rises.top (fun list0 n1 i5 => spec_l01Rises.LN2 n x n (spec_l01Rises.st2 list0 n1 i5)) x.1 x.2 := by kernel_rfl
  rw [h]
  simp only [spec_l01Rises.lem2]
  rfl
set_option maxRecDepth 100000 in
theorem spec_l01Rises.good : Good Try.prog 85 spec_l01Rises.con :=
  good_of tabok (cs := spec_l01Rises.cs) ⟨spec_l01In.good, trivial⟩ 0 false (fn := Try.f85) Try.func85 rfl (by decide) (by simp [spec_l01Rises.con]) spec_l01Rises.keep NN (fun _ => rfl) (fun x => spec_l01Rises.body NN x)
end
end Go.Ev.Try

namespace Go.Ev.Try
open Go.Proofs Go.Pl
set_option linter.unusedVariables false
noncomputable section
def spec_l32Limits.con : Con := { ps := [(.val, (.sl 127 (.pair (.int .i64) (.pair .str (.int .i64)))))], rs := [(.val, (.int .i64))], F := fun x => spec_l32Limits.f x }
def spec_l32Limits.cs : List (FuncId × Con) := [(51, spec_AreBookings.con)]
def spec_l32Limits.E : Env := envOf tab spec_l32Limits.cs 0 false
def spec_l32Limits.keep (i : Nat) : List Nat := []
set_option maxRecDepth 100000 in
theorem spec_l32Limits.body (n : Nat) (x : List (Int × ByteArray × Int)) : bodyF spec_l32Limits.E spec_l32Limits.keep n Try.f86 spec_l32Limits.con x = spec_l32Limits.fn n x := by
  have h : bodyF spec_l32Limits.E spec_l32Limits.keep n Try.f86 spec_l32Limits.con x = spec_l32Limits.top x := by kernel_rfl
  exact h
set_option maxRecDepth 100000 in
theorem spec_l32Limits.good : Good Try.prog 86 spec_l32Limits.con :=
  good_of tabok (cs := spec_l32Limits.cs) ⟨spec_AreBookings.good, trivial⟩ 0 false (fn := Try.f86) Try.func86 rfl (by decide) (by simp [spec_l32Limits.con]) spec_l32Limits.keep NN (fun _ => rfl) (fun x => spec_l32Limits.body NN x)
end
end Go.Ev.Try

namespace Go.Ev.Try
open Go.Proofs Go.Pl
set_option linter.unusedVariables false
noncomputable section
def spec_BookShow.st11 (fired2 : List Int) (k9 : Int) (n10 : Int) (i11 : Int) (x4 : (List (Int × Int)) × (List (ByteArray × Int × Int × Int × Int × Int × Int × Int × Int)) × List (Int × Int × ByteArray × Int)) (out8 : List (Int × ByteArray × Int)) : St := ⟨[.gone, .gone, .dat (.sl 2 (.int .i64)) fired2, .gone, .ptr 0 [], .gone, .gone, .gone, .ref 1, .dat (.int .i64) k9, .dat (.int .i64) n10, .dat (.int .i64) i11, .gone, .gone, .gone, .gone, .gone, .gone, .gone, .gone, .gone, .gone, .gone, .gone, .gone, .gone, .gone, .gone, .gone, .gone, .gone, .gone, .gone, .gone, .gone, .gone, .gone, .gone, .gone, .gone, .gone, .gone, .gone, .gone, .gone, .gone, .gone, .gone, .gone, .gone, .gone, .gone, .gone, .gone, .gone, .gone, .gone, .gone, .gone, .gone, .gone, .gone, .gone, .gone, .gone, .gone, .gone, .gone, .gone, .gone, .gone, .gone, .gone, .gone, .gone, .gone, .gone, .gone, .gone, .gone], [.box 62 (.pair (.sl 188 (.pair (.int .i64) (.int .i64))) (.pair (.sl 75 (.pair .str (.pair (.int .i64) (.pair (.int .i64) (.pair (.int .i64) (.pair (.int .i64) (.pair (.int .i64) (.pair (.int .i64) (.pair (.int .i64) (.int .i64)))))))))) (.sl 73 (.pair (.int .i64) (.pair (.int .i64) (.pair .str (.int .i64))))))) (.dat (.pair (.sl 188 (.pair (.int .i64) (.int .i64))) (.pair (.sl 75 (.pair .str (.pair (.int .i64) (.pair (.int .i64) (.pair (.int .i64) (.pair (.int .i64) (.pair (.int .i64) (.pair (.int .i64) (.pair (.int .i64) (.int .i64)))))))))) (.sl 73 (.pair (.int .i64) (.pair (.int .i64) (.pair .str (.int .i64))))))) x4), .row 127 (.pair (.int .i64) (.pair .str (.int .i64))) out8 none]⟩
def spec_BookShow.st7 (fired2 : List Int) (k9 : Int) (x4 : (List (Int × Int)) × (List (ByteArray × Int × Int × Int × Int × Int × Int × Int × Int)) × List (Int × Int × ByteArray × Int)) (out8 : List (Int × ByteArray × Int)) : St := ⟨[.gone, .gone, .dat (.sl 2 (.int .i64)) fired2, .gone, .ptr 0 [], .gone, .gone, .gone, .ref 1, .dat (.int .i64) k9, .gone, .gone, .gone, .gone, .gone, .gone, .gone, .gone, .gone, .gone, .gone, .gone, .gone, .gone, .gone, .gone, .gone, .gone, .gone, .gone, .gone, .gone, .gone, .gone, .gone, .gone, .gone, .gone, .gone, .gone, .gone, .gone, .gone, .gone, .gone, .gone, .gone, .gone, .gone, .gone, .gone, .gone, .gone, .gone, .gone, .gone, .gone, .gone, .gone, .gone, .gone, .gone, .gone, .gone, .gone, .gone, .gone, .gone, .gone, .gone, .gone, .gone, .gone, .gone, .gone, .gone, .gone, .gone, .gone, .gone], [.box 62 (.pair (.sl 188 (.pair (.int .i64) (.int .i64))) (.pair (.sl 75 (.pair .str (.pair (.int .i64) (.pair (.int .i64) (.pair (.int .i64) (.pair (.int .i64) (.pair (.int .i64) (.pair (.int .i64) (.pair (.int .i64) (.int .i64)))))))))) (.sl 73 (.pair (.int .i64) (.pair (.int .i64) (.pair .str (.int .i64))))))) (.dat (.pair (.sl 188 (.pair (.int .i64) (.int .i64))) (.pair (.sl 75 (.pair .str (.pair (.int .i64) (.pair (.int .i64) (.pair (.int .i64) (.pair (.int .i64) (.pair (.int .i64) (.pair (.int .i64) (.pair (.int .i64) (.int .i64)))))))))) (.sl 73 (.pair (.int .i64) (.pair (.int .i64) (.pair .str (.int .i64))))))) x4), .row 127 (.pair (.int .i64) (.pair .str (.int .i64))) out8 none]⟩
def spec_BookShow.con : Con := { ps := [(.val, (.sl 127 (.pair (.int .i64) (.pair .str (.int .i64))))), (.val, (.pair (.sl 188 (.pair (.int .i64) (.int .i64))) (.pair (.sl 75 (.pair .str (.pair (.int .i64) (.pair (.int .i64) (.pair (.int .i64) (.pair (.int .i64) (.pair (.int .i64) (.pair (.int .i64) (.pair (.int .i64) (.int .i64)))))))))) (.sl 73 (.pair (.int .i64) (.pair (.int .i64) (.pair .str (.int .i64)))))))), (.val, (.sl 2 (.int .i64)))], rs := [(.own, (.sl 127 (.pair (.int .i64) (.pair .str (.int .i64))))), (.own, (.int .i64))], F := fun x => spec_BookShow.f x.1 x.2.1 x.2.2 }
def spec_BookShow.cs : List (FuncId × Con) := [(51, spec_AreBookings.con), (78, spec_IsShow.con), (85, spec_l01Rises.con), (86, spec_l32Limits.con)]
def spec_BookShow.E : Env := envOf tab spec_BookShow.cs 0 false
def spec_BookShow.keep (i : Nat) : List Nat := if i = 11 then [2, 4, 8, 9, 10, 11] else if i = 7 then [2, 4, 8, 9] else []
def spec_BookShow.at11 (n : Nat) (x : (List (Int × ByteArray × Int)) × ((List (Int × Int)) × (List (ByteArray × Int × Int × Int × Int × Int × Int × Int × Int)) × List (Int × Int × ByteArray × Int)) × List Int) (M7 : St → Option (((List (Int × ByteArray × Int)) × Int))) : Code × (Ex → St → Option (((List (Int × ByteArray × Int)) × Int))) := ctx spec_BookShow.E spec_BookShow.keep n [.snd, .snd, .snd, .snd, .fst, .snd, .blk, .rd M7, .snd, .fst, .blk, .snd, .fst, .snd, .blk] (codeOf Try.f31) (kEnd spec_BookShow.E Try.f31 spec_BookShow.con x)
def spec_BookShow.LN11 (n : Nat) (x : (List (Int × ByteArray × Int)) × ((List (Int × Int)) × (List (ByteArray × Int × Int × Int × Int × Int × Int × Int × Int)) × List (Int × Int × ByteArray × Int)) × List Int) (M7 : St → Option (((List (Int × ByteArray × Int)) × Int))) : Nat → St → Option (((List (Int × ByteArray × Int)) × Int)) := loopN (exec spec_BookShow.E spec_BookShow.keep n (bodyOf (spec_BookShow.at11 n x M7).1)) (St.norm 0 (spec_BookShow.keep 11)) (spec_BookShow.at11 n x M7).2
def spec_BookShow.at7 (n : Nat) (x : (List (Int × ByteArray × Int)) × ((List (Int × Int)) × (List (ByteArray × Int × Int × Int × Int × Int × Int × Int × Int)) × List (Int × Int × ByteArray × Int)) × List Int) : Code × (Ex → St → Option (((List (Int × ByteArray × Int)) × Int))) := ctx spec_BookShow.E spec_BookShow.keep n [.snd, .snd, .snd, .snd, .fst, .snd, .blk] (codeOf Try.f31) (kEnd spec_BookShow.E Try.f31 spec_BookShow.con x)
def spec_BookShow.LN7 (n : Nat) (x : (List (Int × ByteArray × Int)) × ((List (Int × Int)) × (List (ByteArray × Int × Int × Int × Int × Int × Int × Int × Int)) × List (Int × Int × ByteArray × Int)) × List Int) : Nat → St → Option (((List (Int × ByteArray × Int)) × Int)) := loopN (exec spec_BookShow.E spec_BookShow.keep n (bodyOf (spec_BookShow.at7 n x).1)) (St.norm 0 (spec_BookShow.keep 7)) (spec_BookShow.at7 n x).2
set_option maxRecDepth 100000 in
theorem spec_BookShow.lem11 (n : Nat) (x : (List (Int × ByteArray × Int)) × ((List (Int × Int)) × (List (ByteArray × Int × Int × Int × Int × Int × Int × Int × Int)) × List (Int × Int × ByteArray × Int)) × List Int) (M7 : St → Option (((List (Int × ByteArray × Int)) × Int))) : ∀ (k : Nat) (fired2 : List Int) (k9 : Int) (n10 : Int) (i11 : Int) (x4 : (List (Int × Int)) × (List (ByteArray × Int × Int × Int × Int × Int × Int × Int × Int)) × List (Int × Int × ByteArray × Int)) (out8 : List (Int × ByteArray × Int)), spec_BookShow.LN11 n x M7 k (spec_BookShow.st11 fired2 k9 n10 i11 x4 out8) = spec_BookShow.l11 n (fun fired2 k9 x4 out8 => M7 (spec_BookShow.st7 fired2 k9 x4 out8)) k fired2 k9 n10 i11 x4 out8 := by
  intro k
  induction k with
  | zero => intro fired2 k9 n10 i11 x4 out8; rfl
  | succ k ih =>
    intro fired2 k9 n10 i11 x4 out8
    have h : spec_BookShow.LN11 n x M7 (k + 1) (spec_BookShow.st11 fired2 k9 n10 i11 x4 out8) = spec_BookShow.g11 (fun fired2 k9 x4 out8 => M7 (spec_BookShow.st7 fired2 k9 x4 out8)) (fun fired2 k9 n10 i11 x4 out8 => spec_BookShow.LN11 n x M7 k (spec_BookShow.st11 fired2 k9 n10 i11 x4 out8)) fired2 k9 n10 i11 x4 out8 := by kernel_rfl
    rw [h]
    simp only [ih]
    rfl
set_option maxRecDepth 100000 in
theorem spec_BookShow.lem7 (n : Nat) (x : (List (Int × ByteArray × Int)) × ((List (Int × Int)) × (List (ByteArray × Int × Int × Int × Int × Int × Int × Int × Int)) × List (Int × Int × ByteArray × Int)) × List Int) : ∀ (k : Nat) (fired2 : List Int) (k9 : Int) (x4 : (List (Int × Int)) × (List (ByteArray × Int × Int × Int × Int × Int × Int × Int × Int)) × List (Int × Int × ByteArray × Int)) (out8 : List (Int × ByteArray × Int)), spec_BookShow.LN7 n x k (spec_BookShow.st7 fired2 k9 x4 out8) = spec_BookShow.l7 n k fired2 k9 x4 out8 := by
  intro k
  induction k with
  | zero => intro fired2 k9 x4 out8; rfl
  | succ k ih =>
    intro fired2 k9 x4 out8
    have h : spec_BookShow.LN7 n x (k + 1) (spec_BookShow.st7 fired2 k9 x4 out8) = spec_BookShow.g7 (fun fired2 k9 n10 i11 x4 out8 => spec_BookShow.LN11 n x (spec_BookShow.LN7 n x k) n (spec_BookShow.st11 fired2 k9 n10 i11 x4 out8)) (fun fired2 k9 x4 out8 => spec_BookShow.LN7 n x k (spec_BookShow.st7 fired2 k9 x4 out8)) fired2 k9 x4 out8 := by kernel_rfl
    rw [h]
    simp only [ih, spec_BookShow.lem11]
    rfl
set_option maxRecDepth 100000 in
theorem spec_BookShow.body (n : Nat) (x : (List (Int × ByteArray × Int)) × ((List (Int × Int)) × (List (ByteArray × Int × Int × Int × Int × Int × Int × Int × Int)) × List (Int × Int × ByteArray × Int)) × List Int) : bodyF spec_BookShow.E spec_BookShow.keep n Try.f31 spec_BookShow.con x = spec_BookShow.fn n x.1 x.2.1 x.2.2 := by
  have h : bodyF spec_BookShow.E spec_BookShow.keep n Try.f31 spec_BookShow.con x = spec_BookShow.top (fun fired2 k9 x4 out8 => spec_BookShow.LN7 n x n (spec_BookShow.st7 fired2 k9 x4 out8)) x.1 x.2.1 x.2.2 := by kernel_rfl
  rw [h]
  simp only [spec_BookShow.lem7]
  rfl
set_option maxRecDepth 100000 in
theorem spec_BookShow.good : Good Try.prog 31 spec_BookShow.con :=
  good_of tabok (cs := spec_BookShow.cs) ⟨spec_AreBookings.good, spec_IsShow.good, spec_l01Rises.good, spec_l32Limits.good, trivial⟩ 0 false (fn := Try.f31) Try.func31 rfl (by decide) (by simp [spec_BookShow.con]) spec_BookShow.keep NN (fun _ => rfl) (fun x => spec_BookShow.body NN x)
end
end Go.Ev.Try

namespace Go.Ev.Try
open Go.Proofs Go.Pl
set_option linter.unusedVariables false
noncomputable section
def laws_likeBookings.st4 (a0 : List (Int × ByteArray × Int)) (b1 : List (Int × ByteArray × Int)) (i5 : Int) : St := ⟨[.dat (.sl 127 (.pair (.int .i64) (.pair .str (.int .i64)))) a0, .dat (.sl 127 (.pair (.int .i64) (.pair .str (.int .i64)))) b1, .gone, .gone, .gone, .dat (.int .i64) i5, .gone, .gone, .gone, .gone, .gone, .gone, .gone, .gone, .gone, .gone, .gone, .gone, .gone, .gone, .gone, .gone, .gone, .gone, .gone, .gone], []⟩
def laws_likeBookings.con : Con := { ps := [(.val, (.sl 127 (.pair (.int .i64) (.pair .str (.int .i64))))), (.val, (.sl 127 (.pair (.int .i64) (.pair .str (.int .i64)))))], rs := [(.val, .bool)], F := fun x => laws_likeBookings.f x.1 x.2 }
def laws_likeBookings.cs : List (FuncId × Con) := []
def laws_likeBookings.E : Env := envOf tab laws_likeBookings.cs 0 false
def laws_likeBookings.keep (i : Nat) : List Nat := if i = 4 then [0, 1, 5] else []
def laws_likeBookings.at4 (n : Nat) (x : (List (Int × ByteArray × Int)) × List (Int × ByteArray × Int)) : Code × (Ex → St → Option (Bool)) := ctx laws_likeBookings.E laws_likeBookings.keep n [.snd, .snd, .fst, .snd, .blk] (codeOf Try.f32) (kEnd laws_likeBookings.E Try.f32 laws_likeBookings.con x)
def laws_likeBookings.LN4 (n : Nat) (x : (List (Int × ByteArray × Int)) × List (Int × ByteArray × Int)) : Nat → St → Option (Bool) := loopN (exec laws_likeBookings.E laws_likeBookings.keep n (bodyOf (laws_likeBookings.at4 n x).1)) (St.norm 0 (laws_likeBookings.keep 4)) (laws_likeBookings.at4 n x).2
set_option maxRecDepth 100000 in
theorem laws_likeBookings.lem4 (n : Nat) (x : (List (Int × ByteArray × Int)) × List (Int × ByteArray × Int)) : ∀ (k : Nat) (a0 : List (Int × ByteArray × Int)) (b1 : List (Int × ByteArray × Int)) (i5 : Int), laws_likeBookings.LN4 n x k (laws_likeBookings.st4 a0 b1 i5) = laws_likeBookings.l4 n k a0 b1 i5 := by
  intro k
  induction k with
  | zero => intro a0 b1 i5; rfl
  | succ k ih =>
    intro a0 b1 i5
    have h : laws_likeBookings.LN4 n x (k + 1) (laws_likeBookings.st4 a0 b1 i5) = laws_likeBookings.g4 (fun a0 b1 i5 => laws_likeBookings.LN4 n x k (laws_likeBookings.st4 a0 b1 i5)) a0 b1 i5 := by kernel_rfl
    rw [h]
    simp only [ih]
    rfl
set_option maxRecDepth 100000 in
theorem laws_likeBookings.body (n : Nat) (x : (List (Int × ByteArray × Int)) × List (Int × ByteArray × Int)) : bodyF laws_likeBookings.E laws_likeBookings.keep n Try.f32 laws_likeBookings.con x = laws_likeBookings.fn n x.1 x.2 := by
  have h : bodyF laws_likeBookings.E laws_likeBookings.keep n Try.f32 laws_likeBookings.con x = laws_likeBookings.top (fun a0 b1 i5 => laws_likeBookings.LN4 n x n (laws_likeBookings.st4 a0 b1 i5)) x.1 x.2 := by kernel_rfl
  rw [h]
  simp only [laws_likeBookings.lem4]
  rfl
set_option maxRecDepth 100000 in
theorem laws_likeBookings.good : Good Try.prog 32 laws_likeBookings.con :=
  good_of tabok (cs := laws_likeBookings.cs) trivial 0 false (fn := Try.f32) Try.func32 rfl (by decide) (by simp [laws_likeBookings.con]) laws_likeBookings.keep NN (fun _ => rfl) (fun x => laws_likeBookings.body NN x)
end
end Go.Ev.Try

namespace Go.Ev.Try
open Go.Proofs Go.Pl
set_option linter.unusedVariables false
noncomputable section
def impl_PiecesLeft.con : Con := { ps := [(.val, (.sl 127 (.pair (.int .i64) (.pair .str (.int .i64))))), (.val, .str)], rs := [(.val, (.int .i64)), (.val, (.int .i64))], F := fun x => impl_PiecesLeft.f x.1 x.2 }
def impl_PiecesLeft.cs : List (FuncId × Con) := [(56, impl_AreBookings.con), (87, impl_IsWord.con), (88, impl_piecesLeft.con)]
def impl_PiecesLeft.E : Env := envOf tab impl_PiecesLeft.cs 0 false
def impl_PiecesLeft.keep (i : Nat) : List Nat := []
set_option maxRecDepth 100000 in
theorem impl_PiecesLeft.body (n : Nat) (x : (List (Int × ByteArray × Int)) × ByteArray) : bodyF impl_PiecesLeft.E impl_PiecesLeft.keep n Try.f33 impl_PiecesLeft.con x = impl_PiecesLeft.fn n x.1 x.2 := by
  have h : bodyF impl_PiecesLeft.E impl_PiecesLeft.keep n Try.f33 impl_PiecesLeft.con x = impl_PiecesLeft.top x.1 x.2 := by kernel_rfl
  exact h
set_option maxRecDepth 100000 in
theorem impl_PiecesLeft.good : Good Try.prog 33 impl_PiecesLeft.con :=
  good_of tabok (cs := impl_PiecesLeft.cs) ⟨impl_AreBookings.good, impl_IsWord.good, impl_piecesLeft.good, trivial⟩ 0 false (fn := Try.f33) Try.func33 rfl (by decide) (by simp [impl_PiecesLeft.con]) impl_PiecesLeft.keep NN (fun _ => rfl) (fun x => impl_PiecesLeft.body NN x)
end
end Go.Ev.Try
