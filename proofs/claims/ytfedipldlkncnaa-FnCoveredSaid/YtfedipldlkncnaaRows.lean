/-
  No cell of these rows narrows 'for every input' (looked for: loops, veiled, ifaces, maps, wideKeys, modest, calm, conditions, laid).
  DERIVED. THE GIVEN ROWS OF THIS SEAT. 8 by the template 'for every input the law returns true; each argument reads behind the call as it read before'; 0 by the template 'total and deterministic' (their statements: YtfedipldlkncnaaTotals.lean).
  GIVEN WITH THE SEED: the statements are not yours to turn. If you find one false, say at which input.
  Laid BY PROGRAM, IN A SANDBOX (cutbox-rows.mjs): the forced cells as the released guide's own fill.sh prints them over the translation 3a387b93489096d3… (all of the seat's roots in one cut). By AI agents, Wed Nov 11 2026. No macro, syntax, notation, axiom, sorry.
-/
import Derived.Test.YtfedipldlkncnaaChecked
import GoSem.Claim
import GoSem.ClaimJoined
import GoSem.ClaimMapViews
import Derived.JoinedTies
import Derived.KernelRfl
namespace Go.Proofs.Ytfedipldlkncnaa
/- THE CELL 'sum', in the pinned program and in every row, IS THE sha256 OF THE DUMP (.gsa) THAT YtfedipldlkncnaaProg.lean LOADS. Nothing in Lean hashes anything: it is a label: what it is worth is what the hold of that sum in a sandbox is worth. -/
noncomputable def Try.pinned : Pinned := { name := "ytfedipldlkncnaa", sum := "3a387b93489096d386dfb392001d1f01f763e085f71c6ceb6510f8e1c8828113", checked := Try.checked }
namespace Rows
def none {H : Type} : Left H := { results := [], args := [] }

/-- 'laws.FnExactDaysCovered': WHATEVER THE INPUT: true; the input reads as it did. -/
def fnExactDaysCoveredSpec : ChangeSpec := { name := "fnExactDaysCovered", fn := fun _ => fun
  | [d1, d2, d3] => { results := [.lit (.bool true)], args := [d1, d2, d3] }
  | _ => none }
def fnExactDaysCoveredRow : OpenClaim := { program := "ytfedipldlkncnaa", sum := "3a387b93489096d386dfb392001d1f01f763e085f71c6ceb6510f8e1c8828113", func := "loop.example/g01049/laws.FnExactDaysCovered", spec := "fnExactDaysCovered", apart := false }
def FnExactDaysCoveredSaid : Prop := fnExactDaysCoveredRow.holds Try.pinned (OpenSpec.ofChange fnExactDaysCoveredSpec)

/-- ITS FALSE NEIGHBOUR: 'it returns false'. Refute it at one input. -/
def fnExactDaysCoveredWrong : ChangeSpec := { name := "fnExactDaysCovered", fn := fun _ => fun
  | [d1, d2, d3] => { results := [.lit (.bool false)], args := [d1, d2, d3] }
  | _ => none }
def FnExactDaysCoveredWrongFalsely : Prop := fnExactDaysCoveredRow.holds Try.pinned (OpenSpec.ofChange fnExactDaysCoveredWrong)

/-- 'laws.FnCovered': WHATEVER THE INPUT: true; the input reads as it did. -/
def fnCoveredSpec : ChangeSpec := { name := "fnCovered", fn := fun _ => fun
  | [d] => { results := [.lit (.bool true)], args := [d] }
  | _ => none }
def fnCoveredRow : OpenClaim := { program := "ytfedipldlkncnaa", sum := "3a387b93489096d386dfb392001d1f01f763e085f71c6ceb6510f8e1c8828113", func := "loop.example/g01049/laws.FnCovered", spec := "fnCovered", recurses := true, apart := false }
def FnCoveredSaid : Prop := fnCoveredRow.holds Try.pinned (OpenSpec.ofChange fnCoveredSpec)

/-- ITS FALSE NEIGHBOUR: 'it returns false'. Refute it at one input. -/
def fnCoveredWrong : ChangeSpec := { name := "fnCovered", fn := fun _ => fun
  | [d] => { results := [.lit (.bool false)], args := [d] }
  | _ => none }
def FnCoveredWrongFalsely : Prop := fnCoveredRow.holds Try.pinned (OpenSpec.ofChange fnCoveredWrong)

/-- 'laws.FnExactFewestPermits': WHATEVER THE INPUT: true; the input reads as it did. -/
def fnExactFewestPermitsSpec : ChangeSpec := { name := "fnExactFewestPermits", fn := fun _ => fun
  | [d1, d2, d3] => { results := [.lit (.bool true)], args := [d1, d2, d3] }
  | _ => none }
def fnExactFewestPermitsRow : OpenClaim := { program := "ytfedipldlkncnaa", sum := "3a387b93489096d386dfb392001d1f01f763e085f71c6ceb6510f8e1c8828113", func := "loop.example/g01049/laws.FnExactFewestPermits", spec := "fnExactFewestPermits", recurses := true, apart := false }
def FnExactFewestPermitsSaid : Prop := fnExactFewestPermitsRow.holds Try.pinned (OpenSpec.ofChange fnExactFewestPermitsSpec)

/-- ITS FALSE NEIGHBOUR: 'it returns false'. Refute it at one input. -/
def fnExactFewestPermitsWrong : ChangeSpec := { name := "fnExactFewestPermits", fn := fun _ => fun
  | [d1, d2, d3] => { results := [.lit (.bool false)], args := [d1, d2, d3] }
  | _ => none }
def FnExactFewestPermitsWrongFalsely : Prop := fnExactFewestPermitsRow.holds Try.pinned (OpenSpec.ofChange fnExactFewestPermitsWrong)

/-- 'laws.FnExactRefusalsOf': WHATEVER THE INPUT: true; the input reads as it did. -/
def fnExactRefusalsOfSpec : ChangeSpec := { name := "fnExactRefusalsOf", fn := fun _ => fun
  | [d1, d2, d3, d4] => { results := [.lit (.bool true)], args := [d1, d2, d3, d4] }
  | _ => none }
def fnExactRefusalsOfRow : OpenClaim := { program := "ytfedipldlkncnaa", sum := "3a387b93489096d386dfb392001d1f01f763e085f71c6ceb6510f8e1c8828113", func := "loop.example/g01049/laws.FnExactRefusalsOf", spec := "fnExactRefusalsOf", apart := false }
def FnExactRefusalsOfSaid : Prop := fnExactRefusalsOfRow.holds Try.pinned (OpenSpec.ofChange fnExactRefusalsOfSpec)

/-- ITS FALSE NEIGHBOUR: 'it returns false'. Refute it at one input. -/
def fnExactRefusalsOfWrong : ChangeSpec := { name := "fnExactRefusalsOf", fn := fun _ => fun
  | [d1, d2, d3, d4] => { results := [.lit (.bool false)], args := [d1, d2, d3, d4] }
  | _ => none }
def FnExactRefusalsOfWrongFalsely : Prop := fnExactRefusalsOfRow.holds Try.pinned (OpenSpec.ofChange fnExactRefusalsOfWrong)

/-- 'laws.FnExactPermitFor': WHATEVER THE INPUT: true; the input reads as it did. -/
def fnExactPermitForSpec : ChangeSpec := { name := "fnExactPermitFor", fn := fun _ => fun
  | [d1, d2, d3] => { results := [.lit (.bool true)], args := [d1, d2, d3] }
  | _ => none }
def fnExactPermitForRow : OpenClaim := { program := "ytfedipldlkncnaa", sum := "3a387b93489096d386dfb392001d1f01f763e085f71c6ceb6510f8e1c8828113", func := "loop.example/g01049/laws.FnExactPermitFor", spec := "fnExactPermitFor", apart := false }
def FnExactPermitForSaid : Prop := fnExactPermitForRow.holds Try.pinned (OpenSpec.ofChange fnExactPermitForSpec)

/-- ITS FALSE NEIGHBOUR: 'it returns false'. Refute it at one input. -/
def fnExactPermitForWrong : ChangeSpec := { name := "fnExactPermitFor", fn := fun _ => fun
  | [d1, d2, d3] => { results := [.lit (.bool false)], args := [d1, d2, d3] }
  | _ => none }
def FnExactPermitForWrongFalsely : Prop := fnExactPermitForRow.holds Try.pinned (OpenSpec.ofChange fnExactPermitForWrong)

/-- 'laws.FnExactFirstPermit': WHATEVER THE INPUT: true; the input reads as it did. -/
def fnExactFirstPermitSpec : ChangeSpec := { name := "fnExactFirstPermit", fn := fun _ => fun
  | [d1, d2, d3, d4] => { results := [.lit (.bool true)], args := [d1, d2, d3, d4] }
  | _ => none }
def fnExactFirstPermitRow : OpenClaim := { program := "ytfedipldlkncnaa", sum := "3a387b93489096d386dfb392001d1f01f763e085f71c6ceb6510f8e1c8828113", func := "loop.example/g01049/laws.FnExactFirstPermit", spec := "fnExactFirstPermit", apart := false }
def FnExactFirstPermitSaid : Prop := fnExactFirstPermitRow.holds Try.pinned (OpenSpec.ofChange fnExactFirstPermitSpec)

/-- ITS FALSE NEIGHBOUR: 'it returns false'. Refute it at one input. -/
def fnExactFirstPermitWrong : ChangeSpec := { name := "fnExactFirstPermit", fn := fun _ => fun
  | [d1, d2, d3, d4] => { results := [.lit (.bool false)], args := [d1, d2, d3, d4] }
  | _ => none }
def FnExactFirstPermitWrongFalsely : Prop := fnExactFirstPermitRow.holds Try.pinned (OpenSpec.ofChange fnExactFirstPermitWrong)

/-- 'laws.FnExactNextDay': WHATEVER THE INPUT: true; the input reads as it did. -/
def fnExactNextDaySpec : ChangeSpec := { name := "fnExactNextDay", fn := fun _ => fun
  | [d1, d2, d3, d4] => { results := [.lit (.bool true)], args := [d1, d2, d3, d4] }
  | _ => none }
def fnExactNextDayRow : OpenClaim := { program := "ytfedipldlkncnaa", sum := "3a387b93489096d386dfb392001d1f01f763e085f71c6ceb6510f8e1c8828113", func := "loop.example/g01049/laws.FnExactNextDay", spec := "fnExactNextDay", apart := false }
def FnExactNextDaySaid : Prop := fnExactNextDayRow.holds Try.pinned (OpenSpec.ofChange fnExactNextDaySpec)

/-- ITS FALSE NEIGHBOUR: 'it returns false'. Refute it at one input. -/
def fnExactNextDayWrong : ChangeSpec := { name := "fnExactNextDay", fn := fun _ => fun
  | [d1, d2, d3, d4] => { results := [.lit (.bool false)], args := [d1, d2, d3, d4] }
  | _ => none }
def FnExactNextDayWrongFalsely : Prop := fnExactNextDayRow.holds Try.pinned (OpenSpec.ofChange fnExactNextDayWrong)

/-- 'laws.FnPermits': WHATEVER THE INPUT: true; the input reads as it did. -/
def fnPermitsSpec : ChangeSpec := { name := "fnPermits", fn := fun _ => fun
  | [d] => { results := [.lit (.bool true)], args := [d] }
  | _ => none }
def fnPermitsRow : OpenClaim := { program := "ytfedipldlkncnaa", sum := "3a387b93489096d386dfb392001d1f01f763e085f71c6ceb6510f8e1c8828113", func := "loop.example/g01049/laws.FnPermits", spec := "fnPermits", apart := false }
def FnPermitsSaid : Prop := fnPermitsRow.holds Try.pinned (OpenSpec.ofChange fnPermitsSpec)

/-- ITS FALSE NEIGHBOUR: 'it returns false'. Refute it at one input. -/
def fnPermitsWrong : ChangeSpec := { name := "fnPermits", fn := fun _ => fun
  | [d] => { results := [.lit (.bool false)], args := [d] }
  | _ => none }
def FnPermitsWrongFalsely : Prop := fnPermitsRow.holds Try.pinned (OpenSpec.ofChange fnPermitsWrong)

/- THE SECOND FORM. 'bulk': how many values and letters a reading holds, each counted each time it is reached (what is shared counts as often as it is met; a slice's spare places count too). A statement '..UptoSaid' is the law's where the arguments, and the package variables that the reading takes, are together of bulk at most 1048576: NARROWER than '..Said'. Prove '..Said' where nothing that the law and all that it calls make is longer than what came in: it says more and counts as full. Else prove '..UptoSaid'. A law counts once. -/
mutual
def uptoBulk {H : Type} : DataW H → Nat
  | .lit (.string bytes) => bytes.length + 1
  | .lit _ => 1
  | .nil => 1
  | .ptr d => uptoBulk d + 1
  | .slice elems spare => uptoBulkAll elems + uptoBulkAll spare + 1
  | .agg parts => uptoBulkAll parts + 1
  | .iface _ d => uptoBulk d + 1
  | .map entries => uptoBulkEntries entries + 1
  | .held _ => 1
def uptoBulkAll {H : Type} : List (DataW H) → Nat
  | [] => 0
  | d :: r => uptoBulk d + uptoBulkAll r
def uptoBulkEntries {H : Type} : List (Lit × DataW H) → Nat
  | [] => 0
  | x :: r => uptoBulkEntry x + uptoBulkEntries r
def uptoBulkEntry {H : Type} : Lit × DataW H → Nat
  | (.string bytes, d) => bytes.length + uptoBulk d + 1
  | (_, d) => uptoBulk d + 1
 end
def uptoSmall : (H : Type) → List (DataW H) → Bool := fun _ ds => decide (uptoBulkAll ds ≤ 1048576)
def OpenSpec.upto (s : _root_.Go.ChangeSpec) : _root_.Go.OpenSpec := { _root_.Go.OpenSpec.ofChange s with cond := some uptoSmall }

/-- 'laws.FnExactDaysCovered', WHERE WHAT IT READS IS OF BULK AT MOST 1048576: true; the input reads as it did. -/
def fnExactDaysCoveredUptoRow : OpenClaim := { program := "ytfedipldlkncnaa", sum := "3a387b93489096d386dfb392001d1f01f763e085f71c6ceb6510f8e1c8828113", func := "loop.example/g01049/laws.FnExactDaysCovered", spec := "fnExactDaysCovered", apart := false, narrowed := true }
def FnExactDaysCoveredUptoSaid : Prop := fnExactDaysCoveredUptoRow.holds Try.pinned (OpenSpec.upto fnExactDaysCoveredSpec)

/-- 'laws.FnCovered', WHERE WHAT IT READS IS OF BULK AT MOST 1048576: true; the input reads as it did. -/
def fnCoveredUptoRow : OpenClaim := { program := "ytfedipldlkncnaa", sum := "3a387b93489096d386dfb392001d1f01f763e085f71c6ceb6510f8e1c8828113", func := "loop.example/g01049/laws.FnCovered", spec := "fnCovered", recurses := true, apart := false, narrowed := true }
def FnCoveredUptoSaid : Prop := fnCoveredUptoRow.holds Try.pinned (OpenSpec.upto fnCoveredSpec)

/-- 'laws.FnExactFewestPermits', WHERE WHAT IT READS IS OF BULK AT MOST 1048576: true; the input reads as it did. -/
def fnExactFewestPermitsUptoRow : OpenClaim := { program := "ytfedipldlkncnaa", sum := "3a387b93489096d386dfb392001d1f01f763e085f71c6ceb6510f8e1c8828113", func := "loop.example/g01049/laws.FnExactFewestPermits", spec := "fnExactFewestPermits", recurses := true, apart := false, narrowed := true }
def FnExactFewestPermitsUptoSaid : Prop := fnExactFewestPermitsUptoRow.holds Try.pinned (OpenSpec.upto fnExactFewestPermitsSpec)

/-- 'laws.FnExactRefusalsOf', WHERE WHAT IT READS IS OF BULK AT MOST 1048576: true; the input reads as it did. -/
def fnExactRefusalsOfUptoRow : OpenClaim := { program := "ytfedipldlkncnaa", sum := "3a387b93489096d386dfb392001d1f01f763e085f71c6ceb6510f8e1c8828113", func := "loop.example/g01049/laws.FnExactRefusalsOf", spec := "fnExactRefusalsOf", apart := false, narrowed := true }
def FnExactRefusalsOfUptoSaid : Prop := fnExactRefusalsOfUptoRow.holds Try.pinned (OpenSpec.upto fnExactRefusalsOfSpec)

/-- 'laws.FnExactPermitFor', WHERE WHAT IT READS IS OF BULK AT MOST 1048576: true; the input reads as it did. -/
def fnExactPermitForUptoRow : OpenClaim := { program := "ytfedipldlkncnaa", sum := "3a387b93489096d386dfb392001d1f01f763e085f71c6ceb6510f8e1c8828113", func := "loop.example/g01049/laws.FnExactPermitFor", spec := "fnExactPermitFor", apart := false, narrowed := true }
def FnExactPermitForUptoSaid : Prop := fnExactPermitForUptoRow.holds Try.pinned (OpenSpec.upto fnExactPermitForSpec)

/-- 'laws.FnExactFirstPermit', WHERE WHAT IT READS IS OF BULK AT MOST 1048576: true; the input reads as it did. -/
def fnExactFirstPermitUptoRow : OpenClaim := { program := "ytfedipldlkncnaa", sum := "3a387b93489096d386dfb392001d1f01f763e085f71c6ceb6510f8e1c8828113", func := "loop.example/g01049/laws.FnExactFirstPermit", spec := "fnExactFirstPermit", apart := false, narrowed := true }
def FnExactFirstPermitUptoSaid : Prop := fnExactFirstPermitUptoRow.holds Try.pinned (OpenSpec.upto fnExactFirstPermitSpec)

/-- 'laws.FnExactNextDay', WHERE WHAT IT READS IS OF BULK AT MOST 1048576: true; the input reads as it did. -/
def fnExactNextDayUptoRow : OpenClaim := { program := "ytfedipldlkncnaa", sum := "3a387b93489096d386dfb392001d1f01f763e085f71c6ceb6510f8e1c8828113", func := "loop.example/g01049/laws.FnExactNextDay", spec := "fnExactNextDay", apart := false, narrowed := true }
def FnExactNextDayUptoSaid : Prop := fnExactNextDayUptoRow.holds Try.pinned (OpenSpec.upto fnExactNextDaySpec)

/-- 'laws.FnPermits', WHERE WHAT IT READS IS OF BULK AT MOST 1048576: true; the input reads as it did. -/
def fnPermitsUptoRow : OpenClaim := { program := "ytfedipldlkncnaa", sum := "3a387b93489096d386dfb392001d1f01f763e085f71c6ceb6510f8e1c8828113", func := "loop.example/g01049/laws.FnPermits", spec := "fnPermits", apart := false, narrowed := true }
def FnPermitsUptoSaid : Prop := fnPermitsUptoRow.holds Try.pinned (OpenSpec.upto fnPermitsSpec)

end Rows
end Go.Proofs.Ytfedipldlkncnaa
