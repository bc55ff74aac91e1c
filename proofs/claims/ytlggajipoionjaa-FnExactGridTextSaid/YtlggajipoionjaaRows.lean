/-
  No cell of these rows narrows 'for every input' (looked for: loops, veiled, ifaces, maps, wideKeys, modest, calm, conditions, laid).
  DERIVED. THE GIVEN ROWS OF THIS SEAT. 11 by the template 'for every input the law returns true; each argument reads behind the call as it read before'; 0 by the template 'total and deterministic' (their statements: YtlggajipoionjaaTotals.lean).
  GIVEN WITH THE SEED: the statements are not yours to turn. If you find one false, say at which input.
  Laid BY PROGRAM, IN A SANDBOX (cutbox-rows.mjs): the forced cells as the released guide's own fill.sh prints them over the translation 2184bf6465e7c29f… (all of the seat's roots in one cut). By AI agents, Wed Nov 11 2026. No macro, syntax, notation, axiom, sorry.
-/
import Derived.Test.YtlggajipoionjaaChecked
import GoSem.Claim
import GoSem.ClaimJoined
import GoSem.ClaimMapViews
import Derived.JoinedTies
import Derived.KernelRfl
namespace Go.Proofs.Ytlggajipoionjaa
/- THE CELL 'sum', in the pinned program and in every row, IS THE sha256 OF THE DUMP (.gsa) THAT YtlggajipoionjaaProg.lean LOADS. Nothing in Lean hashes anything: it is a label: what it is worth is what the hold of that sum in a sandbox is worth. -/
noncomputable def Try.pinned : Pinned := { name := "ytlggajipoionjaa", sum := "2184bf6465e7c29fe1a8134bbf061837f0100402eb56f32dfc7596aadaa82b96", checked := Try.checked }
namespace Rows
def none {H : Type} : Left H := { results := [], args := [] }

/-- 'laws.FnExactRefusalsText': WHATEVER THE INPUT: true; the input reads as it did. -/
def fnExactRefusalsTextSpec : ChangeSpec := { name := "fnExactRefusalsText", fn := fun _ => fun
  | [d] => { results := [.lit (.bool true)], args := [d] }
  | _ => none }
def fnExactRefusalsTextRow : OpenClaim := { program := "ytlggajipoionjaa", sum := "2184bf6465e7c29fe1a8134bbf061837f0100402eb56f32dfc7596aadaa82b96", func := "loop.example/g01049/laws.FnExactRefusalsText", spec := "fnExactRefusalsText", apart := false }
def FnExactRefusalsTextSaid : Prop := fnExactRefusalsTextRow.holds Try.pinned (OpenSpec.ofChange fnExactRefusalsTextSpec)

/-- ITS FALSE NEIGHBOUR: 'it returns false'. Refute it at one input. -/
def fnExactRefusalsTextWrong : ChangeSpec := { name := "fnExactRefusalsText", fn := fun _ => fun
  | [d] => { results := [.lit (.bool false)], args := [d] }
  | _ => none }
def FnExactRefusalsTextWrongFalsely : Prop := fnExactRefusalsTextRow.holds Try.pinned (OpenSpec.ofChange fnExactRefusalsTextWrong)

/-- 'laws.FnExactIsGrid': WHATEVER THE INPUT: true; the input reads as it did. -/
def fnExactIsGridSpec : ChangeSpec := { name := "fnExactIsGrid", fn := fun _ => fun
  | [d] => { results := [.lit (.bool true)], args := [d] }
  | _ => none }
def fnExactIsGridRow : OpenClaim := { program := "ytlggajipoionjaa", sum := "2184bf6465e7c29fe1a8134bbf061837f0100402eb56f32dfc7596aadaa82b96", func := "loop.example/g01049/laws.FnExactIsGrid", spec := "fnExactIsGrid", apart := false }
def FnExactIsGridSaid : Prop := fnExactIsGridRow.holds Try.pinned (OpenSpec.ofChange fnExactIsGridSpec)

/-- ITS FALSE NEIGHBOUR: 'it returns false'. Refute it at one input. -/
def fnExactIsGridWrong : ChangeSpec := { name := "fnExactIsGrid", fn := fun _ => fun
  | [d] => { results := [.lit (.bool false)], args := [d] }
  | _ => none }
def FnExactIsGridWrongFalsely : Prop := fnExactIsGridRow.holds Try.pinned (OpenSpec.ofChange fnExactIsGridWrong)

/-- 'laws.FnExactAreEntries': WHATEVER THE INPUT: true; the input reads as it did. -/
def fnExactAreEntriesSpec : ChangeSpec := { name := "fnExactAreEntries", fn := fun _ => fun
  | [d] => { results := [.lit (.bool true)], args := [d] }
  | _ => none }
def fnExactAreEntriesRow : OpenClaim := { program := "ytlggajipoionjaa", sum := "2184bf6465e7c29fe1a8134bbf061837f0100402eb56f32dfc7596aadaa82b96", func := "loop.example/g01049/laws.FnExactAreEntries", spec := "fnExactAreEntries", apart := false }
def FnExactAreEntriesSaid : Prop := fnExactAreEntriesRow.holds Try.pinned (OpenSpec.ofChange fnExactAreEntriesSpec)

/-- ITS FALSE NEIGHBOUR: 'it returns false'. Refute it at one input. -/
def fnExactAreEntriesWrong : ChangeSpec := { name := "fnExactAreEntries", fn := fun _ => fun
  | [d] => { results := [.lit (.bool false)], args := [d] }
  | _ => none }
def FnExactAreEntriesWrongFalsely : Prop := fnExactAreEntriesRow.holds Try.pinned (OpenSpec.ofChange fnExactAreEntriesWrong)

/-- 'laws.FnExactIsPermit': WHATEVER THE INPUT: true; the input reads as it did. -/
def fnExactIsPermitSpec : ChangeSpec := { name := "fnExactIsPermit", fn := fun _ => fun
  | [d] => { results := [.lit (.bool true)], args := [d] }
  | _ => none }
def fnExactIsPermitRow : OpenClaim := { program := "ytlggajipoionjaa", sum := "2184bf6465e7c29fe1a8134bbf061837f0100402eb56f32dfc7596aadaa82b96", func := "loop.example/g01049/laws.FnExactIsPermit", spec := "fnExactIsPermit", apart := false }
def FnExactIsPermitSaid : Prop := fnExactIsPermitRow.holds Try.pinned (OpenSpec.ofChange fnExactIsPermitSpec)

/-- ITS FALSE NEIGHBOUR: 'it returns false'. Refute it at one input. -/
def fnExactIsPermitWrong : ChangeSpec := { name := "fnExactIsPermit", fn := fun _ => fun
  | [d] => { results := [.lit (.bool false)], args := [d] }
  | _ => none }
def FnExactIsPermitWrongFalsely : Prop := fnExactIsPermitRow.holds Try.pinned (OpenSpec.ofChange fnExactIsPermitWrong)

/-- 'laws.FnExactIsWhole': WHATEVER THE INPUT: true; the input reads as it did. -/
def fnExactIsWholeSpec : ChangeSpec := { name := "fnExactIsWhole", fn := fun _ => fun
  | [d] => { results := [.lit (.bool true)], args := [d] }
  | _ => none }
def fnExactIsWholeRow : OpenClaim := { program := "ytlggajipoionjaa", sum := "2184bf6465e7c29fe1a8134bbf061837f0100402eb56f32dfc7596aadaa82b96", func := "loop.example/g01049/laws.FnExactIsWhole", spec := "fnExactIsWhole", recurses := true, apart := false }
def FnExactIsWholeSaid : Prop := fnExactIsWholeRow.holds Try.pinned (OpenSpec.ofChange fnExactIsWholeSpec)

/-- ITS FALSE NEIGHBOUR: 'it returns false'. Refute it at one input. -/
def fnExactIsWholeWrong : ChangeSpec := { name := "fnExactIsWhole", fn := fun _ => fun
  | [d] => { results := [.lit (.bool false)], args := [d] }
  | _ => none }
def FnExactIsWholeWrongFalsely : Prop := fnExactIsWholeRow.holds Try.pinned (OpenSpec.ofChange fnExactIsWholeWrong)

/-- 'laws.FnExactReadGrid': WHATEVER THE INPUT: true; the input reads as it did. -/
def fnExactReadGridSpec : ChangeSpec := { name := "fnExactReadGrid", fn := fun _ => fun
  | [d] => { results := [.lit (.bool true)], args := [d] }
  | _ => none }
def fnExactReadGridRow : OpenClaim := { program := "ytlggajipoionjaa", sum := "2184bf6465e7c29fe1a8134bbf061837f0100402eb56f32dfc7596aadaa82b96", func := "loop.example/g01049/laws.FnExactReadGrid", spec := "fnExactReadGrid", apart := false }
def FnExactReadGridSaid : Prop := fnExactReadGridRow.holds Try.pinned (OpenSpec.ofChange fnExactReadGridSpec)

/-- ITS FALSE NEIGHBOUR: 'it returns false'. Refute it at one input. -/
def fnExactReadGridWrong : ChangeSpec := { name := "fnExactReadGrid", fn := fun _ => fun
  | [d] => { results := [.lit (.bool false)], args := [d] }
  | _ => none }
def FnExactReadGridWrongFalsely : Prop := fnExactReadGridRow.holds Try.pinned (OpenSpec.ofChange fnExactReadGridWrong)

/-- 'laws.FnExactFirstDifference': WHATEVER THE INPUT: true; the input reads as it did. -/
def fnExactFirstDifferenceSpec : ChangeSpec := { name := "fnExactFirstDifference", fn := fun _ => fun
  | [d1, d2] => { results := [.lit (.bool true)], args := [d1, d2] }
  | _ => none }
def fnExactFirstDifferenceRow : OpenClaim := { program := "ytlggajipoionjaa", sum := "2184bf6465e7c29fe1a8134bbf061837f0100402eb56f32dfc7596aadaa82b96", func := "loop.example/g01049/laws.FnExactFirstDifference", spec := "fnExactFirstDifference", recurses := true, apart := false }
def FnExactFirstDifferenceSaid : Prop := fnExactFirstDifferenceRow.holds Try.pinned (OpenSpec.ofChange fnExactFirstDifferenceSpec)

/-- ITS FALSE NEIGHBOUR: 'it returns false'. Refute it at one input. -/
def fnExactFirstDifferenceWrong : ChangeSpec := { name := "fnExactFirstDifference", fn := fun _ => fun
  | [d1, d2] => { results := [.lit (.bool false)], args := [d1, d2] }
  | _ => none }
def FnExactFirstDifferenceWrongFalsely : Prop := fnExactFirstDifferenceRow.holds Try.pinned (OpenSpec.ofChange fnExactFirstDifferenceWrong)

/-- 'laws.FnExactAreBookings': WHATEVER THE INPUT: true; the input reads as it did. -/
def fnExactAreBookingsSpec : ChangeSpec := { name := "fnExactAreBookings", fn := fun _ => fun
  | [d] => { results := [.lit (.bool true)], args := [d] }
  | _ => none }
def fnExactAreBookingsRow : OpenClaim := { program := "ytlggajipoionjaa", sum := "2184bf6465e7c29fe1a8134bbf061837f0100402eb56f32dfc7596aadaa82b96", func := "loop.example/g01049/laws.FnExactAreBookings", spec := "fnExactAreBookings", apart := false }
def FnExactAreBookingsSaid : Prop := fnExactAreBookingsRow.holds Try.pinned (OpenSpec.ofChange fnExactAreBookingsSpec)

/-- ITS FALSE NEIGHBOUR: 'it returns false'. Refute it at one input. -/
def fnExactAreBookingsWrong : ChangeSpec := { name := "fnExactAreBookings", fn := fun _ => fun
  | [d] => { results := [.lit (.bool false)], args := [d] }
  | _ => none }
def FnExactAreBookingsWrongFalsely : Prop := fnExactAreBookingsRow.holds Try.pinned (OpenSpec.ofChange fnExactAreBookingsWrong)

/-- 'laws.FnExactGridText': WHATEVER THE INPUT: true; the input reads as it did. -/
def fnExactGridTextSpec : ChangeSpec := { name := "fnExactGridText", fn := fun _ => fun
  | [d] => { results := [.lit (.bool true)], args := [d] }
  | _ => none }
def fnExactGridTextRow : OpenClaim := { program := "ytlggajipoionjaa", sum := "2184bf6465e7c29fe1a8134bbf061837f0100402eb56f32dfc7596aadaa82b96", func := "loop.example/g01049/laws.FnExactGridText", spec := "fnExactGridText", apart := false }
def FnExactGridTextSaid : Prop := fnExactGridTextRow.holds Try.pinned (OpenSpec.ofChange fnExactGridTextSpec)

/-- ITS FALSE NEIGHBOUR: 'it returns false'. Refute it at one input. -/
def fnExactGridTextWrong : ChangeSpec := { name := "fnExactGridText", fn := fun _ => fun
  | [d] => { results := [.lit (.bool false)], args := [d] }
  | _ => none }
def FnExactGridTextWrongFalsely : Prop := fnExactGridTextRow.holds Try.pinned (OpenSpec.ofChange fnExactGridTextWrong)

/-- 'laws.FnExactNearestLeft': WHATEVER THE INPUT: true; the input reads as it did. -/
def fnExactNearestLeftSpec : ChangeSpec := { name := "fnExactNearestLeft", fn := fun _ => fun
  | [d1, d2, d3] => { results := [.lit (.bool true)], args := [d1, d2, d3] }
  | _ => none }
def fnExactNearestLeftRow : OpenClaim := { program := "ytlggajipoionjaa", sum := "2184bf6465e7c29fe1a8134bbf061837f0100402eb56f32dfc7596aadaa82b96", func := "loop.example/g01049/laws.FnExactNearestLeft", spec := "fnExactNearestLeft", apart := false }
def FnExactNearestLeftSaid : Prop := fnExactNearestLeftRow.holds Try.pinned (OpenSpec.ofChange fnExactNearestLeftSpec)

/-- ITS FALSE NEIGHBOUR: 'it returns false'. Refute it at one input. -/
def fnExactNearestLeftWrong : ChangeSpec := { name := "fnExactNearestLeft", fn := fun _ => fun
  | [d1, d2, d3] => { results := [.lit (.bool false)], args := [d1, d2, d3] }
  | _ => none }
def FnExactNearestLeftWrongFalsely : Prop := fnExactNearestLeftRow.holds Try.pinned (OpenSpec.ofChange fnExactNearestLeftWrong)

/-- 'laws.FnExactCutJournal': WHATEVER THE INPUT: true; the input reads as it did. -/
def fnExactCutJournalSpec : ChangeSpec := { name := "fnExactCutJournal", fn := fun _ => fun
  | [d1, d2] => { results := [.lit (.bool true)], args := [d1, d2] }
  | _ => none }
def fnExactCutJournalRow : OpenClaim := { program := "ytlggajipoionjaa", sum := "2184bf6465e7c29fe1a8134bbf061837f0100402eb56f32dfc7596aadaa82b96", func := "loop.example/g01049/laws.FnExactCutJournal", spec := "fnExactCutJournal", recurses := true, apart := false }
def FnExactCutJournalSaid : Prop := fnExactCutJournalRow.holds Try.pinned (OpenSpec.ofChange fnExactCutJournalSpec)

/-- ITS FALSE NEIGHBOUR: 'it returns false'. Refute it at one input. -/
def fnExactCutJournalWrong : ChangeSpec := { name := "fnExactCutJournal", fn := fun _ => fun
  | [d1, d2] => { results := [.lit (.bool false)], args := [d1, d2] }
  | _ => none }
def FnExactCutJournalWrongFalsely : Prop := fnExactCutJournalRow.holds Try.pinned (OpenSpec.ofChange fnExactCutJournalWrong)

/- THE SECOND FORM. 'bulk': how many values and letters a reading holds, each counted each time it is reached (what is shared counts as often as it is met; a slice's spare places count too). A statement '..UptoSaid' is the law's where the arguments, and the package variables that the reading takes, are together of bulk at most 1048576: NARROWER than '..Said'. Prove '..Said' where nothing that the law and all that it calls make is longer than what came in: it says more and counts as full. Else prove '..UptoSaid'. A law counts once. -/
mutual
def uptoBulk {H : Type} : DataW H → Nat
  | .lit (.string bytes) => bytes.length + 1
  | .lit _ => 1
  | .nil => 1
  | .ptr d => uptoBulk d + 1
  | .slice elems spare => uptoBulkAll elems + uptoBulkAll spare + 1
  | .agg parts => uptoBulkAll parts + 1
  | .iface _ d => uptoBulk d + 1
  | .map entries => uptoBulkEntries entries + 1
  | .held _ => 1
def uptoBulkAll {H : Type} : List (DataW H) → Nat
  | [] => 0
  | d :: r => uptoBulk d + uptoBulkAll r
def uptoBulkEntries {H : Type} : List (Lit × DataW H) → Nat
  | [] => 0
  | x :: r => uptoBulkEntry x + uptoBulkEntries r
def uptoBulkEntry {H : Type} : Lit × DataW H → Nat
  | (.string bytes, d) => bytes.length + uptoBulk d + 1
  | (_, d) => uptoBulk d + 1
 end
def uptoSmall : (H : Type) → List (DataW H) → Bool := fun _ ds => decide (uptoBulkAll ds ≤ 1048576)
def OpenSpec.upto (s : _root_.Go.ChangeSpec) : _root_.Go.OpenSpec := { _root_.Go.OpenSpec.ofChange s with cond := some uptoSmall }

/-- 'laws.FnExactRefusalsText', WHERE WHAT IT READS IS OF BULK AT MOST 1048576: true; the input reads as it did. -/
def fnExactRefusalsTextUptoRow : OpenClaim := { program := "ytlggajipoionjaa", sum := "2184bf6465e7c29fe1a8134bbf061837f0100402eb56f32dfc7596aadaa82b96", func := "loop.example/g01049/laws.FnExactRefusalsText", spec := "fnExactRefusalsText", apart := false, narrowed := true }
def FnExactRefusalsTextUptoSaid : Prop := fnExactRefusalsTextUptoRow.holds Try.pinned (OpenSpec.upto fnExactRefusalsTextSpec)

/-- 'laws.FnExactIsGrid', WHERE WHAT IT READS IS OF BULK AT MOST 1048576: true; the input reads as it did. -/
def fnExactIsGridUptoRow : OpenClaim := { program := "ytlggajipoionjaa", sum := "2184bf6465e7c29fe1a8134bbf061837f0100402eb56f32dfc7596aadaa82b96", func := "loop.example/g01049/laws.FnExactIsGrid", spec := "fnExactIsGrid", apart := false, narrowed := true }
def FnExactIsGridUptoSaid : Prop := fnExactIsGridUptoRow.holds Try.pinned (OpenSpec.upto fnExactIsGridSpec)

/-- 'laws.FnExactAreEntries', WHERE WHAT IT READS IS OF BULK AT MOST 1048576: true; the input reads as it did. -/
def fnExactAreEntriesUptoRow : OpenClaim := { program := "ytlggajipoionjaa", sum := "2184bf6465e7c29fe1a8134bbf061837f0100402eb56f32dfc7596aadaa82b96", func := "loop.example/g01049/laws.FnExactAreEntries", spec := "fnExactAreEntries", apart := false, narrowed := true }
def FnExactAreEntriesUptoSaid : Prop := fnExactAreEntriesUptoRow.holds Try.pinned (OpenSpec.upto fnExactAreEntriesSpec)

/-- 'laws.FnExactIsPermit', WHERE WHAT IT READS IS OF BULK AT MOST 1048576: true; the input reads as it did. -/
def fnExactIsPermitUptoRow : OpenClaim := { program := "ytlggajipoionjaa", sum := "2184bf6465e7c29fe1a8134bbf061837f0100402eb56f32dfc7596aadaa82b96", func := "loop.example/g01049/laws.FnExactIsPermit", spec := "fnExactIsPermit", apart := false, narrowed := true }
def FnExactIsPermitUptoSaid : Prop := fnExactIsPermitUptoRow.holds Try.pinned (OpenSpec.upto fnExactIsPermitSpec)

/-- 'laws.FnExactIsWhole', WHERE WHAT IT READS IS OF BULK AT MOST 1048576: true; the input reads as it did. -/
def fnExactIsWholeUptoRow : OpenClaim := { program := "ytlggajipoionjaa", sum := "2184bf6465e7c29fe1a8134bbf061837f0100402eb56f32dfc7596aadaa82b96", func := "loop.example/g01049/laws.FnExactIsWhole", spec := "fnExactIsWhole", recurses := true, apart := false, narrowed := true }
def FnExactIsWholeUptoSaid : Prop := fnExactIsWholeUptoRow.holds Try.pinned (OpenSpec.upto fnExactIsWholeSpec)

/-- 'laws.FnExactReadGrid', WHERE WHAT IT READS IS OF BULK AT MOST 1048576: true; the input reads as it did. -/
def fnExactReadGridUptoRow : OpenClaim := { program := "ytlggajipoionjaa", sum := "2184bf6465e7c29fe1a8134bbf061837f0100402eb56f32dfc7596aadaa82b96", func := "loop.example/g01049/laws.FnExactReadGrid", spec := "fnExactReadGrid", apart := false, narrowed := true }
def FnExactReadGridUptoSaid : Prop := fnExactReadGridUptoRow.holds Try.pinned (OpenSpec.upto fnExactReadGridSpec)

/-- 'laws.FnExactFirstDifference', WHERE WHAT IT READS IS OF BULK AT MOST 1048576: true; the input reads as it did. -/
def fnExactFirstDifferenceUptoRow : OpenClaim := { program := "ytlggajipoionjaa", sum := "2184bf6465e7c29fe1a8134bbf061837f0100402eb56f32dfc7596aadaa82b96", func := "loop.example/g01049/laws.FnExactFirstDifference", spec := "fnExactFirstDifference", recurses := true, apart := false, narrowed := true }
def FnExactFirstDifferenceUptoSaid : Prop := fnExactFirstDifferenceUptoRow.holds Try.pinned (OpenSpec.upto fnExactFirstDifferenceSpec)

/-- 'laws.FnExactAreBookings', WHERE WHAT IT READS IS OF BULK AT MOST 1048576: true; the input reads as it did. -/
def fnExactAreBookingsUptoRow : OpenClaim := { program := "ytlggajipoionjaa", sum := "2184bf6465e7c29fe1a8134bbf061837f0100402eb56f32dfc7596aadaa82b96", func := "loop.example/g01049/laws.FnExactAreBookings", spec := "fnExactAreBookings", apart := false, narrowed := true }
def FnExactAreBookingsUptoSaid : Prop := fnExactAreBookingsUptoRow.holds Try.pinned (OpenSpec.upto fnExactAreBookingsSpec)

/-- 'laws.FnExactGridText', WHERE WHAT IT READS IS OF BULK AT MOST 1048576: true; the input reads as it did. -/
def fnExactGridTextUptoRow : OpenClaim := { program := "ytlggajipoionjaa", sum := "2184bf6465e7c29fe1a8134bbf061837f0100402eb56f32dfc7596aadaa82b96", func := "loop.example/g01049/laws.FnExactGridText", spec := "fnExactGridText", apart := false, narrowed := true }
def FnExactGridTextUptoSaid : Prop := fnExactGridTextUptoRow.holds Try.pinned (OpenSpec.upto fnExactGridTextSpec)

/-- 'laws.FnExactNearestLeft', WHERE WHAT IT READS IS OF BULK AT MOST 1048576: true; the input reads as it did. -/
def fnExactNearestLeftUptoRow : OpenClaim := { program := "ytlggajipoionjaa", sum := "2184bf6465e7c29fe1a8134bbf061837f0100402eb56f32dfc7596aadaa82b96", func := "loop.example/g01049/laws.FnExactNearestLeft", spec := "fnExactNearestLeft", apart := false, narrowed := true }
def FnExactNearestLeftUptoSaid : Prop := fnExactNearestLeftUptoRow.holds Try.pinned (OpenSpec.upto fnExactNearestLeftSpec)

/-- 'laws.FnExactCutJournal', WHERE WHAT IT READS IS OF BULK AT MOST 1048576: true; the input reads as it did. -/
def fnExactCutJournalUptoRow : OpenClaim := { program := "ytlggajipoionjaa", sum := "2184bf6465e7c29fe1a8134bbf061837f0100402eb56f32dfc7596aadaa82b96", func := "loop.example/g01049/laws.FnExactCutJournal", spec := "fnExactCutJournal", recurses := true, apart := false, narrowed := true }
def FnExactCutJournalUptoSaid : Prop := fnExactCutJournalUptoRow.holds Try.pinned (OpenSpec.upto fnExactCutJournalSpec)

end Rows
end Go.Proofs.Ytlggajipoionjaa
