/-
  No cell of these rows narrows 'for every input' (looked for: loops, veiled, ifaces, maps, wideKeys, modest, calm, conditions, laid).
  DERIVED. THE GIVEN ROWS OF THIS SEAT. 12 by the template 'for every input the law returns true; each argument reads behind the call as it read before'; 0 by the template 'total and deterministic' (their statements: YtppfdipgaifhiaaTotals.lean).
  GIVEN WITH THE SEED: the statements are not yours to turn. If you find one false, say at which input.
  Laid BY PROGRAM, IN A SANDBOX (cutbox-rows.mjs): the forced cells as the released guide's own fill.sh prints them over the translation 8c7883f2bec3bc46… (all of the seat's roots in one cut). By AI agents, Wed Nov 11 2026. No macro, syntax, notation, axiom, sorry.
-/
import Derived.Test.YtppfdipgaifhiaaChecked
import GoSem.Claim
import GoSem.ClaimJoined
import GoSem.ClaimMapViews
import Derived.JoinedTies
import Derived.KernelRfl
namespace Go.Proofs.Ytppfdipgaifhiaa
/- THE CELL 'sum', in the pinned program and in every row, IS THE sha256 OF THE DUMP (.gsa) THAT YtppfdipgaifhiaaProg.lean LOADS. Nothing in Lean hashes anything: it is a label: what it is worth is what the hold of that sum in a sandbox is worth. -/
noncomputable def Try.pinned : Pinned := { name := "ytppfdipgaifhiaa", sum := "8c7883f2bec3bc465daddb82839b983d93ae931d058047b512e95ac0ec32605d", checked := Try.checked }
namespace Rows
def none {H : Type} : Left H := { results := [], args := [] }

/-- 'laws.FnExactCellsLeft': WHATEVER THE INPUT: true; the input reads as it did. -/
def fnExactCellsLeftSpec : ChangeSpec := { name := "fnExactCellsLeft", fn := fun _ => fun
  | [d] => { results := [.lit (.bool true)], args := [d] }
  | _ => none }
def fnExactCellsLeftRow : OpenClaim := { program := "ytppfdipgaifhiaa", sum := "8c7883f2bec3bc465daddb82839b983d93ae931d058047b512e95ac0ec32605d", func := "loop.example/g01049/laws.FnExactCellsLeft", spec := "fnExactCellsLeft", apart := false }
def FnExactCellsLeftSaid : Prop := fnExactCellsLeftRow.holds Try.pinned (OpenSpec.ofChange fnExactCellsLeftSpec)

/-- ITS FALSE NEIGHBOUR: 'it returns false'. Refute it at one input. -/
def fnExactCellsLeftWrong : ChangeSpec := { name := "fnExactCellsLeft", fn := fun _ => fun
  | [d] => { results := [.lit (.bool false)], args := [d] }
  | _ => none }
def FnExactCellsLeftWrongFalsely : Prop := fnExactCellsLeftRow.holds Try.pinned (OpenSpec.ofChange fnExactCellsLeftWrong)

/-- 'laws.FnExactPiecesLeft': WHATEVER THE INPUT: true; the input reads as it did. -/
def fnExactPiecesLeftSpec : ChangeSpec := { name := "fnExactPiecesLeft", fn := fun _ => fun
  | [d1, d2] => { results := [.lit (.bool true)], args := [d1, d2] }
  | _ => none }
def fnExactPiecesLeftRow : OpenClaim := { program := "ytppfdipgaifhiaa", sum := "8c7883f2bec3bc465daddb82839b983d93ae931d058047b512e95ac0ec32605d", func := "loop.example/g01049/laws.FnExactPiecesLeft", spec := "fnExactPiecesLeft", apart := false }
def FnExactPiecesLeftSaid : Prop := fnExactPiecesLeftRow.holds Try.pinned (OpenSpec.ofChange fnExactPiecesLeftSpec)

/-- ITS FALSE NEIGHBOUR: 'it returns false'. Refute it at one input. -/
def fnExactPiecesLeftWrong : ChangeSpec := { name := "fnExactPiecesLeft", fn := fun _ => fun
  | [d1, d2] => { results := [.lit (.bool false)], args := [d1, d2] }
  | _ => none }
def FnExactPiecesLeftWrongFalsely : Prop := fnExactPiecesLeftRow.holds Try.pinned (OpenSpec.ofChange fnExactPiecesLeftWrong)

/-- 'laws.FnExactSearchRow': WHATEVER THE INPUT: true; the input reads as it did. -/
def fnExactSearchRowSpec : ChangeSpec := { name := "fnExactSearchRow", fn := fun _ => fun
  | [d1, d2] => { results := [.lit (.bool true)], args := [d1, d2] }
  | _ => none }
def fnExactSearchRowRow : OpenClaim := { program := "ytppfdipgaifhiaa", sum := "8c7883f2bec3bc465daddb82839b983d93ae931d058047b512e95ac0ec32605d", func := "loop.example/g01049/laws.FnExactSearchRow", spec := "fnExactSearchRow", apart := false }
def FnExactSearchRowSaid : Prop := fnExactSearchRowRow.holds Try.pinned (OpenSpec.ofChange fnExactSearchRowSpec)

/-- ITS FALSE NEIGHBOUR: 'it returns false'. Refute it at one input. -/
def fnExactSearchRowWrong : ChangeSpec := { name := "fnExactSearchRow", fn := fun _ => fun
  | [d1, d2] => { results := [.lit (.bool false)], args := [d1, d2] }
  | _ => none }
def FnExactSearchRowWrongFalsely : Prop := fnExactSearchRowRow.holds Try.pinned (OpenSpec.ofChange fnExactSearchRowWrong)

/-- 'laws.FnExactSearchCell': WHATEVER THE INPUT: true; the input reads as it did. -/
def fnExactSearchCellSpec : ChangeSpec := { name := "fnExactSearchCell", fn := fun _ => fun
  | [d1, d2, d3] => { results := [.lit (.bool true)], args := [d1, d2, d3] }
  | _ => none }
def fnExactSearchCellRow : OpenClaim := { program := "ytppfdipgaifhiaa", sum := "8c7883f2bec3bc465daddb82839b983d93ae931d058047b512e95ac0ec32605d", func := "loop.example/g01049/laws.FnExactSearchCell", spec := "fnExactSearchCell", apart := false }
def FnExactSearchCellSaid : Prop := fnExactSearchCellRow.holds Try.pinned (OpenSpec.ofChange fnExactSearchCellSpec)

/-- ITS FALSE NEIGHBOUR: 'it returns false'. Refute it at one input. -/
def fnExactSearchCellWrong : ChangeSpec := { name := "fnExactSearchCell", fn := fun _ => fun
  | [d1, d2, d3] => { results := [.lit (.bool false)], args := [d1, d2, d3] }
  | _ => none }
def FnExactSearchCellWrongFalsely : Prop := fnExactSearchCellRow.holds Try.pinned (OpenSpec.ofChange fnExactSearchCellWrong)

/-- 'laws.FnExactSweepOrder': WHATEVER THE INPUT: true; the input reads as it did. -/
def fnExactSweepOrderSpec : ChangeSpec := { name := "fnExactSweepOrder", fn := fun _ => fun
  | [d] => { results := [.lit (.bool true)], args := [d] }
  | _ => none }
def fnExactSweepOrderRow : OpenClaim := { program := "ytppfdipgaifhiaa", sum := "8c7883f2bec3bc465daddb82839b983d93ae931d058047b512e95ac0ec32605d", func := "loop.example/g01049/laws.FnExactSweepOrder", spec := "fnExactSweepOrder", apart := false }
def FnExactSweepOrderSaid : Prop := fnExactSweepOrderRow.holds Try.pinned (OpenSpec.ofChange fnExactSweepOrderSpec)

/-- ITS FALSE NEIGHBOUR: 'it returns false'. Refute it at one input. -/
def fnExactSweepOrderWrong : ChangeSpec := { name := "fnExactSweepOrder", fn := fun _ => fun
  | [d] => { results := [.lit (.bool false)], args := [d] }
  | _ => none }
def FnExactSweepOrderWrongFalsely : Prop := fnExactSweepOrderRow.holds Try.pinned (OpenSpec.ofChange fnExactSweepOrderWrong)

/-- 'laws.FnExactIsConsoleLine': WHATEVER THE INPUT: true; the input reads as it did. -/
def fnExactIsConsoleLineSpec : ChangeSpec := { name := "fnExactIsConsoleLine", fn := fun _ => fun
  | [d] => { results := [.lit (.bool true)], args := [d] }
  | _ => none }
def fnExactIsConsoleLineRow : OpenClaim := { program := "ytppfdipgaifhiaa", sum := "8c7883f2bec3bc465daddb82839b983d93ae931d058047b512e95ac0ec32605d", func := "loop.example/g01049/laws.FnExactIsConsoleLine", spec := "fnExactIsConsoleLine", recurses := true, apart := false }
def FnExactIsConsoleLineSaid : Prop := fnExactIsConsoleLineRow.holds Try.pinned (OpenSpec.ofChange fnExactIsConsoleLineSpec)

/-- ITS FALSE NEIGHBOUR: 'it returns false'. Refute it at one input. -/
def fnExactIsConsoleLineWrong : ChangeSpec := { name := "fnExactIsConsoleLine", fn := fun _ => fun
  | [d] => { results := [.lit (.bool false)], args := [d] }
  | _ => none }
def FnExactIsConsoleLineWrongFalsely : Prop := fnExactIsConsoleLineRow.holds Try.pinned (OpenSpec.ofChange fnExactIsConsoleLineWrong)

/-- 'laws.FnExactMostIn': WHATEVER THE INPUT: true; the input reads as it did. -/
def fnExactMostInSpec : ChangeSpec := { name := "fnExactMostIn", fn := fun _ => fun
  | [d1, d2] => { results := [.lit (.bool true)], args := [d1, d2] }
  | _ => none }
def fnExactMostInRow : OpenClaim := { program := "ytppfdipgaifhiaa", sum := "8c7883f2bec3bc465daddb82839b983d93ae931d058047b512e95ac0ec32605d", func := "loop.example/g01049/laws.FnExactMostIn", spec := "fnExactMostIn", apart := false }
def FnExactMostInSaid : Prop := fnExactMostInRow.holds Try.pinned (OpenSpec.ofChange fnExactMostInSpec)

/-- ITS FALSE NEIGHBOUR: 'it returns false'. Refute it at one input. -/
def fnExactMostInWrong : ChangeSpec := { name := "fnExactMostIn", fn := fun _ => fun
  | [d1, d2] => { results := [.lit (.bool false)], args := [d1, d2] }
  | _ => none }
def FnExactMostInWrongFalsely : Prop := fnExactMostInRow.holds Try.pinned (OpenSpec.ofChange fnExactMostInWrong)

/-- 'laws.FnExactWalkLength': WHATEVER THE INPUT: true; the input reads as it did. -/
def fnExactWalkLengthSpec : ChangeSpec := { name := "fnExactWalkLength", fn := fun _ => fun
  | [d1, d2] => { results := [.lit (.bool true)], args := [d1, d2] }
  | _ => none }
def fnExactWalkLengthRow : OpenClaim := { program := "ytppfdipgaifhiaa", sum := "8c7883f2bec3bc465daddb82839b983d93ae931d058047b512e95ac0ec32605d", func := "loop.example/g01049/laws.FnExactWalkLength", spec := "fnExactWalkLength", apart := false }
def FnExactWalkLengthSaid : Prop := fnExactWalkLengthRow.holds Try.pinned (OpenSpec.ofChange fnExactWalkLengthSpec)

/-- ITS FALSE NEIGHBOUR: 'it returns false'. Refute it at one input. -/
def fnExactWalkLengthWrong : ChangeSpec := { name := "fnExactWalkLength", fn := fun _ => fun
  | [d1, d2] => { results := [.lit (.bool false)], args := [d1, d2] }
  | _ => none }
def FnExactWalkLengthWrongFalsely : Prop := fnExactWalkLengthRow.holds Try.pinned (OpenSpec.ofChange fnExactWalkLengthWrong)

/-- 'laws.FnExactReadJournal': WHATEVER THE INPUT: true; the input reads as it did. -/
def fnExactReadJournalSpec : ChangeSpec := { name := "fnExactReadJournal", fn := fun _ => fun
  | [d] => { results := [.lit (.bool true)], args := [d] }
  | _ => none }
def fnExactReadJournalRow : OpenClaim := { program := "ytppfdipgaifhiaa", sum := "8c7883f2bec3bc465daddb82839b983d93ae931d058047b512e95ac0ec32605d", func := "loop.example/g01049/laws.FnExactReadJournal", spec := "fnExactReadJournal", recurses := true, apart := false }
def FnExactReadJournalSaid : Prop := fnExactReadJournalRow.holds Try.pinned (OpenSpec.ofChange fnExactReadJournalSpec)

/-- ITS FALSE NEIGHBOUR: 'it returns false'. Refute it at one input. -/
def fnExactReadJournalWrong : ChangeSpec := { name := "fnExactReadJournal", fn := fun _ => fun
  | [d] => { results := [.lit (.bool false)], args := [d] }
  | _ => none }
def FnExactReadJournalWrongFalsely : Prop := fnExactReadJournalRow.holds Try.pinned (OpenSpec.ofChange fnExactReadJournalWrong)

/-- 'laws.FnExactEntriesOf': WHATEVER THE INPUT: true; the input reads as it did. -/
def fnExactEntriesOfSpec : ChangeSpec := { name := "fnExactEntriesOf", fn := fun _ => fun
  | [d1, d2] => { results := [.lit (.bool true)], args := [d1, d2] }
  | _ => none }
def fnExactEntriesOfRow : OpenClaim := { program := "ytppfdipgaifhiaa", sum := "8c7883f2bec3bc465daddb82839b983d93ae931d058047b512e95ac0ec32605d", func := "loop.example/g01049/laws.FnExactEntriesOf", spec := "fnExactEntriesOf", recurses := true, apart := false }
def FnExactEntriesOfSaid : Prop := fnExactEntriesOfRow.holds Try.pinned (OpenSpec.ofChange fnExactEntriesOfSpec)

/-- ITS FALSE NEIGHBOUR: 'it returns false'. Refute it at one input. -/
def fnExactEntriesOfWrong : ChangeSpec := { name := "fnExactEntriesOf", fn := fun _ => fun
  | [d1, d2] => { results := [.lit (.bool false)], args := [d1, d2] }
  | _ => none }
def FnExactEntriesOfWrongFalsely : Prop := fnExactEntriesOfRow.holds Try.pinned (OpenSpec.ofChange fnExactEntriesOfWrong)

/-- 'laws.FnExactDudsLeft': WHATEVER THE INPUT: true; the input reads as it did. -/
def fnExactDudsLeftSpec : ChangeSpec := { name := "fnExactDudsLeft", fn := fun _ => fun
  | [d1, d2] => { results := [.lit (.bool true)], args := [d1, d2] }
  | _ => none }
def fnExactDudsLeftRow : OpenClaim := { program := "ytppfdipgaifhiaa", sum := "8c7883f2bec3bc465daddb82839b983d93ae931d058047b512e95ac0ec32605d", func := "loop.example/g01049/laws.FnExactDudsLeft", spec := "fnExactDudsLeft", apart := false }
def FnExactDudsLeftSaid : Prop := fnExactDudsLeftRow.holds Try.pinned (OpenSpec.ofChange fnExactDudsLeftSpec)

/-- ITS FALSE NEIGHBOUR: 'it returns false'. Refute it at one input. -/
def fnExactDudsLeftWrong : ChangeSpec := { name := "fnExactDudsLeft", fn := fun _ => fun
  | [d1, d2] => { results := [.lit (.bool false)], args := [d1, d2] }
  | _ => none }
def FnExactDudsLeftWrongFalsely : Prop := fnExactDudsLeftRow.holds Try.pinned (OpenSpec.ofChange fnExactDudsLeftWrong)

/-- 'laws.FnExactAppendEntry': WHATEVER THE INPUT: true; the input reads as it did. -/
def fnExactAppendEntrySpec : ChangeSpec := { name := "fnExactAppendEntry", fn := fun _ => fun
  | [d1, d2] => { results := [.lit (.bool true)], args := [d1, d2] }
  | _ => none }
def fnExactAppendEntryRow : OpenClaim := { program := "ytppfdipgaifhiaa", sum := "8c7883f2bec3bc465daddb82839b983d93ae931d058047b512e95ac0ec32605d", func := "loop.example/g01049/laws.FnExactAppendEntry", spec := "fnExactAppendEntry", recurses := true, apart := false }
def FnExactAppendEntrySaid : Prop := fnExactAppendEntryRow.holds Try.pinned (OpenSpec.ofChange fnExactAppendEntrySpec)

/-- ITS FALSE NEIGHBOUR: 'it returns false'. Refute it at one input. -/
def fnExactAppendEntryWrong : ChangeSpec := { name := "fnExactAppendEntry", fn := fun _ => fun
  | [d1, d2] => { results := [.lit (.bool false)], args := [d1, d2] }
  | _ => none }
def FnExactAppendEntryWrongFalsely : Prop := fnExactAppendEntryRow.holds Try.pinned (OpenSpec.ofChange fnExactAppendEntryWrong)

/- THE SECOND FORM. 'bulk': how many values and letters a reading holds, each counted each time it is reached (what is shared counts as often as it is met; a slice's spare places count too). A statement '..UptoSaid' is the law's where the arguments, and the package variables that the reading takes, are together of bulk at most 1048576: NARROWER than '..Said'. Prove '..Said' where nothing that the law and all that it calls make is longer than what came in: it says more and counts as full. Else prove '..UptoSaid'. A law counts once. -/
mutual
def uptoBulk {H : Type} : DataW H → Nat
  | .lit (.string bytes) => bytes.length + 1
  | .lit _ => 1
  | .nil => 1
  | .ptr d => uptoBulk d + 1
  | .slice elems spare => uptoBulkAll elems + uptoBulkAll spare + 1
  | .agg parts => uptoBulkAll parts + 1
  | .iface _ d => uptoBulk d + 1
  | .map entries => uptoBulkEntries entries + 1
  | .held _ => 1
def uptoBulkAll {H : Type} : List (DataW H) → Nat
  | [] => 0
  | d :: r => uptoBulk d + uptoBulkAll r
def uptoBulkEntries {H : Type} : List (Lit × DataW H) → Nat
  | [] => 0
  | x :: r => uptoBulkEntry x + uptoBulkEntries r
def uptoBulkEntry {H : Type} : Lit × DataW H → Nat
  | (.string bytes, d) => bytes.length + uptoBulk d + 1
  | (_, d) => uptoBulk d + 1
 end
def uptoSmall : (H : Type) → List (DataW H) → Bool := fun _ ds => decide (uptoBulkAll ds ≤ 1048576)
def OpenSpec.upto (s : _root_.Go.ChangeSpec) : _root_.Go.OpenSpec := { _root_.Go.OpenSpec.ofChange s with cond := some uptoSmall }

/-- 'laws.FnExactCellsLeft', WHERE WHAT IT READS IS OF BULK AT MOST 1048576: true; the input reads as it did. -/
def fnExactCellsLeftUptoRow : OpenClaim := { program := "ytppfdipgaifhiaa", sum := "8c7883f2bec3bc465daddb82839b983d93ae931d058047b512e95ac0ec32605d", func := "loop.example/g01049/laws.FnExactCellsLeft", spec := "fnExactCellsLeft", apart := false, narrowed := true }
def FnExactCellsLeftUptoSaid : Prop := fnExactCellsLeftUptoRow.holds Try.pinned (OpenSpec.upto fnExactCellsLeftSpec)

/-- 'laws.FnExactPiecesLeft', WHERE WHAT IT READS IS OF BULK AT MOST 1048576: true; the input reads as it did. -/
def fnExactPiecesLeftUptoRow : OpenClaim := { program := "ytppfdipgaifhiaa", sum := "8c7883f2bec3bc465daddb82839b983d93ae931d058047b512e95ac0ec32605d", func := "loop.example/g01049/laws.FnExactPiecesLeft", spec := "fnExactPiecesLeft", apart := false, narrowed := true }
def FnExactPiecesLeftUptoSaid : Prop := fnExactPiecesLeftUptoRow.holds Try.pinned (OpenSpec.upto fnExactPiecesLeftSpec)

/-- 'laws.FnExactSearchRow', WHERE WHAT IT READS IS OF BULK AT MOST 1048576: true; the input reads as it did. -/
def fnExactSearchRowUptoRow : OpenClaim := { program := "ytppfdipgaifhiaa", sum := "8c7883f2bec3bc465daddb82839b983d93ae931d058047b512e95ac0ec32605d", func := "loop.example/g01049/laws.FnExactSearchRow", spec := "fnExactSearchRow", apart := false, narrowed := true }
def FnExactSearchRowUptoSaid : Prop := fnExactSearchRowUptoRow.holds Try.pinned (OpenSpec.upto fnExactSearchRowSpec)

/-- 'laws.FnExactSearchCell', WHERE WHAT IT READS IS OF BULK AT MOST 1048576: true; the input reads as it did. -/
def fnExactSearchCellUptoRow : OpenClaim := { program := "ytppfdipgaifhiaa", sum := "8c7883f2bec3bc465daddb82839b983d93ae931d058047b512e95ac0ec32605d", func := "loop.example/g01049/laws.FnExactSearchCell", spec := "fnExactSearchCell", apart := false, narrowed := true }
def FnExactSearchCellUptoSaid : Prop := fnExactSearchCellUptoRow.holds Try.pinned (OpenSpec.upto fnExactSearchCellSpec)

/-- 'laws.FnExactSweepOrder', WHERE WHAT IT READS IS OF BULK AT MOST 1048576: true; the input reads as it did. -/
def fnExactSweepOrderUptoRow : OpenClaim := { program := "ytppfdipgaifhiaa", sum := "8c7883f2bec3bc465daddb82839b983d93ae931d058047b512e95ac0ec32605d", func := "loop.example/g01049/laws.FnExactSweepOrder", spec := "fnExactSweepOrder", apart := false, narrowed := true }
def FnExactSweepOrderUptoSaid : Prop := fnExactSweepOrderUptoRow.holds Try.pinned (OpenSpec.upto fnExactSweepOrderSpec)

/-- 'laws.FnExactIsConsoleLine', WHERE WHAT IT READS IS OF BULK AT MOST 1048576: true; the input reads as it did. -/
def fnExactIsConsoleLineUptoRow : OpenClaim := { program := "ytppfdipgaifhiaa", sum := "8c7883f2bec3bc465daddb82839b983d93ae931d058047b512e95ac0ec32605d", func := "loop.example/g01049/laws.FnExactIsConsoleLine", spec := "fnExactIsConsoleLine", recurses := true, apart := false, narrowed := true }
def FnExactIsConsoleLineUptoSaid : Prop := fnExactIsConsoleLineUptoRow.holds Try.pinned (OpenSpec.upto fnExactIsConsoleLineSpec)

/-- 'laws.FnExactMostIn', WHERE WHAT IT READS IS OF BULK AT MOST 1048576: true; the input reads as it did. -/
def fnExactMostInUptoRow : OpenClaim := { program := "ytppfdipgaifhiaa", sum := "8c7883f2bec3bc465daddb82839b983d93ae931d058047b512e95ac0ec32605d", func := "loop.example/g01049/laws.FnExactMostIn", spec := "fnExactMostIn", apart := false, narrowed := true }
def FnExactMostInUptoSaid : Prop := fnExactMostInUptoRow.holds Try.pinned (OpenSpec.upto fnExactMostInSpec)

/-- 'laws.FnExactWalkLength', WHERE WHAT IT READS IS OF BULK AT MOST 1048576: true; the input reads as it did. -/
def fnExactWalkLengthUptoRow : OpenClaim := { program := "ytppfdipgaifhiaa", sum := "8c7883f2bec3bc465daddb82839b983d93ae931d058047b512e95ac0ec32605d", func := "loop.example/g01049/laws.FnExactWalkLength", spec := "fnExactWalkLength", apart := false, narrowed := true }
def FnExactWalkLengthUptoSaid : Prop := fnExactWalkLengthUptoRow.holds Try.pinned (OpenSpec.upto fnExactWalkLengthSpec)

/-- 'laws.FnExactReadJournal', WHERE WHAT IT READS IS OF BULK AT MOST 1048576: true; the input reads as it did. -/
def fnExactReadJournalUptoRow : OpenClaim := { program := "ytppfdipgaifhiaa", sum := "8c7883f2bec3bc465daddb82839b983d93ae931d058047b512e95ac0ec32605d", func := "loop.example/g01049/laws.FnExactReadJournal", spec := "fnExactReadJournal", recurses := true, apart := false, narrowed := true }
def FnExactReadJournalUptoSaid : Prop := fnExactReadJournalUptoRow.holds Try.pinned (OpenSpec.upto fnExactReadJournalSpec)

/-- 'laws.FnExactEntriesOf', WHERE WHAT IT READS IS OF BULK AT MOST 1048576: true; the input reads as it did. -/
def fnExactEntriesOfUptoRow : OpenClaim := { program := "ytppfdipgaifhiaa", sum := "8c7883f2bec3bc465daddb82839b983d93ae931d058047b512e95ac0ec32605d", func := "loop.example/g01049/laws.FnExactEntriesOf", spec := "fnExactEntriesOf", recurses := true, apart := false, narrowed := true }
def FnExactEntriesOfUptoSaid : Prop := fnExactEntriesOfUptoRow.holds Try.pinned (OpenSpec.upto fnExactEntriesOfSpec)

/-- 'laws.FnExactDudsLeft', WHERE WHAT IT READS IS OF BULK AT MOST 1048576: true; the input reads as it did. -/
def fnExactDudsLeftUptoRow : OpenClaim := { program := "ytppfdipgaifhiaa", sum := "8c7883f2bec3bc465daddb82839b983d93ae931d058047b512e95ac0ec32605d", func := "loop.example/g01049/laws.FnExactDudsLeft", spec := "fnExactDudsLeft", apart := false, narrowed := true }
def FnExactDudsLeftUptoSaid : Prop := fnExactDudsLeftUptoRow.holds Try.pinned (OpenSpec.upto fnExactDudsLeftSpec)

/-- 'laws.FnExactAppendEntry', WHERE WHAT IT READS IS OF BULK AT MOST 1048576: true; the input reads as it did. -/
def fnExactAppendEntryUptoRow : OpenClaim := { program := "ytppfdipgaifhiaa", sum := "8c7883f2bec3bc465daddb82839b983d93ae931d058047b512e95ac0ec32605d", func := "loop.example/g01049/laws.FnExactAppendEntry", spec := "fnExactAppendEntry", recurses := true, apart := false, narrowed := true }
def FnExactAppendEntryUptoSaid : Prop := fnExactAppendEntryUptoRow.holds Try.pinned (OpenSpec.upto fnExactAppendEntrySpec)

end Rows
end Go.Proofs.Ytppfdipgaifhiaa
