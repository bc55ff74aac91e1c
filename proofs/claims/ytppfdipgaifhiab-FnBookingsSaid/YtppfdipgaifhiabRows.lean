/-
  No cell of these rows narrows 'for every input' (looked for: loops, veiled, ifaces, maps, wideKeys, modest, calm, conditions, laid).
  DERIVED. THE GIVEN ROWS OF THIS SEAT. 12 by the template 'for every input the law returns true; each argument reads behind the call as it read before'; 0 by the template 'total and deterministic' (their statements: YtppfdipgaifhiabTotals.lean).
  GIVEN WITH THE SEED: the statements are not yours to turn. If you find one false, say at which input.
  Laid BY PROGRAM, IN A SANDBOX (cutbox-rows.mjs): the forced cells as the released guide's own fill.sh prints them over the translation c1b2ca21ec692f2a… (all of the seat's roots in one cut). By AI agents, Wed Nov 11 2026. No macro, syntax, notation, axiom, sorry.
-/
import Derived.Test.YtppfdipgaifhiabChecked
import GoSem.Claim
import GoSem.ClaimJoined
import GoSem.ClaimMapViews
import Derived.JoinedTies
import Derived.KernelRfl
namespace Go.Proofs.Ytppfdipgaifhiab
/- THE CELL 'sum', in the pinned program and in every row, IS THE sha256 OF THE DUMP (.gsa) THAT YtppfdipgaifhiabProg.lean LOADS. Nothing in Lean hashes anything: it is a label: what it is worth is what the hold of that sum in a sandbox is worth. -/
noncomputable def Try.pinned : Pinned := { name := "ytppfdipgaifhiab", sum := "c1b2ca21ec692f2aae739b347d3deaec1c50b0d293bdc62df79a732b7d5d02bd", checked := Try.checked }
namespace Rows
def none {H : Type} : Left H := { results := [], args := [] }

/-- 'laws.FnExactWriteJournal': WHATEVER THE INPUT: true; the input reads as it did. -/
def fnExactWriteJournalSpec : ChangeSpec := { name := "fnExactWriteJournal", fn := fun _ => fun
  | [d] => { results := [.lit (.bool true)], args := [d] }
  | _ => none }
def fnExactWriteJournalRow : OpenClaim := { program := "ytppfdipgaifhiab", sum := "c1b2ca21ec692f2aae739b347d3deaec1c50b0d293bdc62df79a732b7d5d02bd", func := "loop.example/g01049/laws.FnExactWriteJournal", spec := "fnExactWriteJournal", recurses := true, apart := false }
def FnExactWriteJournalSaid : Prop := fnExactWriteJournalRow.holds Try.pinned (OpenSpec.ofChange fnExactWriteJournalSpec)

/-- ITS FALSE NEIGHBOUR: 'it returns false'. Refute it at one input. -/
def fnExactWriteJournalWrong : ChangeSpec := { name := "fnExactWriteJournal", fn := fun _ => fun
  | [d] => { results := [.lit (.bool false)], args := [d] }
  | _ => none }
def FnExactWriteJournalWrongFalsely : Prop := fnExactWriteJournalRow.holds Try.pinned (OpenSpec.ofChange fnExactWriteJournalWrong)

/-- 'laws.FnExactIsSettled': WHATEVER THE INPUT: true; the input reads as it did. -/
def fnExactIsSettledSpec : ChangeSpec := { name := "fnExactIsSettled", fn := fun _ => fun
  | [d] => { results := [.lit (.bool true)], args := [d] }
  | _ => none }
def fnExactIsSettledRow : OpenClaim := { program := "ytppfdipgaifhiab", sum := "c1b2ca21ec692f2aae739b347d3deaec1c50b0d293bdc62df79a732b7d5d02bd", func := "loop.example/g01049/laws.FnExactIsSettled", spec := "fnExactIsSettled", apart := false }
def FnExactIsSettledSaid : Prop := fnExactIsSettledRow.holds Try.pinned (OpenSpec.ofChange fnExactIsSettledSpec)

/-- ITS FALSE NEIGHBOUR: 'it returns false'. Refute it at one input. -/
def fnExactIsSettledWrong : ChangeSpec := { name := "fnExactIsSettled", fn := fun _ => fun
  | [d] => { results := [.lit (.bool false)], args := [d] }
  | _ => none }
def FnExactIsSettledWrongFalsely : Prop := fnExactIsSettledRow.holds Try.pinned (OpenSpec.ofChange fnExactIsSettledWrong)

/-- 'laws.FnExactBookPieces': WHATEVER THE INPUT: true; the input reads as it did. -/
def fnExactBookPiecesSpec : ChangeSpec := { name := "fnExactBookPieces", fn := fun _ => fun
  | [d1, d2] => { results := [.lit (.bool true)], args := [d1, d2] }
  | _ => none }
def fnExactBookPiecesRow : OpenClaim := { program := "ytppfdipgaifhiab", sum := "c1b2ca21ec692f2aae739b347d3deaec1c50b0d293bdc62df79a732b7d5d02bd", func := "loop.example/g01049/laws.FnExactBookPieces", spec := "fnExactBookPieces", apart := false }
def FnExactBookPiecesSaid : Prop := fnExactBookPiecesRow.holds Try.pinned (OpenSpec.ofChange fnExactBookPiecesSpec)

/-- ITS FALSE NEIGHBOUR: 'it returns false'. Refute it at one input. -/
def fnExactBookPiecesWrong : ChangeSpec := { name := "fnExactBookPieces", fn := fun _ => fun
  | [d1, d2] => { results := [.lit (.bool false)], args := [d1, d2] }
  | _ => none }
def FnExactBookPiecesWrongFalsely : Prop := fnExactBookPiecesRow.holds Try.pinned (OpenSpec.ofChange fnExactBookPiecesWrong)

/-- 'laws.FnExactTotalsOf': WHATEVER THE INPUT: true; the input reads as it did. -/
def fnExactTotalsOfSpec : ChangeSpec := { name := "fnExactTotalsOf", fn := fun _ => fun
  | [d1, d2] => { results := [.lit (.bool true)], args := [d1, d2] }
  | _ => none }
def fnExactTotalsOfRow : OpenClaim := { program := "ytppfdipgaifhiab", sum := "c1b2ca21ec692f2aae739b347d3deaec1c50b0d293bdc62df79a732b7d5d02bd", func := "loop.example/g01049/laws.FnExactTotalsOf", spec := "fnExactTotalsOf", apart := false }
def FnExactTotalsOfSaid : Prop := fnExactTotalsOfRow.holds Try.pinned (OpenSpec.ofChange fnExactTotalsOfSpec)

/-- ITS FALSE NEIGHBOUR: 'it returns false'. Refute it at one input. -/
def fnExactTotalsOfWrong : ChangeSpec := { name := "fnExactTotalsOf", fn := fun _ => fun
  | [d1, d2] => { results := [.lit (.bool false)], args := [d1, d2] }
  | _ => none }
def FnExactTotalsOfWrongFalsely : Prop := fnExactTotalsOfRow.holds Try.pinned (OpenSpec.ofChange fnExactTotalsOfWrong)

/-- 'laws.FnGridTexts': WHATEVER THE INPUT: true; the input reads as it did. -/
def fnGridTextsSpec : ChangeSpec := { name := "fnGridTexts", fn := fun _ => fun
  | [d] => { results := [.lit (.bool true)], args := [d] }
  | _ => none }
def fnGridTextsRow : OpenClaim := { program := "ytppfdipgaifhiab", sum := "c1b2ca21ec692f2aae739b347d3deaec1c50b0d293bdc62df79a732b7d5d02bd", func := "loop.example/g01049/laws.FnGridTexts", spec := "fnGridTexts", apart := false }
def FnGridTextsSaid : Prop := fnGridTextsRow.holds Try.pinned (OpenSpec.ofChange fnGridTextsSpec)

/-- ITS FALSE NEIGHBOUR: 'it returns false'. Refute it at one input. -/
def fnGridTextsWrong : ChangeSpec := { name := "fnGridTexts", fn := fun _ => fun
  | [d] => { results := [.lit (.bool false)], args := [d] }
  | _ => none }
def FnGridTextsWrongFalsely : Prop := fnGridTextsRow.holds Try.pinned (OpenSpec.ofChange fnGridTextsWrong)

/-- 'laws.FnMerged': WHATEVER THE INPUT: true; the input reads as it did. -/
def fnMergedSpec : ChangeSpec := { name := "fnMerged", fn := fun _ => fun
  | [d] => { results := [.lit (.bool true)], args := [d] }
  | _ => none }
def fnMergedRow : OpenClaim := { program := "ytppfdipgaifhiab", sum := "c1b2ca21ec692f2aae739b347d3deaec1c50b0d293bdc62df79a732b7d5d02bd", func := "loop.example/g01049/laws.FnMerged", spec := "fnMerged", apart := false }
def FnMergedSaid : Prop := fnMergedRow.holds Try.pinned (OpenSpec.ofChange fnMergedSpec)

/-- ITS FALSE NEIGHBOUR: 'it returns false'. Refute it at one input. -/
def fnMergedWrong : ChangeSpec := { name := "fnMerged", fn := fun _ => fun
  | [d] => { results := [.lit (.bool false)], args := [d] }
  | _ => none }
def FnMergedWrongFalsely : Prop := fnMergedRow.holds Try.pinned (OpenSpec.ofChange fnMergedWrong)

/-- 'laws.FnExactMissingLines': WHATEVER THE INPUT: true; the input reads as it did. -/
def fnExactMissingLinesSpec : ChangeSpec := { name := "fnExactMissingLines", fn := fun _ => fun
  | [d1, d2] => { results := [.lit (.bool true)], args := [d1, d2] }
  | _ => none }
def fnExactMissingLinesRow : OpenClaim := { program := "ytppfdipgaifhiab", sum := "c1b2ca21ec692f2aae739b347d3deaec1c50b0d293bdc62df79a732b7d5d02bd", func := "loop.example/g01049/laws.FnExactMissingLines", spec := "fnExactMissingLines", apart := false }
def FnExactMissingLinesSaid : Prop := fnExactMissingLinesRow.holds Try.pinned (OpenSpec.ofChange fnExactMissingLinesSpec)

/-- ITS FALSE NEIGHBOUR: 'it returns false'. Refute it at one input. -/
def fnExactMissingLinesWrong : ChangeSpec := { name := "fnExactMissingLines", fn := fun _ => fun
  | [d1, d2] => { results := [.lit (.bool false)], args := [d1, d2] }
  | _ => none }
def FnExactMissingLinesWrongFalsely : Prop := fnExactMissingLinesRow.holds Try.pinned (OpenSpec.ofChange fnExactMissingLinesWrong)

/-- 'laws.FnExactReadPaper': WHATEVER THE INPUT: true; the input reads as it did. -/
def fnExactReadPaperSpec : ChangeSpec := { name := "fnExactReadPaper", fn := fun _ => fun
  | [d] => { results := [.lit (.bool true)], args := [d] }
  | _ => none }
def fnExactReadPaperRow : OpenClaim := { program := "ytppfdipgaifhiab", sum := "c1b2ca21ec692f2aae739b347d3deaec1c50b0d293bdc62df79a732b7d5d02bd", func := "loop.example/g01049/laws.FnExactReadPaper", spec := "fnExactReadPaper", recurses := true, apart := false }
def FnExactReadPaperSaid : Prop := fnExactReadPaperRow.holds Try.pinned (OpenSpec.ofChange fnExactReadPaperSpec)

/-- ITS FALSE NEIGHBOUR: 'it returns false'. Refute it at one input. -/
def fnExactReadPaperWrong : ChangeSpec := { name := "fnExactReadPaper", fn := fun _ => fun
  | [d] => { results := [.lit (.bool false)], args := [d] }
  | _ => none }
def FnExactReadPaperWrongFalsely : Prop := fnExactReadPaperRow.holds Try.pinned (OpenSpec.ofChange fnExactReadPaperWrong)

/-- 'laws.FnBookings': WHATEVER THE INPUT: true; the input reads as it did. -/
def fnBookingsSpec : ChangeSpec := { name := "fnBookings", fn := fun _ => fun
  | [d] => { results := [.lit (.bool true)], args := [d] }
  | _ => none }
def fnBookingsRow : OpenClaim := { program := "ytppfdipgaifhiab", sum := "c1b2ca21ec692f2aae739b347d3deaec1c50b0d293bdc62df79a732b7d5d02bd", func := "loop.example/g01049/laws.FnBookings", spec := "fnBookings", apart := false }
def FnBookingsSaid : Prop := fnBookingsRow.holds Try.pinned (OpenSpec.ofChange fnBookingsSpec)

/-- ITS FALSE NEIGHBOUR: 'it returns false'. Refute it at one input. -/
def fnBookingsWrong : ChangeSpec := { name := "fnBookings", fn := fun _ => fun
  | [d] => { results := [.lit (.bool false)], args := [d] }
  | _ => none }
def FnBookingsWrongFalsely : Prop := fnBookingsRow.holds Try.pinned (OpenSpec.ofChange fnBookingsWrong)

/-- 'laws.FnExactOpenArticles': WHATEVER THE INPUT: true; the input reads as it did. -/
def fnExactOpenArticlesSpec : ChangeSpec := { name := "fnExactOpenArticles", fn := fun _ => fun
  | [d] => { results := [.lit (.bool true)], args := [d] }
  | _ => none }
def fnExactOpenArticlesRow : OpenClaim := { program := "ytppfdipgaifhiab", sum := "c1b2ca21ec692f2aae739b347d3deaec1c50b0d293bdc62df79a732b7d5d02bd", func := "loop.example/g01049/laws.FnExactOpenArticles", spec := "fnExactOpenArticles", apart := false }
def FnExactOpenArticlesSaid : Prop := fnExactOpenArticlesRow.holds Try.pinned (OpenSpec.ofChange fnExactOpenArticlesSpec)

/-- ITS FALSE NEIGHBOUR: 'it returns false'. Refute it at one input. -/
def fnExactOpenArticlesWrong : ChangeSpec := { name := "fnExactOpenArticles", fn := fun _ => fun
  | [d] => { results := [.lit (.bool false)], args := [d] }
  | _ => none }
def FnExactOpenArticlesWrongFalsely : Prop := fnExactOpenArticlesRow.holds Try.pinned (OpenSpec.ofChange fnExactOpenArticlesWrong)

/-- 'laws.FnSweeps': WHATEVER THE INPUT: true; the input reads as it did. -/
def fnSweepsSpec : ChangeSpec := { name := "fnSweeps", fn := fun _ => fun
  | [d] => { results := [.lit (.bool true)], args := [d] }
  | _ => none }
def fnSweepsRow : OpenClaim := { program := "ytppfdipgaifhiab", sum := "c1b2ca21ec692f2aae739b347d3deaec1c50b0d293bdc62df79a732b7d5d02bd", func := "loop.example/g01049/laws.FnSweeps", spec := "fnSweeps", apart := false }
def FnSweepsSaid : Prop := fnSweepsRow.holds Try.pinned (OpenSpec.ofChange fnSweepsSpec)

/-- ITS FALSE NEIGHBOUR: 'it returns false'. Refute it at one input. -/
def fnSweepsWrong : ChangeSpec := { name := "fnSweeps", fn := fun _ => fun
  | [d] => { results := [.lit (.bool false)], args := [d] }
  | _ => none }
def FnSweepsWrongFalsely : Prop := fnSweepsRow.holds Try.pinned (OpenSpec.ofChange fnSweepsWrong)

/-- 'laws.FnExactCutLine': WHATEVER THE INPUT: true; the input reads as it did. -/
def fnExactCutLineSpec : ChangeSpec := { name := "fnExactCutLine", fn := fun _ => fun
  | [d1, d2] => { results := [.lit (.bool true)], args := [d1, d2] }
  | _ => none }
def fnExactCutLineRow : OpenClaim := { program := "ytppfdipgaifhiab", sum := "c1b2ca21ec692f2aae739b347d3deaec1c50b0d293bdc62df79a732b7d5d02bd", func := "loop.example/g01049/laws.FnExactCutLine", spec := "fnExactCutLine", apart := false }
def FnExactCutLineSaid : Prop := fnExactCutLineRow.holds Try.pinned (OpenSpec.ofChange fnExactCutLineSpec)

/-- ITS FALSE NEIGHBOUR: 'it returns false'. Refute it at one input. -/
def fnExactCutLineWrong : ChangeSpec := { name := "fnExactCutLine", fn := fun _ => fun
  | [d1, d2] => { results := [.lit (.bool false)], args := [d1, d2] }
  | _ => none }
def FnExactCutLineWrongFalsely : Prop := fnExactCutLineRow.holds Try.pinned (OpenSpec.ofChange fnExactCutLineWrong)

/- THE SECOND FORM. 'bulk': how many values and letters a reading holds, each counted each time it is reached (what is shared counts as often as it is met; a slice's spare places count too). A statement '..UptoSaid' is the law's where the arguments, and the package variables that the reading takes, are together of bulk at most 1048576: NARROWER than '..Said'. Prove '..Said' where nothing that the law and all that it calls make is longer than what came in: it says more and counts as full. Else prove '..UptoSaid'. A law counts once. -/
mutual
def uptoBulk {H : Type} : DataW H → Nat
  | .lit (.string bytes) => bytes.length + 1
  | .lit _ => 1
  | .nil => 1
  | .ptr d => uptoBulk d + 1
  | .slice elems spare => uptoBulkAll elems + uptoBulkAll spare + 1
  | .agg parts => uptoBulkAll parts + 1
  | .iface _ d => uptoBulk d + 1
  | .map entries => uptoBulkEntries entries + 1
  | .held _ => 1
def uptoBulkAll {H : Type} : List (DataW H) → Nat
  | [] => 0
  | d :: r => uptoBulk d + uptoBulkAll r
def uptoBulkEntries {H : Type} : List (Lit × DataW H) → Nat
  | [] => 0
  | x :: r => uptoBulkEntry x + uptoBulkEntries r
def uptoBulkEntry {H : Type} : Lit × DataW H → Nat
  | (.string bytes, d) => bytes.length + uptoBulk d + 1
  | (_, d) => uptoBulk d + 1
 end
def uptoSmall : (H : Type) → List (DataW H) → Bool := fun _ ds => decide (uptoBulkAll ds ≤ 1048576)
def OpenSpec.upto (s : _root_.Go.ChangeSpec) : _root_.Go.OpenSpec := { _root_.Go.OpenSpec.ofChange s with cond := some uptoSmall }

/-- 'laws.FnExactWriteJournal', WHERE WHAT IT READS IS OF BULK AT MOST 1048576: true; the input reads as it did. -/
def fnExactWriteJournalUptoRow : OpenClaim := { program := "ytppfdipgaifhiab", sum := "c1b2ca21ec692f2aae739b347d3deaec1c50b0d293bdc62df79a732b7d5d02bd", func := "loop.example/g01049/laws.FnExactWriteJournal", spec := "fnExactWriteJournal", recurses := true, apart := false, narrowed := true }
def FnExactWriteJournalUptoSaid : Prop := fnExactWriteJournalUptoRow.holds Try.pinned (OpenSpec.upto fnExactWriteJournalSpec)

/-- 'laws.FnExactIsSettled', WHERE WHAT IT READS IS OF BULK AT MOST 1048576: true; the input reads as it did. -/
def fnExactIsSettledUptoRow : OpenClaim := { program := "ytppfdipgaifhiab", sum := "c1b2ca21ec692f2aae739b347d3deaec1c50b0d293bdc62df79a732b7d5d02bd", func := "loop.example/g01049/laws.FnExactIsSettled", spec := "fnExactIsSettled", apart := false, narrowed := true }
def FnExactIsSettledUptoSaid : Prop := fnExactIsSettledUptoRow.holds Try.pinned (OpenSpec.upto fnExactIsSettledSpec)

/-- 'laws.FnExactBookPieces', WHERE WHAT IT READS IS OF BULK AT MOST 1048576: true; the input reads as it did. -/
def fnExactBookPiecesUptoRow : OpenClaim := { program := "ytppfdipgaifhiab", sum := "c1b2ca21ec692f2aae739b347d3deaec1c50b0d293bdc62df79a732b7d5d02bd", func := "loop.example/g01049/laws.FnExactBookPieces", spec := "fnExactBookPieces", apart := false, narrowed := true }
def FnExactBookPiecesUptoSaid : Prop := fnExactBookPiecesUptoRow.holds Try.pinned (OpenSpec.upto fnExactBookPiecesSpec)

/-- 'laws.FnExactTotalsOf', WHERE WHAT IT READS IS OF BULK AT MOST 1048576: true; the input reads as it did. -/
def fnExactTotalsOfUptoRow : OpenClaim := { program := "ytppfdipgaifhiab", sum := "c1b2ca21ec692f2aae739b347d3deaec1c50b0d293bdc62df79a732b7d5d02bd", func := "loop.example/g01049/laws.FnExactTotalsOf", spec := "fnExactTotalsOf", apart := false, narrowed := true }
def FnExactTotalsOfUptoSaid : Prop := fnExactTotalsOfUptoRow.holds Try.pinned (OpenSpec.upto fnExactTotalsOfSpec)

/-- 'laws.FnGridTexts', WHERE WHAT IT READS IS OF BULK AT MOST 1048576: true; the input reads as it did. -/
def fnGridTextsUptoRow : OpenClaim := { program := "ytppfdipgaifhiab", sum := "c1b2ca21ec692f2aae739b347d3deaec1c50b0d293bdc62df79a732b7d5d02bd", func := "loop.example/g01049/laws.FnGridTexts", spec := "fnGridTexts", apart := false, narrowed := true }
def FnGridTextsUptoSaid : Prop := fnGridTextsUptoRow.holds Try.pinned (OpenSpec.upto fnGridTextsSpec)

/-- 'laws.FnMerged', WHERE WHAT IT READS IS OF BULK AT MOST 1048576: true; the input reads as it did. -/
def fnMergedUptoRow : OpenClaim := { program := "ytppfdipgaifhiab", sum := "c1b2ca21ec692f2aae739b347d3deaec1c50b0d293bdc62df79a732b7d5d02bd", func := "loop.example/g01049/laws.FnMerged", spec := "fnMerged", apart := false, narrowed := true }
def FnMergedUptoSaid : Prop := fnMergedUptoRow.holds Try.pinned (OpenSpec.upto fnMergedSpec)

/-- 'laws.FnExactMissingLines', WHERE WHAT IT READS IS OF BULK AT MOST 1048576: true; the input reads as it did. -/
def fnExactMissingLinesUptoRow : OpenClaim := { program := "ytppfdipgaifhiab", sum := "c1b2ca21ec692f2aae739b347d3deaec1c50b0d293bdc62df79a732b7d5d02bd", func := "loop.example/g01049/laws.FnExactMissingLines", spec := "fnExactMissingLines", apart := false, narrowed := true }
def FnExactMissingLinesUptoSaid : Prop := fnExactMissingLinesUptoRow.holds Try.pinned (OpenSpec.upto fnExactMissingLinesSpec)

/-- 'laws.FnExactReadPaper', WHERE WHAT IT READS IS OF BULK AT MOST 1048576: true; the input reads as it did. -/
def fnExactReadPaperUptoRow : OpenClaim := { program := "ytppfdipgaifhiab", sum := "c1b2ca21ec692f2aae739b347d3deaec1c50b0d293bdc62df79a732b7d5d02bd", func := "loop.example/g01049/laws.FnExactReadPaper", spec := "fnExactReadPaper", recurses := true, apart := false, narrowed := true }
def FnExactReadPaperUptoSaid : Prop := fnExactReadPaperUptoRow.holds Try.pinned (OpenSpec.upto fnExactReadPaperSpec)

/-- 'laws.FnBookings', WHERE WHAT IT READS IS OF BULK AT MOST 1048576: true; the input reads as it did. -/
def fnBookingsUptoRow : OpenClaim := { program := "ytppfdipgaifhiab", sum := "c1b2ca21ec692f2aae739b347d3deaec1c50b0d293bdc62df79a732b7d5d02bd", func := "loop.example/g01049/laws.FnBookings", spec := "fnBookings", apart := false, narrowed := true }
def FnBookingsUptoSaid : Prop := fnBookingsUptoRow.holds Try.pinned (OpenSpec.upto fnBookingsSpec)

/-- 'laws.FnExactOpenArticles', WHERE WHAT IT READS IS OF BULK AT MOST 1048576: true; the input reads as it did. -/
def fnExactOpenArticlesUptoRow : OpenClaim := { program := "ytppfdipgaifhiab", sum := "c1b2ca21ec692f2aae739b347d3deaec1c50b0d293bdc62df79a732b7d5d02bd", func := "loop.example/g01049/laws.FnExactOpenArticles", spec := "fnExactOpenArticles", apart := false, narrowed := true }
def FnExactOpenArticlesUptoSaid : Prop := fnExactOpenArticlesUptoRow.holds Try.pinned (OpenSpec.upto fnExactOpenArticlesSpec)

/-- 'laws.FnSweeps', WHERE WHAT IT READS IS OF BULK AT MOST 1048576: true; the input reads as it did. -/
def fnSweepsUptoRow : OpenClaim := { program := "ytppfdipgaifhiab", sum := "c1b2ca21ec692f2aae739b347d3deaec1c50b0d293bdc62df79a732b7d5d02bd", func := "loop.example/g01049/laws.FnSweeps", spec := "fnSweeps", apart := false, narrowed := true }
def FnSweepsUptoSaid : Prop := fnSweepsUptoRow.holds Try.pinned (OpenSpec.upto fnSweepsSpec)

/-- 'laws.FnExactCutLine', WHERE WHAT IT READS IS OF BULK AT MOST 1048576: true; the input reads as it did. -/
def fnExactCutLineUptoRow : OpenClaim := { program := "ytppfdipgaifhiab", sum := "c1b2ca21ec692f2aae739b347d3deaec1c50b0d293bdc62df79a732b7d5d02bd", func := "loop.example/g01049/laws.FnExactCutLine", spec := "fnExactCutLine", apart := false, narrowed := true }
def FnExactCutLineUptoSaid : Prop := fnExactCutLineUptoRow.holds Try.pinned (OpenSpec.upto fnExactCutLineSpec)

end Rows
end Go.Proofs.Ytppfdipgaifhiab
