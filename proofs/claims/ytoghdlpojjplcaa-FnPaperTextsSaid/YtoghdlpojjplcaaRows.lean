/-
  No cell of these rows narrows 'for every input' (looked for: loops, veiled, ifaces, maps, wideKeys, modest, calm, conditions, laid).
  DERIVED. THE GIVEN ROWS OF THIS SEAT. 12 by the template 'for every input the law returns true; each argument reads behind the call as it read before'; 0 by the template 'total and deterministic' (their statements: YtoghdlpojjplcaaTotals.lean).
  GIVEN WITH THE SEED: the statements are not yours to turn. If you find one false, say at which input.
  Laid BY PROGRAM, IN A SANDBOX (cutbox-rows.mjs): the forced cells as the released guide's own fill.sh prints them over the translation a5d1f2b0e29bbeb9… (all of the seat's roots in one cut). By AI agents, Wed Nov 11 2026. No macro, syntax, notation, axiom, sorry.
-/
import Derived.Test.YtoghdlpojjplcaaChecked
import GoSem.Claim
import GoSem.ClaimJoined
import GoSem.ClaimMapViews
import Derived.JoinedTies
import Derived.KernelRfl
namespace Go.Proofs.Ytoghdlpojjplcaa
/- THE CELL 'sum', in the pinned program and in every row, IS THE sha256 OF THE DUMP (.gsa) THAT YtoghdlpojjplcaaProg.lean LOADS. Nothing in Lean hashes anything: it is a label: what it is worth is what the hold of that sum in a sandbox is worth. -/
noncomputable def Try.pinned : Pinned := { name := "ytoghdlpojjplcaa", sum := "a5d1f2b0e29bbeb9ef91352e054589e77ee3f1aaf90ac018676cbb3c0a719cbc", checked := Try.checked }
namespace Rows
def none {H : Type} : Left H := { results := [], args := [] }

/-- 'laws.FnGrids': WHATEVER THE INPUT: true; the input reads as it did. -/
def fnGridsSpec : ChangeSpec := { name := "fnGrids", fn := fun _ => fun
  | [d] => { results := [.lit (.bool true)], args := [d] }
  | _ => none }
def fnGridsRow : OpenClaim := { program := "ytoghdlpojjplcaa", sum := "a5d1f2b0e29bbeb9ef91352e054589e77ee3f1aaf90ac018676cbb3c0a719cbc", func := "loop.example/g01049/laws.FnGrids", spec := "fnGrids", apart := false }
def FnGridsSaid : Prop := fnGridsRow.holds Try.pinned (OpenSpec.ofChange fnGridsSpec)

/-- ITS FALSE NEIGHBOUR: 'it returns false'. Refute it at one input. -/
def fnGridsWrong : ChangeSpec := { name := "fnGrids", fn := fun _ => fun
  | [d] => { results := [.lit (.bool false)], args := [d] }
  | _ => none }
def FnGridsWrongFalsely : Prop := fnGridsRow.holds Try.pinned (OpenSpec.ofChange fnGridsWrong)

/-- 'laws.FnBookedOnce': WHATEVER THE INPUT: true; the input reads as it did. -/
def fnBookedOnceSpec : ChangeSpec := { name := "fnBookedOnce", fn := fun _ => fun
  | [d1, d2, d3] => { results := [.lit (.bool true)], args := [d1, d2, d3] }
  | _ => none }
def fnBookedOnceRow : OpenClaim := { program := "ytoghdlpojjplcaa", sum := "a5d1f2b0e29bbeb9ef91352e054589e77ee3f1aaf90ac018676cbb3c0a719cbc", func := "loop.example/g01049/laws.FnBookedOnce", spec := "fnBookedOnce", apart := false }
def FnBookedOnceSaid : Prop := fnBookedOnceRow.holds Try.pinned (OpenSpec.ofChange fnBookedOnceSpec)

/-- ITS FALSE NEIGHBOUR: 'it returns false'. Refute it at one input. -/
def fnBookedOnceWrong : ChangeSpec := { name := "fnBookedOnce", fn := fun _ => fun
  | [d1, d2, d3] => { results := [.lit (.bool false)], args := [d1, d2, d3] }
  | _ => none }
def FnBookedOnceWrongFalsely : Prop := fnBookedOnceRow.holds Try.pinned (OpenSpec.ofChange fnBookedOnceWrong)

/-- 'laws.FnExactMergePapers': WHATEVER THE INPUT: true; the input reads as it did. -/
def fnExactMergePapersSpec : ChangeSpec := { name := "fnExactMergePapers", fn := fun _ => fun
  | [d1, d2] => { results := [.lit (.bool true)], args := [d1, d2] }
  | _ => none }
def fnExactMergePapersRow : OpenClaim := { program := "ytoghdlpojjplcaa", sum := "a5d1f2b0e29bbeb9ef91352e054589e77ee3f1aaf90ac018676cbb3c0a719cbc", func := "loop.example/g01049/laws.FnExactMergePapers", spec := "fnExactMergePapers", apart := false }
def FnExactMergePapersSaid : Prop := fnExactMergePapersRow.holds Try.pinned (OpenSpec.ofChange fnExactMergePapersSpec)

/-- ITS FALSE NEIGHBOUR: 'it returns false'. Refute it at one input. -/
def fnExactMergePapersWrong : ChangeSpec := { name := "fnExactMergePapers", fn := fun _ => fun
  | [d1, d2] => { results := [.lit (.bool false)], args := [d1, d2] }
  | _ => none }
def FnExactMergePapersWrongFalsely : Prop := fnExactMergePapersRow.holds Try.pinned (OpenSpec.ofChange fnExactMergePapersWrong)

/-- 'laws.FnExactSettleAll': WHATEVER THE INPUT: true; the input reads as it did. -/
def fnExactSettleAllSpec : ChangeSpec := { name := "fnExactSettleAll", fn := fun _ => fun
  | [d1, d2] => { results := [.lit (.bool true)], args := [d1, d2] }
  | _ => none }
def fnExactSettleAllRow : OpenClaim := { program := "ytoghdlpojjplcaa", sum := "a5d1f2b0e29bbeb9ef91352e054589e77ee3f1aaf90ac018676cbb3c0a719cbc", func := "loop.example/g01049/laws.FnExactSettleAll", spec := "fnExactSettleAll", apart := false }
def FnExactSettleAllSaid : Prop := fnExactSettleAllRow.holds Try.pinned (OpenSpec.ofChange fnExactSettleAllSpec)

/-- ITS FALSE NEIGHBOUR: 'it returns false'. Refute it at one input. -/
def fnExactSettleAllWrong : ChangeSpec := { name := "fnExactSettleAll", fn := fun _ => fun
  | [d1, d2] => { results := [.lit (.bool false)], args := [d1, d2] }
  | _ => none }
def FnExactSettleAllWrongFalsely : Prop := fnExactSettleAllRow.holds Try.pinned (OpenSpec.ofChange fnExactSettleAllWrong)

/-- 'laws.FnExactPutLine': WHATEVER THE INPUT: true; the input reads as it did. -/
def fnExactPutLineSpec : ChangeSpec := { name := "fnExactPutLine", fn := fun _ => fun
  | [d1, d2, d3] => { results := [.lit (.bool true)], args := [d1, d2, d3] }
  | _ => none }
def fnExactPutLineRow : OpenClaim := { program := "ytoghdlpojjplcaa", sum := "a5d1f2b0e29bbeb9ef91352e054589e77ee3f1aaf90ac018676cbb3c0a719cbc", func := "loop.example/g01049/laws.FnExactPutLine", spec := "fnExactPutLine", apart := false }
def FnExactPutLineSaid : Prop := fnExactPutLineRow.holds Try.pinned (OpenSpec.ofChange fnExactPutLineSpec)

/-- ITS FALSE NEIGHBOUR: 'it returns false'. Refute it at one input. -/
def fnExactPutLineWrong : ChangeSpec := { name := "fnExactPutLine", fn := fun _ => fun
  | [d1, d2, d3] => { results := [.lit (.bool false)], args := [d1, d2, d3] }
  | _ => none }
def FnExactPutLineWrongFalsely : Prop := fnExactPutLineRow.holds Try.pinned (OpenSpec.ofChange fnExactPutLineWrong)

/-- 'laws.FnExactDaysCovered': WHATEVER THE INPUT: true; the input reads as it did. -/
def fnExactDaysCoveredSpec : ChangeSpec := { name := "fnExactDaysCovered", fn := fun _ => fun
  | [d1, d2, d3] => { results := [.lit (.bool true)], args := [d1, d2, d3] }
  | _ => none }
def fnExactDaysCoveredRow : OpenClaim := { program := "ytoghdlpojjplcaa", sum := "a5d1f2b0e29bbeb9ef91352e054589e77ee3f1aaf90ac018676cbb3c0a719cbc", func := "loop.example/g01049/laws.FnExactDaysCovered", spec := "fnExactDaysCovered", apart := false }
def FnExactDaysCoveredSaid : Prop := fnExactDaysCoveredRow.holds Try.pinned (OpenSpec.ofChange fnExactDaysCoveredSpec)

/-- ITS FALSE NEIGHBOUR: 'it returns false'. Refute it at one input. -/
def fnExactDaysCoveredWrong : ChangeSpec := { name := "fnExactDaysCovered", fn := fun _ => fun
  | [d1, d2, d3] => { results := [.lit (.bool false)], args := [d1, d2, d3] }
  | _ => none }
def FnExactDaysCoveredWrongFalsely : Prop := fnExactDaysCoveredRow.holds Try.pinned (OpenSpec.ofChange fnExactDaysCoveredWrong)

/-- 'laws.FnPaperTexts': WHATEVER THE INPUT: true; the input reads as it did. -/
def fnPaperTextsSpec : ChangeSpec := { name := "fnPaperTexts", fn := fun _ => fun
  | [d] => { results := [.lit (.bool true)], args := [d] }
  | _ => none }
def fnPaperTextsRow : OpenClaim := { program := "ytoghdlpojjplcaa", sum := "a5d1f2b0e29bbeb9ef91352e054589e77ee3f1aaf90ac018676cbb3c0a719cbc", func := "loop.example/g01049/laws.FnPaperTexts", spec := "fnPaperTexts", recurses := true, apart := false }
def FnPaperTextsSaid : Prop := fnPaperTextsRow.holds Try.pinned (OpenSpec.ofChange fnPaperTextsSpec)

/-- ITS FALSE NEIGHBOUR: 'it returns false'. Refute it at one input. -/
def fnPaperTextsWrong : ChangeSpec := { name := "fnPaperTexts", fn := fun _ => fun
  | [d] => { results := [.lit (.bool false)], args := [d] }
  | _ => none }
def FnPaperTextsWrongFalsely : Prop := fnPaperTextsRow.holds Try.pinned (OpenSpec.ofChange fnPaperTextsWrong)

/-- 'laws.FnSettled': WHATEVER THE INPUT: true; the input reads as it did. -/
def fnSettledSpec : ChangeSpec := { name := "fnSettled", fn := fun _ => fun
  | [d] => { results := [.lit (.bool true)], args := [d] }
  | _ => none }
def fnSettledRow : OpenClaim := { program := "ytoghdlpojjplcaa", sum := "a5d1f2b0e29bbeb9ef91352e054589e77ee3f1aaf90ac018676cbb3c0a719cbc", func := "loop.example/g01049/laws.FnSettled", spec := "fnSettled", apart := false }
def FnSettledSaid : Prop := fnSettledRow.holds Try.pinned (OpenSpec.ofChange fnSettledSpec)

/-- ITS FALSE NEIGHBOUR: 'it returns false'. Refute it at one input. -/
def fnSettledWrong : ChangeSpec := { name := "fnSettled", fn := fun _ => fun
  | [d] => { results := [.lit (.bool false)], args := [d] }
  | _ => none }
def FnSettledWrongFalsely : Prop := fnSettledRow.holds Try.pinned (OpenSpec.ofChange fnSettledWrong)

/-- 'laws.FnJournals': WHATEVER THE INPUT: true; the input reads as it did. -/
def fnJournalsSpec : ChangeSpec := { name := "fnJournals", fn := fun _ => fun
  | [d] => { results := [.lit (.bool true)], args := [d] }
  | _ => none }
def fnJournalsRow : OpenClaim := { program := "ytoghdlpojjplcaa", sum := "a5d1f2b0e29bbeb9ef91352e054589e77ee3f1aaf90ac018676cbb3c0a719cbc", func := "loop.example/g01049/laws.FnJournals", spec := "fnJournals", recurses := true, apart := false }
def FnJournalsSaid : Prop := fnJournalsRow.holds Try.pinned (OpenSpec.ofChange fnJournalsSpec)

/-- ITS FALSE NEIGHBOUR: 'it returns false'. Refute it at one input. -/
def fnJournalsWrong : ChangeSpec := { name := "fnJournals", fn := fun _ => fun
  | [d] => { results := [.lit (.bool false)], args := [d] }
  | _ => none }
def FnJournalsWrongFalsely : Prop := fnJournalsRow.holds Try.pinned (OpenSpec.ofChange fnJournalsWrong)

/-- 'laws.FnExactNetOfPaper': WHATEVER THE INPUT: true; the input reads as it did. -/
def fnExactNetOfPaperSpec : ChangeSpec := { name := "fnExactNetOfPaper", fn := fun _ => fun
  | [d1, d2] => { results := [.lit (.bool true)], args := [d1, d2] }
  | _ => none }
def fnExactNetOfPaperRow : OpenClaim := { program := "ytoghdlpojjplcaa", sum := "a5d1f2b0e29bbeb9ef91352e054589e77ee3f1aaf90ac018676cbb3c0a719cbc", func := "loop.example/g01049/laws.FnExactNetOfPaper", spec := "fnExactNetOfPaper", apart := false }
def FnExactNetOfPaperSaid : Prop := fnExactNetOfPaperRow.holds Try.pinned (OpenSpec.ofChange fnExactNetOfPaperSpec)

/-- ITS FALSE NEIGHBOUR: 'it returns false'. Refute it at one input. -/
def fnExactNetOfPaperWrong : ChangeSpec := { name := "fnExactNetOfPaper", fn := fun _ => fun
  | [d1, d2] => { results := [.lit (.bool false)], args := [d1, d2] }
  | _ => none }
def FnExactNetOfPaperWrongFalsely : Prop := fnExactNetOfPaperRow.holds Try.pinned (OpenSpec.ofChange fnExactNetOfPaperWrong)

/-- 'laws.FnAppended': WHATEVER THE INPUT: true; the input reads as it did. -/
def fnAppendedSpec : ChangeSpec := { name := "fnAppended", fn := fun _ => fun
  | [d] => { results := [.lit (.bool true)], args := [d] }
  | _ => none }
def fnAppendedRow : OpenClaim := { program := "ytoghdlpojjplcaa", sum := "a5d1f2b0e29bbeb9ef91352e054589e77ee3f1aaf90ac018676cbb3c0a719cbc", func := "loop.example/g01049/laws.FnAppended", spec := "fnAppended", recurses := true, apart := false }
def FnAppendedSaid : Prop := fnAppendedRow.holds Try.pinned (OpenSpec.ofChange fnAppendedSpec)

/-- ITS FALSE NEIGHBOUR: 'it returns false'. Refute it at one input. -/
def fnAppendedWrong : ChangeSpec := { name := "fnAppended", fn := fun _ => fun
  | [d] => { results := [.lit (.bool false)], args := [d] }
  | _ => none }
def FnAppendedWrongFalsely : Prop := fnAppendedRow.holds Try.pinned (OpenSpec.ofChange fnAppendedWrong)

/-- 'laws.FnCovered': WHATEVER THE INPUT: true; the input reads as it did. -/
def fnCoveredSpec : ChangeSpec := { name := "fnCovered", fn := fun _ => fun
  | [d] => { results := [.lit (.bool true)], args := [d] }
  | _ => none }
def fnCoveredRow : OpenClaim := { program := "ytoghdlpojjplcaa", sum := "a5d1f2b0e29bbeb9ef91352e054589e77ee3f1aaf90ac018676cbb3c0a719cbc", func := "loop.example/g01049/laws.FnCovered", spec := "fnCovered", recurses := true, apart := false }
def FnCoveredSaid : Prop := fnCoveredRow.holds Try.pinned (OpenSpec.ofChange fnCoveredSpec)

/-- ITS FALSE NEIGHBOUR: 'it returns false'. Refute it at one input. -/
def fnCoveredWrong : ChangeSpec := { name := "fnCovered", fn := fun _ => fun
  | [d] => { results := [.lit (.bool false)], args := [d] }
  | _ => none }
def FnCoveredWrongFalsely : Prop := fnCoveredRow.holds Try.pinned (OpenSpec.ofChange fnCoveredWrong)

/- THE SECOND FORM. 'bulk': how many values and letters a reading holds, each counted each time it is reached (what is shared counts as often as it is met; a slice's spare places count too). A statement '..UptoSaid' is the law's where the arguments, and the package variables that the reading takes, are together of bulk at most 1048576: NARROWER than '..Said'. Prove '..Said' where nothing that the law and all that it calls make is longer than what came in: it says more and counts as full. Else prove '..UptoSaid'. A law counts once. -/
mutual
def uptoBulk {H : Type} : DataW H → Nat
  | .lit (.string bytes) => bytes.length + 1
  | .lit _ => 1
  | .nil => 1
  | .ptr d => uptoBulk d + 1
  | .slice elems spare => uptoBulkAll elems + uptoBulkAll spare + 1
  | .agg parts => uptoBulkAll parts + 1
  | .iface _ d => uptoBulk d + 1
  | .map entries => uptoBulkEntries entries + 1
  | .held _ => 1
def uptoBulkAll {H : Type} : List (DataW H) → Nat
  | [] => 0
  | d :: r => uptoBulk d + uptoBulkAll r
def uptoBulkEntries {H : Type} : List (Lit × DataW H) → Nat
  | [] => 0
  | x :: r => uptoBulkEntry x + uptoBulkEntries r
def uptoBulkEntry {H : Type} : Lit × DataW H → Nat
  | (.string bytes, d) => bytes.length + uptoBulk d + 1
  | (_, d) => uptoBulk d + 1
 end
def uptoSmall : (H : Type) → List (DataW H) → Bool := fun _ ds => decide (uptoBulkAll ds ≤ 1048576)
def OpenSpec.upto (s : _root_.Go.ChangeSpec) : _root_.Go.OpenSpec := { _root_.Go.OpenSpec.ofChange s with cond := some uptoSmall }

/-- 'laws.FnGrids', WHERE WHAT IT READS IS OF BULK AT MOST 1048576: true; the input reads as it did. -/
def fnGridsUptoRow : OpenClaim := { program := "ytoghdlpojjplcaa", sum := "a5d1f2b0e29bbeb9ef91352e054589e77ee3f1aaf90ac018676cbb3c0a719cbc", func := "loop.example/g01049/laws.FnGrids", spec := "fnGrids", apart := false, narrowed := true }
def FnGridsUptoSaid : Prop := fnGridsUptoRow.holds Try.pinned (OpenSpec.upto fnGridsSpec)

/-- 'laws.FnBookedOnce', WHERE WHAT IT READS IS OF BULK AT MOST 1048576: true; the input reads as it did. -/
def fnBookedOnceUptoRow : OpenClaim := { program := "ytoghdlpojjplcaa", sum := "a5d1f2b0e29bbeb9ef91352e054589e77ee3f1aaf90ac018676cbb3c0a719cbc", func := "loop.example/g01049/laws.FnBookedOnce", spec := "fnBookedOnce", apart := false, narrowed := true }
def FnBookedOnceUptoSaid : Prop := fnBookedOnceUptoRow.holds Try.pinned (OpenSpec.upto fnBookedOnceSpec)

/-- 'laws.FnExactMergePapers', WHERE WHAT IT READS IS OF BULK AT MOST 1048576: true; the input reads as it did. -/
def fnExactMergePapersUptoRow : OpenClaim := { program := "ytoghdlpojjplcaa", sum := "a5d1f2b0e29bbeb9ef91352e054589e77ee3f1aaf90ac018676cbb3c0a719cbc", func := "loop.example/g01049/laws.FnExactMergePapers", spec := "fnExactMergePapers", apart := false, narrowed := true }
def FnExactMergePapersUptoSaid : Prop := fnExactMergePapersUptoRow.holds Try.pinned (OpenSpec.upto fnExactMergePapersSpec)

/-- 'laws.FnExactSettleAll', WHERE WHAT IT READS IS OF BULK AT MOST 1048576: true; the input reads as it did. -/
def fnExactSettleAllUptoRow : OpenClaim := { program := "ytoghdlpojjplcaa", sum := "a5d1f2b0e29bbeb9ef91352e054589e77ee3f1aaf90ac018676cbb3c0a719cbc", func := "loop.example/g01049/laws.FnExactSettleAll", spec := "fnExactSettleAll", apart := false, narrowed := true }
def FnExactSettleAllUptoSaid : Prop := fnExactSettleAllUptoRow.holds Try.pinned (OpenSpec.upto fnExactSettleAllSpec)

/-- 'laws.FnExactPutLine', WHERE WHAT IT READS IS OF BULK AT MOST 1048576: true; the input reads as it did. -/
def fnExactPutLineUptoRow : OpenClaim := { program := "ytoghdlpojjplcaa", sum := "a5d1f2b0e29bbeb9ef91352e054589e77ee3f1aaf90ac018676cbb3c0a719cbc", func := "loop.example/g01049/laws.FnExactPutLine", spec := "fnExactPutLine", apart := false, narrowed := true }
def FnExactPutLineUptoSaid : Prop := fnExactPutLineUptoRow.holds Try.pinned (OpenSpec.upto fnExactPutLineSpec)

/-- 'laws.FnExactDaysCovered', WHERE WHAT IT READS IS OF BULK AT MOST 1048576: true; the input reads as it did. -/
def fnExactDaysCoveredUptoRow : OpenClaim := { program := "ytoghdlpojjplcaa", sum := "a5d1f2b0e29bbeb9ef91352e054589e77ee3f1aaf90ac018676cbb3c0a719cbc", func := "loop.example/g01049/laws.FnExactDaysCovered", spec := "fnExactDaysCovered", apart := false, narrowed := true }
def FnExactDaysCoveredUptoSaid : Prop := fnExactDaysCoveredUptoRow.holds Try.pinned (OpenSpec.upto fnExactDaysCoveredSpec)

/-- 'laws.FnPaperTexts', WHERE WHAT IT READS IS OF BULK AT MOST 1048576: true; the input reads as it did. -/
def fnPaperTextsUptoRow : OpenClaim := { program := "ytoghdlpojjplcaa", sum := "a5d1f2b0e29bbeb9ef91352e054589e77ee3f1aaf90ac018676cbb3c0a719cbc", func := "loop.example/g01049/laws.FnPaperTexts", spec := "fnPaperTexts", recurses := true, apart := false, narrowed := true }
def FnPaperTextsUptoSaid : Prop := fnPaperTextsUptoRow.holds Try.pinned (OpenSpec.upto fnPaperTextsSpec)

/-- 'laws.FnSettled', WHERE WHAT IT READS IS OF BULK AT MOST 1048576: true; the input reads as it did. -/
def fnSettledUptoRow : OpenClaim := { program := "ytoghdlpojjplcaa", sum := "a5d1f2b0e29bbeb9ef91352e054589e77ee3f1aaf90ac018676cbb3c0a719cbc", func := "loop.example/g01049/laws.FnSettled", spec := "fnSettled", apart := false, narrowed := true }
def FnSettledUptoSaid : Prop := fnSettledUptoRow.holds Try.pinned (OpenSpec.upto fnSettledSpec)

/-- 'laws.FnJournals', WHERE WHAT IT READS IS OF BULK AT MOST 1048576: true; the input reads as it did. -/
def fnJournalsUptoRow : OpenClaim := { program := "ytoghdlpojjplcaa", sum := "a5d1f2b0e29bbeb9ef91352e054589e77ee3f1aaf90ac018676cbb3c0a719cbc", func := "loop.example/g01049/laws.FnJournals", spec := "fnJournals", recurses := true, apart := false, narrowed := true }
def FnJournalsUptoSaid : Prop := fnJournalsUptoRow.holds Try.pinned (OpenSpec.upto fnJournalsSpec)

/-- 'laws.FnExactNetOfPaper', WHERE WHAT IT READS IS OF BULK AT MOST 1048576: true; the input reads as it did. -/
def fnExactNetOfPaperUptoRow : OpenClaim := { program := "ytoghdlpojjplcaa", sum := "a5d1f2b0e29bbeb9ef91352e054589e77ee3f1aaf90ac018676cbb3c0a719cbc", func := "loop.example/g01049/laws.FnExactNetOfPaper", spec := "fnExactNetOfPaper", apart := false, narrowed := true }
def FnExactNetOfPaperUptoSaid : Prop := fnExactNetOfPaperUptoRow.holds Try.pinned (OpenSpec.upto fnExactNetOfPaperSpec)

/-- 'laws.FnAppended', WHERE WHAT IT READS IS OF BULK AT MOST 1048576: true; the input reads as it did. -/
def fnAppendedUptoRow : OpenClaim := { program := "ytoghdlpojjplcaa", sum := "a5d1f2b0e29bbeb9ef91352e054589e77ee3f1aaf90ac018676cbb3c0a719cbc", func := "loop.example/g01049/laws.FnAppended", spec := "fnAppended", recurses := true, apart := false, narrowed := true }
def FnAppendedUptoSaid : Prop := fnAppendedUptoRow.holds Try.pinned (OpenSpec.upto fnAppendedSpec)

/-- 'laws.FnCovered', WHERE WHAT IT READS IS OF BULK AT MOST 1048576: true; the input reads as it did. -/
def fnCoveredUptoRow : OpenClaim := { program := "ytoghdlpojjplcaa", sum := "a5d1f2b0e29bbeb9ef91352e054589e77ee3f1aaf90ac018676cbb3c0a719cbc", func := "loop.example/g01049/laws.FnCovered", spec := "fnCovered", recurses := true, apart := false, narrowed := true }
def FnCoveredUptoSaid : Prop := fnCoveredUptoRow.holds Try.pinned (OpenSpec.upto fnCoveredSpec)

end Rows
end Go.Proofs.Ytoghdlpojjplcaa
