/-
  No cell of these rows narrows 'for every input' (looked for: loops, veiled, ifaces, maps, wideKeys, modest, calm, conditions, laid).
  DERIVED. THE GIVEN ROWS OF THIS SEAT. 11 by the template 'for every input the law returns true; each argument reads behind the call as it read before'; 0 by the template 'total and deterministic' (their statements: YtgddpcjbjkbpcaaTotals.lean).
  GIVEN WITH THE SEED: the statements are not yours to turn. If you find one false, say at which input.
  Laid BY PROGRAM, IN A SANDBOX (cutbox-rows.mjs): the forced cells as the released guide's own fill.sh prints them over the translation 17995c78aea96d2d… (all of the seat's roots in one cut). By AI agents, Wed Nov 11 2026. No macro, syntax, notation, axiom, sorry.
-/
import Derived.Test.YtgddpcjbjkbpcaaChecked
import GoSem.Claim
import GoSem.ClaimJoined
import GoSem.ClaimMapViews
import Derived.JoinedTies
import Derived.KernelRfl
namespace Go.Proofs.Ytgddpcjbjkbpcaa
/- THE CELL 'sum', in the pinned program and in every row, IS THE sha256 OF THE DUMP (.gsa) THAT YtgddpcjbjkbpcaaProg.lean LOADS. Nothing in Lean hashes anything: it is a label: what it is worth is what the hold of that sum in a sandbox is worth. -/
noncomputable def Try.pinned : Pinned := { name := "ytgddpcjbjkbpcaa", sum := "17995c78aea96d2dcbcdf602cd66354f7142bb7f0b11206a471441a7873bdf99", checked := Try.checked }
namespace Rows
def none {H : Type} : Left H := { results := [], args := [] }

/-- 'laws.FnExactIsSettled': WHATEVER THE INPUT: true; the input reads as it did. -/
def fnExactIsSettledSpec : ChangeSpec := { name := "fnExactIsSettled", fn := fun _ => fun
  | [d] => { results := [.lit (.bool true)], args := [d] }
  | _ => none }
def fnExactIsSettledRow : OpenClaim := { program := "ytgddpcjbjkbpcaa", sum := "17995c78aea96d2dcbcdf602cd66354f7142bb7f0b11206a471441a7873bdf99", func := "loop.example/g01049/laws.FnExactIsSettled", spec := "fnExactIsSettled", apart := false }
def FnExactIsSettledSaid : Prop := fnExactIsSettledRow.holds Try.pinned (OpenSpec.ofChange fnExactIsSettledSpec)

/-- ITS FALSE NEIGHBOUR: 'it returns false'. Refute it at one input. -/
def fnExactIsSettledWrong : ChangeSpec := { name := "fnExactIsSettled", fn := fun _ => fun
  | [d] => { results := [.lit (.bool false)], args := [d] }
  | _ => none }
def FnExactIsSettledWrongFalsely : Prop := fnExactIsSettledRow.holds Try.pinned (OpenSpec.ofChange fnExactIsSettledWrong)

/-- 'laws.FnExactOpenArticles': WHATEVER THE INPUT: true; the input reads as it did. -/
def fnExactOpenArticlesSpec : ChangeSpec := { name := "fnExactOpenArticles", fn := fun _ => fun
  | [d] => { results := [.lit (.bool true)], args := [d] }
  | _ => none }
def fnExactOpenArticlesRow : OpenClaim := { program := "ytgddpcjbjkbpcaa", sum := "17995c78aea96d2dcbcdf602cd66354f7142bb7f0b11206a471441a7873bdf99", func := "loop.example/g01049/laws.FnExactOpenArticles", spec := "fnExactOpenArticles", apart := false }
def FnExactOpenArticlesSaid : Prop := fnExactOpenArticlesRow.holds Try.pinned (OpenSpec.ofChange fnExactOpenArticlesSpec)

/-- ITS FALSE NEIGHBOUR: 'it returns false'. Refute it at one input. -/
def fnExactOpenArticlesWrong : ChangeSpec := { name := "fnExactOpenArticles", fn := fun _ => fun
  | [d] => { results := [.lit (.bool false)], args := [d] }
  | _ => none }
def FnExactOpenArticlesWrongFalsely : Prop := fnExactOpenArticlesRow.holds Try.pinned (OpenSpec.ofChange fnExactOpenArticlesWrong)

/-- 'laws.FnExactSettleAll': WHATEVER THE INPUT: true; the input reads as it did. -/
def fnExactSettleAllSpec : ChangeSpec := { name := "fnExactSettleAll", fn := fun _ => fun
  | [d1, d2] => { results := [.lit (.bool true)], args := [d1, d2] }
  | _ => none }
def fnExactSettleAllRow : OpenClaim := { program := "ytgddpcjbjkbpcaa", sum := "17995c78aea96d2dcbcdf602cd66354f7142bb7f0b11206a471441a7873bdf99", func := "loop.example/g01049/laws.FnExactSettleAll", spec := "fnExactSettleAll", apart := false }
def FnExactSettleAllSaid : Prop := fnExactSettleAllRow.holds Try.pinned (OpenSpec.ofChange fnExactSettleAllSpec)

/-- ITS FALSE NEIGHBOUR: 'it returns false'. Refute it at one input. -/
def fnExactSettleAllWrong : ChangeSpec := { name := "fnExactSettleAll", fn := fun _ => fun
  | [d1, d2] => { results := [.lit (.bool false)], args := [d1, d2] }
  | _ => none }
def FnExactSettleAllWrongFalsely : Prop := fnExactSettleAllRow.holds Try.pinned (OpenSpec.ofChange fnExactSettleAllWrong)

/-- 'laws.FnSettled': WHATEVER THE INPUT: true; the input reads as it did. -/
def fnSettledSpec : ChangeSpec := { name := "fnSettled", fn := fun _ => fun
  | [d] => { results := [.lit (.bool true)], args := [d] }
  | _ => none }
def fnSettledRow : OpenClaim := { program := "ytgddpcjbjkbpcaa", sum := "17995c78aea96d2dcbcdf602cd66354f7142bb7f0b11206a471441a7873bdf99", func := "loop.example/g01049/laws.FnSettled", spec := "fnSettled", apart := false }
def FnSettledSaid : Prop := fnSettledRow.holds Try.pinned (OpenSpec.ofChange fnSettledSpec)

/-- ITS FALSE NEIGHBOUR: 'it returns false'. Refute it at one input. -/
def fnSettledWrong : ChangeSpec := { name := "fnSettled", fn := fun _ => fun
  | [d] => { results := [.lit (.bool false)], args := [d] }
  | _ => none }
def FnSettledWrongFalsely : Prop := fnSettledRow.holds Try.pinned (OpenSpec.ofChange fnSettledWrong)

/-- 'laws.FnMerged': WHATEVER THE INPUT: true; the input reads as it did. -/
def fnMergedSpec : ChangeSpec := { name := "fnMerged", fn := fun _ => fun
  | [d] => { results := [.lit (.bool true)], args := [d] }
  | _ => none }
def fnMergedRow : OpenClaim := { program := "ytgddpcjbjkbpcaa", sum := "17995c78aea96d2dcbcdf602cd66354f7142bb7f0b11206a471441a7873bdf99", func := "loop.example/g01049/laws.FnMerged", spec := "fnMerged", apart := false }
def FnMergedSaid : Prop := fnMergedRow.holds Try.pinned (OpenSpec.ofChange fnMergedSpec)

/-- ITS FALSE NEIGHBOUR: 'it returns false'. Refute it at one input. -/
def fnMergedWrong : ChangeSpec := { name := "fnMerged", fn := fun _ => fun
  | [d] => { results := [.lit (.bool false)], args := [d] }
  | _ => none }
def FnMergedWrongFalsely : Prop := fnMergedRow.holds Try.pinned (OpenSpec.ofChange fnMergedWrong)

/-- 'laws.FnExactCutLine': WHATEVER THE INPUT: true; the input reads as it did. -/
def fnExactCutLineSpec : ChangeSpec := { name := "fnExactCutLine", fn := fun _ => fun
  | [d1, d2] => { results := [.lit (.bool true)], args := [d1, d2] }
  | _ => none }
def fnExactCutLineRow : OpenClaim := { program := "ytgddpcjbjkbpcaa", sum := "17995c78aea96d2dcbcdf602cd66354f7142bb7f0b11206a471441a7873bdf99", func := "loop.example/g01049/laws.FnExactCutLine", spec := "fnExactCutLine", apart := false }
def FnExactCutLineSaid : Prop := fnExactCutLineRow.holds Try.pinned (OpenSpec.ofChange fnExactCutLineSpec)

/-- ITS FALSE NEIGHBOUR: 'it returns false'. Refute it at one input. -/
def fnExactCutLineWrong : ChangeSpec := { name := "fnExactCutLine", fn := fun _ => fun
  | [d1, d2] => { results := [.lit (.bool false)], args := [d1, d2] }
  | _ => none }
def FnExactCutLineWrongFalsely : Prop := fnExactCutLineRow.holds Try.pinned (OpenSpec.ofChange fnExactCutLineWrong)

/-- 'laws.FnExactMergePapers': WHATEVER THE INPUT: true; the input reads as it did. -/
def fnExactMergePapersSpec : ChangeSpec := { name := "fnExactMergePapers", fn := fun _ => fun
  | [d1, d2] => { results := [.lit (.bool true)], args := [d1, d2] }
  | _ => none }
def fnExactMergePapersRow : OpenClaim := { program := "ytgddpcjbjkbpcaa", sum := "17995c78aea96d2dcbcdf602cd66354f7142bb7f0b11206a471441a7873bdf99", func := "loop.example/g01049/laws.FnExactMergePapers", spec := "fnExactMergePapers", apart := false }
def FnExactMergePapersSaid : Prop := fnExactMergePapersRow.holds Try.pinned (OpenSpec.ofChange fnExactMergePapersSpec)

/-- ITS FALSE NEIGHBOUR: 'it returns false'. Refute it at one input. -/
def fnExactMergePapersWrong : ChangeSpec := { name := "fnExactMergePapers", fn := fun _ => fun
  | [d1, d2] => { results := [.lit (.bool false)], args := [d1, d2] }
  | _ => none }
def FnExactMergePapersWrongFalsely : Prop := fnExactMergePapersRow.holds Try.pinned (OpenSpec.ofChange fnExactMergePapersWrong)

/-- 'laws.FnExactPutLine': WHATEVER THE INPUT: true; the input reads as it did. -/
def fnExactPutLineSpec : ChangeSpec := { name := "fnExactPutLine", fn := fun _ => fun
  | [d1, d2, d3] => { results := [.lit (.bool true)], args := [d1, d2, d3] }
  | _ => none }
def fnExactPutLineRow : OpenClaim := { program := "ytgddpcjbjkbpcaa", sum := "17995c78aea96d2dcbcdf602cd66354f7142bb7f0b11206a471441a7873bdf99", func := "loop.example/g01049/laws.FnExactPutLine", spec := "fnExactPutLine", apart := false }
def FnExactPutLineSaid : Prop := fnExactPutLineRow.holds Try.pinned (OpenSpec.ofChange fnExactPutLineSpec)

/-- ITS FALSE NEIGHBOUR: 'it returns false'. Refute it at one input. -/
def fnExactPutLineWrong : ChangeSpec := { name := "fnExactPutLine", fn := fun _ => fun
  | [d1, d2, d3] => { results := [.lit (.bool false)], args := [d1, d2, d3] }
  | _ => none }
def FnExactPutLineWrongFalsely : Prop := fnExactPutLineRow.holds Try.pinned (OpenSpec.ofChange fnExactPutLineWrong)

/-- 'laws.FnPapers': WHATEVER THE INPUT: true; the input reads as it did. -/
def fnPapersSpec : ChangeSpec := { name := "fnPapers", fn := fun _ => fun
  | [d] => { results := [.lit (.bool true)], args := [d] }
  | _ => none }
def fnPapersRow : OpenClaim := { program := "ytgddpcjbjkbpcaa", sum := "17995c78aea96d2dcbcdf602cd66354f7142bb7f0b11206a471441a7873bdf99", func := "loop.example/g01049/laws.FnPapers", spec := "fnPapers", apart := false }
def FnPapersSaid : Prop := fnPapersRow.holds Try.pinned (OpenSpec.ofChange fnPapersSpec)

/-- ITS FALSE NEIGHBOUR: 'it returns false'. Refute it at one input. -/
def fnPapersWrong : ChangeSpec := { name := "fnPapers", fn := fun _ => fun
  | [d] => { results := [.lit (.bool false)], args := [d] }
  | _ => none }
def FnPapersWrongFalsely : Prop := fnPapersRow.holds Try.pinned (OpenSpec.ofChange fnPapersWrong)

/-- 'laws.FnBookedOnce': WHATEVER THE INPUT: true; the input reads as it did. -/
def fnBookedOnceSpec : ChangeSpec := { name := "fnBookedOnce", fn := fun _ => fun
  | [d1, d2, d3] => { results := [.lit (.bool true)], args := [d1, d2, d3] }
  | _ => none }
def fnBookedOnceRow : OpenClaim := { program := "ytgddpcjbjkbpcaa", sum := "17995c78aea96d2dcbcdf602cd66354f7142bb7f0b11206a471441a7873bdf99", func := "loop.example/g01049/laws.FnBookedOnce", spec := "fnBookedOnce", apart := false }
def FnBookedOnceSaid : Prop := fnBookedOnceRow.holds Try.pinned (OpenSpec.ofChange fnBookedOnceSpec)

/-- ITS FALSE NEIGHBOUR: 'it returns false'. Refute it at one input. -/
def fnBookedOnceWrong : ChangeSpec := { name := "fnBookedOnce", fn := fun _ => fun
  | [d1, d2, d3] => { results := [.lit (.bool false)], args := [d1, d2, d3] }
  | _ => none }
def FnBookedOnceWrongFalsely : Prop := fnBookedOnceRow.holds Try.pinned (OpenSpec.ofChange fnBookedOnceWrong)

/-- 'laws.FnGrids': WHATEVER THE INPUT: true; the input reads as it did. -/
def fnGridsSpec : ChangeSpec := { name := "fnGrids", fn := fun _ => fun
  | [d] => { results := [.lit (.bool true)], args := [d] }
  | _ => none }
def fnGridsRow : OpenClaim := { program := "ytgddpcjbjkbpcaa", sum := "17995c78aea96d2dcbcdf602cd66354f7142bb7f0b11206a471441a7873bdf99", func := "loop.example/g01049/laws.FnGrids", spec := "fnGrids", apart := false }
def FnGridsSaid : Prop := fnGridsRow.holds Try.pinned (OpenSpec.ofChange fnGridsSpec)

/-- ITS FALSE NEIGHBOUR: 'it returns false'. Refute it at one input. -/
def fnGridsWrong : ChangeSpec := { name := "fnGrids", fn := fun _ => fun
  | [d] => { results := [.lit (.bool false)], args := [d] }
  | _ => none }
def FnGridsWrongFalsely : Prop := fnGridsRow.holds Try.pinned (OpenSpec.ofChange fnGridsWrong)

/- THE SECOND FORM. 'bulk': how many values and letters a reading holds, each counted each time it is reached (what is shared counts as often as it is met; a slice's spare places count too). A statement '..UptoSaid' is the law's where the arguments, and the package variables that the reading takes, are together of bulk at most 1048576: NARROWER than '..Said'. Prove '..Said' where nothing that the law and all that it calls make is longer than what came in: it says more and counts as full. Else prove '..UptoSaid'. A law counts once. -/
mutual
def uptoBulk {H : Type} : DataW H → Nat
  | .lit (.string bytes) => bytes.length + 1
  | .lit _ => 1
  | .nil => 1
  | .ptr d => uptoBulk d + 1
  | .slice elems spare => uptoBulkAll elems + uptoBulkAll spare + 1
  | .agg parts => uptoBulkAll parts + 1
  | .iface _ d => uptoBulk d + 1
  | .map entries => uptoBulkEntries entries + 1
  | .held _ => 1
def uptoBulkAll {H : Type} : List (DataW H) → Nat
  | [] => 0
  | d :: r => uptoBulk d + uptoBulkAll r
def uptoBulkEntries {H : Type} : List (Lit × DataW H) → Nat
  | [] => 0
  | x :: r => uptoBulkEntry x + uptoBulkEntries r
def uptoBulkEntry {H : Type} : Lit × DataW H → Nat
  | (.string bytes, d) => bytes.length + uptoBulk d + 1
  | (_, d) => uptoBulk d + 1
 end
def uptoSmall : (H : Type) → List (DataW H) → Bool := fun _ ds => decide (uptoBulkAll ds ≤ 1048576)
def OpenSpec.upto (s : _root_.Go.ChangeSpec) : _root_.Go.OpenSpec := { _root_.Go.OpenSpec.ofChange s with cond := some uptoSmall }

/-- 'laws.FnExactIsSettled', WHERE WHAT IT READS IS OF BULK AT MOST 1048576: true; the input reads as it did. -/
def fnExactIsSettledUptoRow : OpenClaim := { program := "ytgddpcjbjkbpcaa", sum := "17995c78aea96d2dcbcdf602cd66354f7142bb7f0b11206a471441a7873bdf99", func := "loop.example/g01049/laws.FnExactIsSettled", spec := "fnExactIsSettled", apart := false, narrowed := true }
def FnExactIsSettledUptoSaid : Prop := fnExactIsSettledUptoRow.holds Try.pinned (OpenSpec.upto fnExactIsSettledSpec)

/-- 'laws.FnExactOpenArticles', WHERE WHAT IT READS IS OF BULK AT MOST 1048576: true; the input reads as it did. -/
def fnExactOpenArticlesUptoRow : OpenClaim := { program := "ytgddpcjbjkbpcaa", sum := "17995c78aea96d2dcbcdf602cd66354f7142bb7f0b11206a471441a7873bdf99", func := "loop.example/g01049/laws.FnExactOpenArticles", spec := "fnExactOpenArticles", apart := false, narrowed := true }
def FnExactOpenArticlesUptoSaid : Prop := fnExactOpenArticlesUptoRow.holds Try.pinned (OpenSpec.upto fnExactOpenArticlesSpec)

/-- 'laws.FnExactSettleAll', WHERE WHAT IT READS IS OF BULK AT MOST 1048576: true; the input reads as it did. -/
def fnExactSettleAllUptoRow : OpenClaim := { program := "ytgddpcjbjkbpcaa", sum := "17995c78aea96d2dcbcdf602cd66354f7142bb7f0b11206a471441a7873bdf99", func := "loop.example/g01049/laws.FnExactSettleAll", spec := "fnExactSettleAll", apart := false, narrowed := true }
def FnExactSettleAllUptoSaid : Prop := fnExactSettleAllUptoRow.holds Try.pinned (OpenSpec.upto fnExactSettleAllSpec)

/-- 'laws.FnSettled', WHERE WHAT IT READS IS OF BULK AT MOST 1048576: true; the input reads as it did. -/
def fnSettledUptoRow : OpenClaim := { program := "ytgddpcjbjkbpcaa", sum := "17995c78aea96d2dcbcdf602cd66354f7142bb7f0b11206a471441a7873bdf99", func := "loop.example/g01049/laws.FnSettled", spec := "fnSettled", apart := false, narrowed := true }
def FnSettledUptoSaid : Prop := fnSettledUptoRow.holds Try.pinned (OpenSpec.upto fnSettledSpec)

/-- 'laws.FnMerged', WHERE WHAT IT READS IS OF BULK AT MOST 1048576: true; the input reads as it did. -/
def fnMergedUptoRow : OpenClaim := { program := "ytgddpcjbjkbpcaa", sum := "17995c78aea96d2dcbcdf602cd66354f7142bb7f0b11206a471441a7873bdf99", func := "loop.example/g01049/laws.FnMerged", spec := "fnMerged", apart := false, narrowed := true }
def FnMergedUptoSaid : Prop := fnMergedUptoRow.holds Try.pinned (OpenSpec.upto fnMergedSpec)

/-- 'laws.FnExactCutLine', WHERE WHAT IT READS IS OF BULK AT MOST 1048576: true; the input reads as it did. -/
def fnExactCutLineUptoRow : OpenClaim := { program := "ytgddpcjbjkbpcaa", sum := "17995c78aea96d2dcbcdf602cd66354f7142bb7f0b11206a471441a7873bdf99", func := "loop.example/g01049/laws.FnExactCutLine", spec := "fnExactCutLine", apart := false, narrowed := true }
def FnExactCutLineUptoSaid : Prop := fnExactCutLineUptoRow.holds Try.pinned (OpenSpec.upto fnExactCutLineSpec)

/-- 'laws.FnExactMergePapers', WHERE WHAT IT READS IS OF BULK AT MOST 1048576: true; the input reads as it did. -/
def fnExactMergePapersUptoRow : OpenClaim := { program := "ytgddpcjbjkbpcaa", sum := "17995c78aea96d2dcbcdf602cd66354f7142bb7f0b11206a471441a7873bdf99", func := "loop.example/g01049/laws.FnExactMergePapers", spec := "fnExactMergePapers", apart := false, narrowed := true }
def FnExactMergePapersUptoSaid : Prop := fnExactMergePapersUptoRow.holds Try.pinned (OpenSpec.upto fnExactMergePapersSpec)

/-- 'laws.FnExactPutLine', WHERE WHAT IT READS IS OF BULK AT MOST 1048576: true; the input reads as it did. -/
def fnExactPutLineUptoRow : OpenClaim := { program := "ytgddpcjbjkbpcaa", sum := "17995c78aea96d2dcbcdf602cd66354f7142bb7f0b11206a471441a7873bdf99", func := "loop.example/g01049/laws.FnExactPutLine", spec := "fnExactPutLine", apart := false, narrowed := true }
def FnExactPutLineUptoSaid : Prop := fnExactPutLineUptoRow.holds Try.pinned (OpenSpec.upto fnExactPutLineSpec)

/-- 'laws.FnPapers', WHERE WHAT IT READS IS OF BULK AT MOST 1048576: true; the input reads as it did. -/
def fnPapersUptoRow : OpenClaim := { program := "ytgddpcjbjkbpcaa", sum := "17995c78aea96d2dcbcdf602cd66354f7142bb7f0b11206a471441a7873bdf99", func := "loop.example/g01049/laws.FnPapers", spec := "fnPapers", apart := false, narrowed := true }
def FnPapersUptoSaid : Prop := fnPapersUptoRow.holds Try.pinned (OpenSpec.upto fnPapersSpec)

/-- 'laws.FnBookedOnce', WHERE WHAT IT READS IS OF BULK AT MOST 1048576: true; the input reads as it did. -/
def fnBookedOnceUptoRow : OpenClaim := { program := "ytgddpcjbjkbpcaa", sum := "17995c78aea96d2dcbcdf602cd66354f7142bb7f0b11206a471441a7873bdf99", func := "loop.example/g01049/laws.FnBookedOnce", spec := "fnBookedOnce", apart := false, narrowed := true }
def FnBookedOnceUptoSaid : Prop := fnBookedOnceUptoRow.holds Try.pinned (OpenSpec.upto fnBookedOnceSpec)

/-- 'laws.FnGrids', WHERE WHAT IT READS IS OF BULK AT MOST 1048576: true; the input reads as it did. -/
def fnGridsUptoRow : OpenClaim := { program := "ytgddpcjbjkbpcaa", sum := "17995c78aea96d2dcbcdf602cd66354f7142bb7f0b11206a471441a7873bdf99", func := "loop.example/g01049/laws.FnGrids", spec := "fnGrids", apart := false, narrowed := true }
def FnGridsUptoSaid : Prop := fnGridsUptoRow.holds Try.pinned (OpenSpec.upto fnGridsSpec)

end Rows
end Go.Proofs.Ytgddpcjbjkbpcaa
