/-
  No cell of these rows narrows 'for every input' (looked for: loops, veiled, ifaces, maps, wideKeys, modest, calm, conditions, laid).
  DERIVED. THE GIVEN ROWS OF THIS SEAT. 4 by the template 'for every input the law returns true; each argument reads behind the call as it read before'; 0 by the template 'total and deterministic' (their statements: YtideamfpdeojlaaTotals.lean).
  GIVEN WITH THE SEED: the statements are not yours to turn. If you find one false, say at which input.
  Laid BY PROGRAM, IN A SANDBOX (cutbox-rows.mjs): the forced cells as the released guide's own fill.sh prints them over the translation a68af446a6390a89… (all of the seat's roots in one cut). By AI agents, Wed Nov 11 2026. No macro, syntax, notation, axiom, sorry.
-/
import Derived.Test.YtideamfpdeojlaaChecked
import GoSem.Claim
import GoSem.ClaimJoined
import GoSem.ClaimMapViews
import Derived.JoinedTies
import Derived.KernelRfl
namespace Go.Proofs.Ytideamfpdeojlaa
/- THE CELL 'sum', in the pinned program and in every row, IS THE sha256 OF THE DUMP (.gsa) THAT YtideamfpdeojlaaProg.lean LOADS. Nothing in Lean hashes anything: it is a label: what it is worth is what the hold of that sum in a sandbox is worth. -/
noncomputable def Try.pinned : Pinned := { name := "ytideamfpdeojlaa", sum := "a68af446a6390a89255f6411151b8309c488478ab325ee7d55b0184b4c6550e6", checked := Try.checked }
namespace Rows
def none {H : Type} : Left H := { results := [], args := [] }

/-- 'laws.FnExactIsDesk': WHATEVER THE INPUT: true; the input reads as it did. -/
def fnExactIsDeskSpec : ChangeSpec := { name := "fnExactIsDesk", fn := fun _ => fun
  | [d] => { results := [.lit (.bool true)], args := [d] }
  | _ => none }
def fnExactIsDeskRow : OpenClaim := { program := "ytideamfpdeojlaa", sum := "a68af446a6390a89255f6411151b8309c488478ab325ee7d55b0184b4c6550e6", func := "loop.example/g01049/laws.FnExactIsDesk", spec := "fnExactIsDesk", apart := false }
def FnExactIsDeskSaid : Prop := fnExactIsDeskRow.holds Try.pinned (OpenSpec.ofChange fnExactIsDeskSpec)

/-- ITS FALSE NEIGHBOUR: 'it returns false'. Refute it at one input. -/
def fnExactIsDeskWrong : ChangeSpec := { name := "fnExactIsDesk", fn := fun _ => fun
  | [d] => { results := [.lit (.bool false)], args := [d] }
  | _ => none }
def FnExactIsDeskWrongFalsely : Prop := fnExactIsDeskRow.holds Try.pinned (OpenSpec.ofChange fnExactIsDeskWrong)

/-- 'laws.FnExactBoxesOf': WHATEVER THE INPUT: true; the input reads as it did. -/
def fnExactBoxesOfSpec : ChangeSpec := { name := "fnExactBoxesOf", fn := fun _ => fun
  | [d1, d2] => { results := [.lit (.bool true)], args := [d1, d2] }
  | _ => none }
def fnExactBoxesOfRow : OpenClaim := { program := "ytideamfpdeojlaa", sum := "a68af446a6390a89255f6411151b8309c488478ab325ee7d55b0184b4c6550e6", func := "loop.example/g01049/laws.FnExactBoxesOf", spec := "fnExactBoxesOf", apart := false }
def FnExactBoxesOfSaid : Prop := fnExactBoxesOfRow.holds Try.pinned (OpenSpec.ofChange fnExactBoxesOfSpec)

/-- ITS FALSE NEIGHBOUR: 'it returns false'. Refute it at one input. -/
def fnExactBoxesOfWrong : ChangeSpec := { name := "fnExactBoxesOf", fn := fun _ => fun
  | [d1, d2] => { results := [.lit (.bool false)], args := [d1, d2] }
  | _ => none }
def FnExactBoxesOfWrongFalsely : Prop := fnExactBoxesOfRow.holds Try.pinned (OpenSpec.ofChange fnExactBoxesOfWrong)

/-- 'laws.FnNight': WHATEVER THE INPUT: true; the input reads as it did. -/
def fnNightSpec : ChangeSpec := { name := "fnNight", fn := fun _ => fun
  | [d1, d2, d3, d4, d5] => { results := [.lit (.bool true)], args := [d1, d2, d3, d4, d5] }
  | _ => none }
def fnNightRow : OpenClaim := { program := "ytideamfpdeojlaa", sum := "a68af446a6390a89255f6411151b8309c488478ab325ee7d55b0184b4c6550e6", func := "loop.example/g01049/laws.FnNight", spec := "fnNight", apart := false }
def FnNightSaid : Prop := fnNightRow.holds Try.pinned (OpenSpec.ofChange fnNightSpec)

/-- ITS FALSE NEIGHBOUR: 'it returns false'. Refute it at one input. -/
def fnNightWrong : ChangeSpec := { name := "fnNight", fn := fun _ => fun
  | [d1, d2, d3, d4, d5] => { results := [.lit (.bool false)], args := [d1, d2, d3, d4, d5] }
  | _ => none }
def FnNightWrongFalsely : Prop := fnNightRow.holds Try.pinned (OpenSpec.ofChange fnNightWrong)

/-- 'laws.FnExactBookShow': WHATEVER THE INPUT: true; the input reads as it did. -/
def fnExactBookShowSpec : ChangeSpec := { name := "fnExactBookShow", fn := fun _ => fun
  | [d1, d2, d3] => { results := [.lit (.bool true)], args := [d1, d2, d3] }
  | _ => none }
def fnExactBookShowRow : OpenClaim := { program := "ytideamfpdeojlaa", sum := "a68af446a6390a89255f6411151b8309c488478ab325ee7d55b0184b4c6550e6", func := "loop.example/g01049/laws.FnExactBookShow", spec := "fnExactBookShow", apart := false }
def FnExactBookShowSaid : Prop := fnExactBookShowRow.holds Try.pinned (OpenSpec.ofChange fnExactBookShowSpec)

/-- ITS FALSE NEIGHBOUR: 'it returns false'. Refute it at one input. -/
def fnExactBookShowWrong : ChangeSpec := { name := "fnExactBookShow", fn := fun _ => fun
  | [d1, d2, d3] => { results := [.lit (.bool false)], args := [d1, d2, d3] }
  | _ => none }
def FnExactBookShowWrongFalsely : Prop := fnExactBookShowRow.holds Try.pinned (OpenSpec.ofChange fnExactBookShowWrong)

/- THE SECOND FORM. 'bulk': how many values and letters a reading holds, each counted each time it is reached (what is shared counts as often as it is met; a slice's spare places count too). A statement '..UptoSaid' is the law's where the arguments, and the package variables that the reading takes, are together of bulk at most 1048576: NARROWER than '..Said'. Prove '..Said' where nothing that the law and all that it calls make is longer than what came in: it says more and counts as full. Else prove '..UptoSaid'. A law counts once. -/
mutual
def uptoBulk {H : Type} : DataW H → Nat
  | .lit (.string bytes) => bytes.length + 1
  | .lit _ => 1
  | .nil => 1
  | .ptr d => uptoBulk d + 1
  | .slice elems spare => uptoBulkAll elems + uptoBulkAll spare + 1
  | .agg parts => uptoBulkAll parts + 1
  | .iface _ d => uptoBulk d + 1
  | .map entries => uptoBulkEntries entries + 1
  | .held _ => 1
def uptoBulkAll {H : Type} : List (DataW H) → Nat
  | [] => 0
  | d :: r => uptoBulk d + uptoBulkAll r
def uptoBulkEntries {H : Type} : List (Lit × DataW H) → Nat
  | [] => 0
  | x :: r => uptoBulkEntry x + uptoBulkEntries r
def uptoBulkEntry {H : Type} : Lit × DataW H → Nat
  | (.string bytes, d) => bytes.length + uptoBulk d + 1
  | (_, d) => uptoBulk d + 1
 end
def uptoSmall : (H : Type) → List (DataW H) → Bool := fun _ ds => decide (uptoBulkAll ds ≤ 1048576)
def OpenSpec.upto (s : _root_.Go.ChangeSpec) : _root_.Go.OpenSpec := { _root_.Go.OpenSpec.ofChange s with cond := some uptoSmall }

/-- 'laws.FnExactIsDesk', WHERE WHAT IT READS IS OF BULK AT MOST 1048576: true; the input reads as it did. -/
def fnExactIsDeskUptoRow : OpenClaim := { program := "ytideamfpdeojlaa", sum := "a68af446a6390a89255f6411151b8309c488478ab325ee7d55b0184b4c6550e6", func := "loop.example/g01049/laws.FnExactIsDesk", spec := "fnExactIsDesk", apart := false, narrowed := true }
def FnExactIsDeskUptoSaid : Prop := fnExactIsDeskUptoRow.holds Try.pinned (OpenSpec.upto fnExactIsDeskSpec)

/-- 'laws.FnExactBoxesOf', WHERE WHAT IT READS IS OF BULK AT MOST 1048576: true; the input reads as it did. -/
def fnExactBoxesOfUptoRow : OpenClaim := { program := "ytideamfpdeojlaa", sum := "a68af446a6390a89255f6411151b8309c488478ab325ee7d55b0184b4c6550e6", func := "loop.example/g01049/laws.FnExactBoxesOf", spec := "fnExactBoxesOf", apart := false, narrowed := true }
def FnExactBoxesOfUptoSaid : Prop := fnExactBoxesOfUptoRow.holds Try.pinned (OpenSpec.upto fnExactBoxesOfSpec)

/-- 'laws.FnNight', WHERE WHAT IT READS IS OF BULK AT MOST 1048576: true; the input reads as it did. -/
def fnNightUptoRow : OpenClaim := { program := "ytideamfpdeojlaa", sum := "a68af446a6390a89255f6411151b8309c488478ab325ee7d55b0184b4c6550e6", func := "loop.example/g01049/laws.FnNight", spec := "fnNight", apart := false, narrowed := true }
def FnNightUptoSaid : Prop := fnNightUptoRow.holds Try.pinned (OpenSpec.upto fnNightSpec)

/-- 'laws.FnExactBookShow', WHERE WHAT IT READS IS OF BULK AT MOST 1048576: true; the input reads as it did. -/
def fnExactBookShowUptoRow : OpenClaim := { program := "ytideamfpdeojlaa", sum := "a68af446a6390a89255f6411151b8309c488478ab325ee7d55b0184b4c6550e6", func := "loop.example/g01049/laws.FnExactBookShow", spec := "fnExactBookShow", apart := false, narrowed := true }
def FnExactBookShowUptoSaid : Prop := fnExactBookShowUptoRow.holds Try.pinned (OpenSpec.upto fnExactBookShowSpec)

end Rows
end Go.Proofs.Ytideamfpdeojlaa
