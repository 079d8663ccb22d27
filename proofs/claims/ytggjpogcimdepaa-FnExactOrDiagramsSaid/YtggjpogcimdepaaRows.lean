/-
  No cell of these rows narrows 'for every input' (looked for: loops, veiled, ifaces, maps, wideKeys, modest, calm, conditions, laid).
  DERIVED. THE GIVEN ROWS OF THIS SEAT. 11 by the template 'for every input the law returns true; each argument reads behind the call as it read before'; 0 by the template 'total and deterministic' (their statements: YtggjpogcimdepaaTotals.lean).
  GIVEN WITH THE SEED: the statements are not yours to turn. If you find one false, say at which input.
  Laid BY PROGRAM, IN A SANDBOX (cutbox-rows.mjs): the forced cells as the released guide's own fill.sh prints them over the translation da3424507e84a440… (all of the seat's roots in one cut). By AI agents, Wed Nov 11 2026. No macro, syntax, notation, axiom, sorry.
-/
import Derived.Test.YtggjpogcimdepaaChecked
import GoSem.Claim
import GoSem.ClaimJoined
import GoSem.ClaimMapViews
import Derived.JoinedTies
import Derived.KernelRfl
namespace Go.Proofs.Ytggjpogcimdepaa
/- THE CELL 'sum', in the pinned program and in every row, IS THE sha256 OF THE DUMP (.gsa) THAT YtggjpogcimdepaaProg.lean LOADS. Nothing in Lean hashes anything: it is a label: what it is worth is what the hold of that sum in a sandbox is worth. -/
noncomputable def Try.pinned : Pinned := { name := "ytggjpogcimdepaa", sum := "da3424507e84a4401ec7c2faa70194b4d42736c611d1e74850bd85ae6f115979", checked := Try.checked }
namespace Rows
def none {H : Type} : Left H := { results := [], args := [] }

/-- 'laws.FnExactIsDiagram': WHATEVER THE INPUT: true; the input reads as it did. -/
def fnExactIsDiagramSpec : ChangeSpec := { name := "fnExactIsDiagram", fn := fun _ => fun
  | [d1, d2] => { results := [.lit (.bool true)], args := [d1, d2] }
  | _ => none }
def fnExactIsDiagramRow : OpenClaim := { program := "ytggjpogcimdepaa", sum := "da3424507e84a4401ec7c2faa70194b4d42736c611d1e74850bd85ae6f115979", func := "loop.example/g01080/laws.FnExactIsDiagram", spec := "fnExactIsDiagram", apart := false }
def FnExactIsDiagramSaid : Prop := fnExactIsDiagramRow.holds Try.pinned (OpenSpec.ofChange fnExactIsDiagramSpec)

/-- ITS FALSE NEIGHBOUR: 'it returns false'. Refute it at one input. -/
def fnExactIsDiagramWrong : ChangeSpec := { name := "fnExactIsDiagram", fn := fun _ => fun
  | [d1, d2] => { results := [.lit (.bool false)], args := [d1, d2] }
  | _ => none }
def FnExactIsDiagramWrongFalsely : Prop := fnExactIsDiagramRow.holds Try.pinned (OpenSpec.ofChange fnExactIsDiagramWrong)

/-- 'laws.FnExactEvalPoly': WHATEVER THE INPUT: true; the input reads as it did. -/
def fnExactEvalPolySpec : ChangeSpec := { name := "fnExactEvalPoly", fn := fun _ => fun
  | [d1, d2, d3, d4] => { results := [.lit (.bool true)], args := [d1, d2, d3, d4] }
  | _ => none }
def fnExactEvalPolyRow : OpenClaim := { program := "ytggjpogcimdepaa", sum := "da3424507e84a4401ec7c2faa70194b4d42736c611d1e74850bd85ae6f115979", func := "loop.example/g01080/laws.FnExactEvalPoly", spec := "fnExactEvalPoly", apart := false }
def FnExactEvalPolySaid : Prop := fnExactEvalPolyRow.holds Try.pinned (OpenSpec.ofChange fnExactEvalPolySpec)

/-- ITS FALSE NEIGHBOUR: 'it returns false'. Refute it at one input. -/
def fnExactEvalPolyWrong : ChangeSpec := { name := "fnExactEvalPoly", fn := fun _ => fun
  | [d1, d2, d3, d4] => { results := [.lit (.bool false)], args := [d1, d2, d3, d4] }
  | _ => none }
def FnExactEvalPolyWrongFalsely : Prop := fnExactEvalPolyRow.holds Try.pinned (OpenSpec.ofChange fnExactEvalPolyWrong)

/-- 'laws.FnExactDiagramValue': WHATEVER THE INPUT: true; the input reads as it did. -/
def fnExactDiagramValueSpec : ChangeSpec := { name := "fnExactDiagramValue", fn := fun _ => fun
  | [d1, d2, d3] => { results := [.lit (.bool true)], args := [d1, d2, d3] }
  | _ => none }
def fnExactDiagramValueRow : OpenClaim := { program := "ytggjpogcimdepaa", sum := "da3424507e84a4401ec7c2faa70194b4d42736c611d1e74850bd85ae6f115979", func := "loop.example/g01080/laws.FnExactDiagramValue", spec := "fnExactDiagramValue", apart := false }
def FnExactDiagramValueSaid : Prop := fnExactDiagramValueRow.holds Try.pinned (OpenSpec.ofChange fnExactDiagramValueSpec)

/-- ITS FALSE NEIGHBOUR: 'it returns false'. Refute it at one input. -/
def fnExactDiagramValueWrong : ChangeSpec := { name := "fnExactDiagramValue", fn := fun _ => fun
  | [d1, d2, d3] => { results := [.lit (.bool false)], args := [d1, d2, d3] }
  | _ => none }
def FnExactDiagramValueWrongFalsely : Prop := fnExactDiagramValueRow.holds Try.pinned (OpenSpec.ofChange fnExactDiagramValueWrong)

/-- 'laws.FnExactCountInDiagram': WHATEVER THE INPUT: true; the input reads as it did. -/
def fnExactCountInDiagramSpec : ChangeSpec := { name := "fnExactCountInDiagram", fn := fun _ => fun
  | [d1, d2] => { results := [.lit (.bool true)], args := [d1, d2] }
  | _ => none }
def fnExactCountInDiagramRow : OpenClaim := { program := "ytggjpogcimdepaa", sum := "da3424507e84a4401ec7c2faa70194b4d42736c611d1e74850bd85ae6f115979", func := "loop.example/g01080/laws.FnExactCountInDiagram", spec := "fnExactCountInDiagram", apart := false }
def FnExactCountInDiagramSaid : Prop := fnExactCountInDiagramRow.holds Try.pinned (OpenSpec.ofChange fnExactCountInDiagramSpec)

/-- ITS FALSE NEIGHBOUR: 'it returns false'. Refute it at one input. -/
def fnExactCountInDiagramWrong : ChangeSpec := { name := "fnExactCountInDiagram", fn := fun _ => fun
  | [d1, d2] => { results := [.lit (.bool false)], args := [d1, d2] }
  | _ => none }
def FnExactCountInDiagramWrongFalsely : Prop := fnExactCountInDiagramRow.holds Try.pinned (OpenSpec.ofChange fnExactCountInDiagramWrong)

/-- 'laws.FnExactPolyValues': WHATEVER THE INPUT: true; the input reads as it did. -/
def fnExactPolyValuesSpec : ChangeSpec := { name := "fnExactPolyValues", fn := fun _ => fun
  | [d1, d2, d3] => { results := [.lit (.bool true)], args := [d1, d2, d3] }
  | _ => none }
def fnExactPolyValuesRow : OpenClaim := { program := "ytggjpogcimdepaa", sum := "da3424507e84a4401ec7c2faa70194b4d42736c611d1e74850bd85ae6f115979", func := "loop.example/g01080/laws.FnExactPolyValues", spec := "fnExactPolyValues", apart := false }
def FnExactPolyValuesSaid : Prop := fnExactPolyValuesRow.holds Try.pinned (OpenSpec.ofChange fnExactPolyValuesSpec)

/-- ITS FALSE NEIGHBOUR: 'it returns false'. Refute it at one input. -/
def fnExactPolyValuesWrong : ChangeSpec := { name := "fnExactPolyValues", fn := fun _ => fun
  | [d1, d2, d3] => { results := [.lit (.bool false)], args := [d1, d2, d3] }
  | _ => none }
def FnExactPolyValuesWrongFalsely : Prop := fnExactPolyValuesRow.holds Try.pinned (OpenSpec.ofChange fnExactPolyValuesWrong)

/-- 'laws.FnExactIsReducedDiagram': WHATEVER THE INPUT: true; the input reads as it did. -/
def fnExactIsReducedDiagramSpec : ChangeSpec := { name := "fnExactIsReducedDiagram", fn := fun _ => fun
  | [d1, d2] => { results := [.lit (.bool true)], args := [d1, d2] }
  | _ => none }
def fnExactIsReducedDiagramRow : OpenClaim := { program := "ytggjpogcimdepaa", sum := "da3424507e84a4401ec7c2faa70194b4d42736c611d1e74850bd85ae6f115979", func := "loop.example/g01080/laws.FnExactIsReducedDiagram", spec := "fnExactIsReducedDiagram", unfollowed := true, recurses := true, apart := false }
def FnExactIsReducedDiagramSaid : Prop := fnExactIsReducedDiagramRow.holds Try.pinned (OpenSpec.ofChange fnExactIsReducedDiagramSpec)

/-- ITS FALSE NEIGHBOUR: 'it returns false'. Refute it at one input. -/
def fnExactIsReducedDiagramWrong : ChangeSpec := { name := "fnExactIsReducedDiagram", fn := fun _ => fun
  | [d1, d2] => { results := [.lit (.bool false)], args := [d1, d2] }
  | _ => none }
def FnExactIsReducedDiagramWrongFalsely : Prop := fnExactIsReducedDiagramRow.holds Try.pinned (OpenSpec.ofChange fnExactIsReducedDiagramWrong)

/-- 'laws.FnExactReduceDiagram': WHATEVER THE INPUT: true; the input reads as it did. -/
def fnExactReduceDiagramSpec : ChangeSpec := { name := "fnExactReduceDiagram", fn := fun _ => fun
  | [d1, d2] => { results := [.lit (.bool true)], args := [d1, d2] }
  | _ => none }
def fnExactReduceDiagramRow : OpenClaim := { program := "ytggjpogcimdepaa", sum := "da3424507e84a4401ec7c2faa70194b4d42736c611d1e74850bd85ae6f115979", func := "loop.example/g01080/laws.FnExactReduceDiagram", spec := "fnExactReduceDiagram", unfollowed := true, recurses := true, apart := false }
def FnExactReduceDiagramSaid : Prop := fnExactReduceDiagramRow.holds Try.pinned (OpenSpec.ofChange fnExactReduceDiagramSpec)

/-- ITS FALSE NEIGHBOUR: 'it returns false'. Refute it at one input. -/
def fnExactReduceDiagramWrong : ChangeSpec := { name := "fnExactReduceDiagram", fn := fun _ => fun
  | [d1, d2] => { results := [.lit (.bool false)], args := [d1, d2] }
  | _ => none }
def FnExactReduceDiagramWrongFalsely : Prop := fnExactReduceDiagramRow.holds Try.pinned (OpenSpec.ofChange fnExactReduceDiagramWrong)

/-- 'laws.FnExactNotDiagram': WHATEVER THE INPUT: true; the input reads as it did. -/
def fnExactNotDiagramSpec : ChangeSpec := { name := "fnExactNotDiagram", fn := fun _ => fun
  | [d1, d2] => { results := [.lit (.bool true)], args := [d1, d2] }
  | _ => none }
def fnExactNotDiagramRow : OpenClaim := { program := "ytggjpogcimdepaa", sum := "da3424507e84a4401ec7c2faa70194b4d42736c611d1e74850bd85ae6f115979", func := "loop.example/g01080/laws.FnExactNotDiagram", spec := "fnExactNotDiagram", unfollowed := true, recurses := true, apart := false }
def FnExactNotDiagramSaid : Prop := fnExactNotDiagramRow.holds Try.pinned (OpenSpec.ofChange fnExactNotDiagramSpec)

/-- ITS FALSE NEIGHBOUR: 'it returns false'. Refute it at one input. -/
def fnExactNotDiagramWrong : ChangeSpec := { name := "fnExactNotDiagram", fn := fun _ => fun
  | [d1, d2] => { results := [.lit (.bool false)], args := [d1, d2] }
  | _ => none }
def FnExactNotDiagramWrongFalsely : Prop := fnExactNotDiagramRow.holds Try.pinned (OpenSpec.ofChange fnExactNotDiagramWrong)

/-- 'laws.FnExactAndDiagrams': WHATEVER THE INPUT: true; the input reads as it did. -/
def fnExactAndDiagramsSpec : ChangeSpec := { name := "fnExactAndDiagrams", fn := fun _ => fun
  | [d1, d2, d3] => { results := [.lit (.bool true)], args := [d1, d2, d3] }
  | _ => none }
def fnExactAndDiagramsRow : OpenClaim := { program := "ytggjpogcimdepaa", sum := "da3424507e84a4401ec7c2faa70194b4d42736c611d1e74850bd85ae6f115979", func := "loop.example/g01080/laws.FnExactAndDiagrams", spec := "fnExactAndDiagrams", unfollowed := true, recurses := true, apart := false }
def FnExactAndDiagramsSaid : Prop := fnExactAndDiagramsRow.holds Try.pinned (OpenSpec.ofChange fnExactAndDiagramsSpec)

/-- ITS FALSE NEIGHBOUR: 'it returns false'. Refute it at one input. -/
def fnExactAndDiagramsWrong : ChangeSpec := { name := "fnExactAndDiagrams", fn := fun _ => fun
  | [d1, d2, d3] => { results := [.lit (.bool false)], args := [d1, d2, d3] }
  | _ => none }
def FnExactAndDiagramsWrongFalsely : Prop := fnExactAndDiagramsRow.holds Try.pinned (OpenSpec.ofChange fnExactAndDiagramsWrong)

/-- 'laws.FnExactOrDiagrams': WHATEVER THE INPUT: true; the input reads as it did. -/
def fnExactOrDiagramsSpec : ChangeSpec := { name := "fnExactOrDiagrams", fn := fun _ => fun
  | [d1, d2, d3] => { results := [.lit (.bool true)], args := [d1, d2, d3] }
  | _ => none }
def fnExactOrDiagramsRow : OpenClaim := { program := "ytggjpogcimdepaa", sum := "da3424507e84a4401ec7c2faa70194b4d42736c611d1e74850bd85ae6f115979", func := "loop.example/g01080/laws.FnExactOrDiagrams", spec := "fnExactOrDiagrams", unfollowed := true, recurses := true, apart := false }
def FnExactOrDiagramsSaid : Prop := fnExactOrDiagramsRow.holds Try.pinned (OpenSpec.ofChange fnExactOrDiagramsSpec)

/-- ITS FALSE NEIGHBOUR: 'it returns false'. Refute it at one input. -/
def fnExactOrDiagramsWrong : ChangeSpec := { name := "fnExactOrDiagrams", fn := fun _ => fun
  | [d1, d2, d3] => { results := [.lit (.bool false)], args := [d1, d2, d3] }
  | _ => none }
def FnExactOrDiagramsWrongFalsely : Prop := fnExactOrDiagramsRow.holds Try.pinned (OpenSpec.ofChange fnExactOrDiagramsWrong)

/-- 'laws.FnExactDiagramOfClause': WHATEVER THE INPUT: true; the input reads as it did. -/
def fnExactDiagramOfClauseSpec : ChangeSpec := { name := "fnExactDiagramOfClause", fn := fun _ => fun
  | [d1, d2] => { results := [.lit (.bool true)], args := [d1, d2] }
  | _ => none }
def fnExactDiagramOfClauseRow : OpenClaim := { program := "ytggjpogcimdepaa", sum := "da3424507e84a4401ec7c2faa70194b4d42736c611d1e74850bd85ae6f115979", func := "loop.example/g01080/laws.FnExactDiagramOfClause", spec := "fnExactDiagramOfClause", unfollowed := true, recurses := true, apart := false }
def FnExactDiagramOfClauseSaid : Prop := fnExactDiagramOfClauseRow.holds Try.pinned (OpenSpec.ofChange fnExactDiagramOfClauseSpec)

/-- ITS FALSE NEIGHBOUR: 'it returns false'. Refute it at one input. -/
def fnExactDiagramOfClauseWrong : ChangeSpec := { name := "fnExactDiagramOfClause", fn := fun _ => fun
  | [d1, d2] => { results := [.lit (.bool false)], args := [d1, d2] }
  | _ => none }
def FnExactDiagramOfClauseWrongFalsely : Prop := fnExactDiagramOfClauseRow.holds Try.pinned (OpenSpec.ofChange fnExactDiagramOfClauseWrong)

/- THE SECOND FORM. 'bulk': how many values and letters a reading holds, each counted each time it is reached (what is shared counts as often as it is met; a slice's spare places count too). A statement '..UptoSaid' is the law's where the arguments, and the package variables that the reading takes, are together of bulk at most 1048576: NARROWER than '..Said'. Prove '..Said' where nothing that the law and all that it calls make is longer than what came in: it says more and counts as full. Else prove '..UptoSaid'. A law counts once. -/
mutual
def uptoBulk {H : Type} : DataW H → Nat
  | .lit (.string bytes) => bytes.length + 1
  | .lit _ => 1
  | .nil => 1
  | .ptr d => uptoBulk d + 1
  | .slice elems spare => uptoBulkAll elems + uptoBulkAll spare + 1
  | .agg parts => uptoBulkAll parts + 1
  | .iface _ d => uptoBulk d + 1
  | .map entries => uptoBulkEntries entries + 1
  | .held _ => 1
def uptoBulkAll {H : Type} : List (DataW H) → Nat
  | [] => 0
  | d :: r => uptoBulk d + uptoBulkAll r
def uptoBulkEntries {H : Type} : List (Lit × DataW H) → Nat
  | [] => 0
  | x :: r => uptoBulkEntry x + uptoBulkEntries r
def uptoBulkEntry {H : Type} : Lit × DataW H → Nat
  | (.string bytes, d) => bytes.length + uptoBulk d + 1
  | (_, d) => uptoBulk d + 1
 end
def uptoSmall : (H : Type) → List (DataW H) → Bool := fun _ ds => decide (uptoBulkAll ds ≤ 1048576)
def OpenSpec.upto (s : _root_.Go.ChangeSpec) : _root_.Go.OpenSpec := { _root_.Go.OpenSpec.ofChange s with cond := some uptoSmall }

/-- 'laws.FnExactIsDiagram', WHERE WHAT IT READS IS OF BULK AT MOST 1048576: true; the input reads as it did. -/
def fnExactIsDiagramUptoRow : OpenClaim := { program := "ytggjpogcimdepaa", sum := "da3424507e84a4401ec7c2faa70194b4d42736c611d1e74850bd85ae6f115979", func := "loop.example/g01080/laws.FnExactIsDiagram", spec := "fnExactIsDiagram", apart := false, narrowed := true }
def FnExactIsDiagramUptoSaid : Prop := fnExactIsDiagramUptoRow.holds Try.pinned (OpenSpec.upto fnExactIsDiagramSpec)

/-- 'laws.FnExactEvalPoly', WHERE WHAT IT READS IS OF BULK AT MOST 1048576: true; the input reads as it did. -/
def fnExactEvalPolyUptoRow : OpenClaim := { program := "ytggjpogcimdepaa", sum := "da3424507e84a4401ec7c2faa70194b4d42736c611d1e74850bd85ae6f115979", func := "loop.example/g01080/laws.FnExactEvalPoly", spec := "fnExactEvalPoly", apart := false, narrowed := true }
def FnExactEvalPolyUptoSaid : Prop := fnExactEvalPolyUptoRow.holds Try.pinned (OpenSpec.upto fnExactEvalPolySpec)

/-- 'laws.FnExactDiagramValue', WHERE WHAT IT READS IS OF BULK AT MOST 1048576: true; the input reads as it did. -/
def fnExactDiagramValueUptoRow : OpenClaim := { program := "ytggjpogcimdepaa", sum := "da3424507e84a4401ec7c2faa70194b4d42736c611d1e74850bd85ae6f115979", func := "loop.example/g01080/laws.FnExactDiagramValue", spec := "fnExactDiagramValue", apart := false, narrowed := true }
def FnExactDiagramValueUptoSaid : Prop := fnExactDiagramValueUptoRow.holds Try.pinned (OpenSpec.upto fnExactDiagramValueSpec)

/-- 'laws.FnExactCountInDiagram', WHERE WHAT IT READS IS OF BULK AT MOST 1048576: true; the input reads as it did. -/
def fnExactCountInDiagramUptoRow : OpenClaim := { program := "ytggjpogcimdepaa", sum := "da3424507e84a4401ec7c2faa70194b4d42736c611d1e74850bd85ae6f115979", func := "loop.example/g01080/laws.FnExactCountInDiagram", spec := "fnExactCountInDiagram", apart := false, narrowed := true }
def FnExactCountInDiagramUptoSaid : Prop := fnExactCountInDiagramUptoRow.holds Try.pinned (OpenSpec.upto fnExactCountInDiagramSpec)

/-- 'laws.FnExactPolyValues', WHERE WHAT IT READS IS OF BULK AT MOST 1048576: true; the input reads as it did. -/
def fnExactPolyValuesUptoRow : OpenClaim := { program := "ytggjpogcimdepaa", sum := "da3424507e84a4401ec7c2faa70194b4d42736c611d1e74850bd85ae6f115979", func := "loop.example/g01080/laws.FnExactPolyValues", spec := "fnExactPolyValues", apart := false, narrowed := true }
def FnExactPolyValuesUptoSaid : Prop := fnExactPolyValuesUptoRow.holds Try.pinned (OpenSpec.upto fnExactPolyValuesSpec)

/-- 'laws.FnExactIsReducedDiagram', WHERE WHAT IT READS IS OF BULK AT MOST 1048576: true; the input reads as it did. -/
def fnExactIsReducedDiagramUptoRow : OpenClaim := { program := "ytggjpogcimdepaa", sum := "da3424507e84a4401ec7c2faa70194b4d42736c611d1e74850bd85ae6f115979", func := "loop.example/g01080/laws.FnExactIsReducedDiagram", spec := "fnExactIsReducedDiagram", unfollowed := true, recurses := true, apart := false, narrowed := true }
def FnExactIsReducedDiagramUptoSaid : Prop := fnExactIsReducedDiagramUptoRow.holds Try.pinned (OpenSpec.upto fnExactIsReducedDiagramSpec)

/-- 'laws.FnExactReduceDiagram', WHERE WHAT IT READS IS OF BULK AT MOST 1048576: true; the input reads as it did. -/
def fnExactReduceDiagramUptoRow : OpenClaim := { program := "ytggjpogcimdepaa", sum := "da3424507e84a4401ec7c2faa70194b4d42736c611d1e74850bd85ae6f115979", func := "loop.example/g01080/laws.FnExactReduceDiagram", spec := "fnExactReduceDiagram", unfollowed := true, recurses := true, apart := false, narrowed := true }
def FnExactReduceDiagramUptoSaid : Prop := fnExactReduceDiagramUptoRow.holds Try.pinned (OpenSpec.upto fnExactReduceDiagramSpec)

/-- 'laws.FnExactNotDiagram', WHERE WHAT IT READS IS OF BULK AT MOST 1048576: true; the input reads as it did. -/
def fnExactNotDiagramUptoRow : OpenClaim := { program := "ytggjpogcimdepaa", sum := "da3424507e84a4401ec7c2faa70194b4d42736c611d1e74850bd85ae6f115979", func := "loop.example/g01080/laws.FnExactNotDiagram", spec := "fnExactNotDiagram", unfollowed := true, recurses := true, apart := false, narrowed := true }
def FnExactNotDiagramUptoSaid : Prop := fnExactNotDiagramUptoRow.holds Try.pinned (OpenSpec.upto fnExactNotDiagramSpec)

/-- 'laws.FnExactAndDiagrams', WHERE WHAT IT READS IS OF BULK AT MOST 1048576: true; the input reads as it did. -/
def fnExactAndDiagramsUptoRow : OpenClaim := { program := "ytggjpogcimdepaa", sum := "da3424507e84a4401ec7c2faa70194b4d42736c611d1e74850bd85ae6f115979", func := "loop.example/g01080/laws.FnExactAndDiagrams", spec := "fnExactAndDiagrams", unfollowed := true, recurses := true, apart := false, narrowed := true }
def FnExactAndDiagramsUptoSaid : Prop := fnExactAndDiagramsUptoRow.holds Try.pinned (OpenSpec.upto fnExactAndDiagramsSpec)

/-- 'laws.FnExactOrDiagrams', WHERE WHAT IT READS IS OF BULK AT MOST 1048576: true; the input reads as it did. -/
def fnExactOrDiagramsUptoRow : OpenClaim := { program := "ytggjpogcimdepaa", sum := "da3424507e84a4401ec7c2faa70194b4d42736c611d1e74850bd85ae6f115979", func := "loop.example/g01080/laws.FnExactOrDiagrams", spec := "fnExactOrDiagrams", unfollowed := true, recurses := true, apart := false, narrowed := true }
def FnExactOrDiagramsUptoSaid : Prop := fnExactOrDiagramsUptoRow.holds Try.pinned (OpenSpec.upto fnExactOrDiagramsSpec)

/-- 'laws.FnExactDiagramOfClause', WHERE WHAT IT READS IS OF BULK AT MOST 1048576: true; the input reads as it did. -/
def fnExactDiagramOfClauseUptoRow : OpenClaim := { program := "ytggjpogcimdepaa", sum := "da3424507e84a4401ec7c2faa70194b4d42736c611d1e74850bd85ae6f115979", func := "loop.example/g01080/laws.FnExactDiagramOfClause", spec := "fnExactDiagramOfClause", unfollowed := true, recurses := true, apart := false, narrowed := true }
def FnExactDiagramOfClauseUptoSaid : Prop := fnExactDiagramOfClauseUptoRow.holds Try.pinned (OpenSpec.upto fnExactDiagramOfClauseSpec)

end Rows
end Go.Proofs.Ytggjpogcimdepaa
