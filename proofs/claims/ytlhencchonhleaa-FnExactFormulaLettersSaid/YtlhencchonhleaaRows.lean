/-
  No cell of these rows narrows 'for every input' (looked for: loops, veiled, ifaces, maps, wideKeys, modest, calm, conditions, laid).
  DERIVED. THE GIVEN ROWS OF THIS SEAT. 11 by the template 'for every input the law returns true; each argument reads behind the call as it read before'; 0 by the template 'total and deterministic' (their statements: YtlhencchonhleaaTotals.lean).
  GIVEN WITH THE SEED: the statements are not yours to turn. If you find one false, say at which input.
  Laid BY PROGRAM, IN A SANDBOX (cutbox-rows.mjs): the forced cells as the released guide's own fill.sh prints them over the translation 4ca1a0fd2bd12c5a… (all of the seat's roots in one cut). By AI agents, Wed Nov 11 2026. No macro, syntax, notation, axiom, sorry.
-/
import Derived.Test.YtlhencchonhleaaChecked
import GoSem.Claim
import GoSem.ClaimJoined
import GoSem.ClaimMapViews
import Derived.JoinedTies
import Derived.KernelRfl
namespace Go.Proofs.Ytlhencchonhleaa
/- THE CELL 'sum', in the pinned program and in every row, IS THE sha256 OF THE DUMP (.gsa) THAT YtlhencchonhleaaProg.lean LOADS. Nothing in Lean hashes anything: it is a label: what it is worth is what the hold of that sum in a sandbox is worth. -/
noncomputable def Try.pinned : Pinned := { name := "ytlhencchonhleaa", sum := "4ca1a0fd2bd12c5aa3c24f1c2bf4385c6c49c8d0653f0ced26c0d37a0b5ddcd9", checked := Try.checked }
namespace Rows
def none {H : Type} : Left H := { results := [], args := [] }

/-- 'laws.FnExactIsFormula': WHATEVER THE INPUT: true; the input reads as it did. -/
def fnExactIsFormulaSpec : ChangeSpec := { name := "fnExactIsFormula", fn := fun _ => fun
  | [d] => { results := [.lit (.bool true)], args := [d] }
  | _ => none }
def fnExactIsFormulaRow : OpenClaim := { program := "ytlhencchonhleaa", sum := "4ca1a0fd2bd12c5aa3c24f1c2bf4385c6c49c8d0653f0ced26c0d37a0b5ddcd9", func := "loop.example/g01080/laws.FnExactIsFormula", spec := "fnExactIsFormula", inPlace := ["internal/bytealg.IndexByteString", "internal/bytealg.IndexString"], recurses := true, named := ["internal/bytealg.MaxLen"], apart := false }
def FnExactIsFormulaSaid : Prop := fnExactIsFormulaRow.holds Try.pinned (OpenSpec.ofChange fnExactIsFormulaSpec)

/-- ITS FALSE NEIGHBOUR: 'it returns false'. Refute it at one input. -/
def fnExactIsFormulaWrong : ChangeSpec := { name := "fnExactIsFormula", fn := fun _ => fun
  | [d] => { results := [.lit (.bool false)], args := [d] }
  | _ => none }
def FnExactIsFormulaWrongFalsely : Prop := fnExactIsFormulaRow.holds Try.pinned (OpenSpec.ofChange fnExactIsFormulaWrong)

/-- 'laws.FnExactFormulaLetters': WHATEVER THE INPUT: true; the input reads as it did. -/
def fnExactFormulaLettersSpec : ChangeSpec := { name := "fnExactFormulaLetters", fn := fun _ => fun
  | [d] => { results := [.lit (.bool true)], args := [d] }
  | _ => none }
def fnExactFormulaLettersRow : OpenClaim := { program := "ytlhencchonhleaa", sum := "4ca1a0fd2bd12c5aa3c24f1c2bf4385c6c49c8d0653f0ced26c0d37a0b5ddcd9", func := "loop.example/g01080/laws.FnExactFormulaLetters", spec := "fnExactFormulaLetters", inPlace := ["internal/bytealg.IndexByteString", "internal/bytealg.IndexString"], recurses := true, named := ["internal/bytealg.MaxLen"], apart := false }
def FnExactFormulaLettersSaid : Prop := fnExactFormulaLettersRow.holds Try.pinned (OpenSpec.ofChange fnExactFormulaLettersSpec)

/-- ITS FALSE NEIGHBOUR: 'it returns false'. Refute it at one input. -/
def fnExactFormulaLettersWrong : ChangeSpec := { name := "fnExactFormulaLetters", fn := fun _ => fun
  | [d] => { results := [.lit (.bool false)], args := [d] }
  | _ => none }
def FnExactFormulaLettersWrongFalsely : Prop := fnExactFormulaLettersRow.holds Try.pinned (OpenSpec.ofChange fnExactFormulaLettersWrong)

/-- 'laws.FnExactFormulaDepth': WHATEVER THE INPUT: true; the input reads as it did. -/
def fnExactFormulaDepthSpec : ChangeSpec := { name := "fnExactFormulaDepth", fn := fun _ => fun
  | [d] => { results := [.lit (.bool true)], args := [d] }
  | _ => none }
def fnExactFormulaDepthRow : OpenClaim := { program := "ytlhencchonhleaa", sum := "4ca1a0fd2bd12c5aa3c24f1c2bf4385c6c49c8d0653f0ced26c0d37a0b5ddcd9", func := "loop.example/g01080/laws.FnExactFormulaDepth", spec := "fnExactFormulaDepth", inPlace := ["internal/bytealg.IndexByteString", "internal/bytealg.IndexString"], recurses := true, named := ["internal/bytealg.MaxLen"], apart := false }
def FnExactFormulaDepthSaid : Prop := fnExactFormulaDepthRow.holds Try.pinned (OpenSpec.ofChange fnExactFormulaDepthSpec)

/-- ITS FALSE NEIGHBOUR: 'it returns false'. Refute it at one input. -/
def fnExactFormulaDepthWrong : ChangeSpec := { name := "fnExactFormulaDepth", fn := fun _ => fun
  | [d] => { results := [.lit (.bool false)], args := [d] }
  | _ => none }
def FnExactFormulaDepthWrongFalsely : Prop := fnExactFormulaDepthRow.holds Try.pinned (OpenSpec.ofChange fnExactFormulaDepthWrong)

/-- 'laws.FnExactFormulaValue': WHATEVER THE INPUT: true; the input reads as it did. -/
def fnExactFormulaValueSpec : ChangeSpec := { name := "fnExactFormulaValue", fn := fun _ => fun
  | [d1, d2] => { results := [.lit (.bool true)], args := [d1, d2] }
  | _ => none }
def fnExactFormulaValueRow : OpenClaim := { program := "ytlhencchonhleaa", sum := "4ca1a0fd2bd12c5aa3c24f1c2bf4385c6c49c8d0653f0ced26c0d37a0b5ddcd9", func := "loop.example/g01080/laws.FnExactFormulaValue", spec := "fnExactFormulaValue", inPlace := ["internal/bytealg.IndexByteString", "internal/bytealg.IndexString"], recurses := true, named := ["internal/bytealg.MaxLen"], apart := false }
def FnExactFormulaValueSaid : Prop := fnExactFormulaValueRow.holds Try.pinned (OpenSpec.ofChange fnExactFormulaValueSpec)

/-- ITS FALSE NEIGHBOUR: 'it returns false'. Refute it at one input. -/
def fnExactFormulaValueWrong : ChangeSpec := { name := "fnExactFormulaValue", fn := fun _ => fun
  | [d1, d2] => { results := [.lit (.bool false)], args := [d1, d2] }
  | _ => none }
def FnExactFormulaValueWrongFalsely : Prop := fnExactFormulaValueRow.holds Try.pinned (OpenSpec.ofChange fnExactFormulaValueWrong)

/-- 'laws.FnExactCountModels': WHATEVER THE INPUT: true; the input reads as it did. -/
def fnExactCountModelsSpec : ChangeSpec := { name := "fnExactCountModels", fn := fun _ => fun
  | [d] => { results := [.lit (.bool true)], args := [d] }
  | _ => none }
def fnExactCountModelsRow : OpenClaim := { program := "ytlhencchonhleaa", sum := "4ca1a0fd2bd12c5aa3c24f1c2bf4385c6c49c8d0653f0ced26c0d37a0b5ddcd9", func := "loop.example/g01080/laws.FnExactCountModels", spec := "fnExactCountModels", inPlace := ["internal/bytealg.IndexByteString", "internal/bytealg.IndexString"], recurses := true, named := ["internal/bytealg.MaxLen"], apart := false }
def FnExactCountModelsSaid : Prop := fnExactCountModelsRow.holds Try.pinned (OpenSpec.ofChange fnExactCountModelsSpec)

/-- ITS FALSE NEIGHBOUR: 'it returns false'. Refute it at one input. -/
def fnExactCountModelsWrong : ChangeSpec := { name := "fnExactCountModels", fn := fun _ => fun
  | [d] => { results := [.lit (.bool false)], args := [d] }
  | _ => none }
def FnExactCountModelsWrongFalsely : Prop := fnExactCountModelsRow.holds Try.pinned (OpenSpec.ofChange fnExactCountModelsWrong)

/-- 'laws.FnExactIsTautology': WHATEVER THE INPUT: true; the input reads as it did. -/
def fnExactIsTautologySpec : ChangeSpec := { name := "fnExactIsTautology", fn := fun _ => fun
  | [d] => { results := [.lit (.bool true)], args := [d] }
  | _ => none }
def fnExactIsTautologyRow : OpenClaim := { program := "ytlhencchonhleaa", sum := "4ca1a0fd2bd12c5aa3c24f1c2bf4385c6c49c8d0653f0ced26c0d37a0b5ddcd9", func := "loop.example/g01080/laws.FnExactIsTautology", spec := "fnExactIsTautology", inPlace := ["internal/bytealg.IndexByteString", "internal/bytealg.IndexString"], unfollowed := true, recurses := true, named := ["internal/bytealg.MaxLen"], apart := false }
def FnExactIsTautologySaid : Prop := fnExactIsTautologyRow.holds Try.pinned (OpenSpec.ofChange fnExactIsTautologySpec)

/-- ITS FALSE NEIGHBOUR: 'it returns false'. Refute it at one input. -/
def fnExactIsTautologyWrong : ChangeSpec := { name := "fnExactIsTautology", fn := fun _ => fun
  | [d] => { results := [.lit (.bool false)], args := [d] }
  | _ => none }
def FnExactIsTautologyWrongFalsely : Prop := fnExactIsTautologyRow.holds Try.pinned (OpenSpec.ofChange fnExactIsTautologyWrong)

/-- 'laws.FnExactFirstFalsifying': WHATEVER THE INPUT: true; the input reads as it did. -/
def fnExactFirstFalsifyingSpec : ChangeSpec := { name := "fnExactFirstFalsifying", fn := fun _ => fun
  | [d] => { results := [.lit (.bool true)], args := [d] }
  | _ => none }
def fnExactFirstFalsifyingRow : OpenClaim := { program := "ytlhencchonhleaa", sum := "4ca1a0fd2bd12c5aa3c24f1c2bf4385c6c49c8d0653f0ced26c0d37a0b5ddcd9", func := "loop.example/g01080/laws.FnExactFirstFalsifying", spec := "fnExactFirstFalsifying", inPlace := ["internal/bytealg.IndexByteString", "internal/bytealg.IndexString"], unfollowed := true, recurses := true, named := ["internal/bytealg.MaxLen"], apart := false }
def FnExactFirstFalsifyingSaid : Prop := fnExactFirstFalsifyingRow.holds Try.pinned (OpenSpec.ofChange fnExactFirstFalsifyingSpec)

/-- ITS FALSE NEIGHBOUR: 'it returns false'. Refute it at one input. -/
def fnExactFirstFalsifyingWrong : ChangeSpec := { name := "fnExactFirstFalsifying", fn := fun _ => fun
  | [d] => { results := [.lit (.bool false)], args := [d] }
  | _ => none }
def FnExactFirstFalsifyingWrongFalsely : Prop := fnExactFirstFalsifyingRow.holds Try.pinned (OpenSpec.ofChange fnExactFirstFalsifyingWrong)

/-- 'laws.FnExactAreEquivalent': WHATEVER THE INPUT: true; the input reads as it did. -/
def fnExactAreEquivalentSpec : ChangeSpec := { name := "fnExactAreEquivalent", fn := fun _ => fun
  | [d1, d2] => { results := [.lit (.bool true)], args := [d1, d2] }
  | _ => none }
def fnExactAreEquivalentRow : OpenClaim := { program := "ytlhencchonhleaa", sum := "4ca1a0fd2bd12c5aa3c24f1c2bf4385c6c49c8d0653f0ced26c0d37a0b5ddcd9", func := "loop.example/g01080/laws.FnExactAreEquivalent", spec := "fnExactAreEquivalent", inPlace := ["internal/bytealg.IndexByteString", "internal/bytealg.IndexString"], unfollowed := true, recurses := true, named := ["internal/bytealg.MaxLen"], apart := false }
def FnExactAreEquivalentSaid : Prop := fnExactAreEquivalentRow.holds Try.pinned (OpenSpec.ofChange fnExactAreEquivalentSpec)

/-- ITS FALSE NEIGHBOUR: 'it returns false'. Refute it at one input. -/
def fnExactAreEquivalentWrong : ChangeSpec := { name := "fnExactAreEquivalent", fn := fun _ => fun
  | [d1, d2] => { results := [.lit (.bool false)], args := [d1, d2] }
  | _ => none }
def FnExactAreEquivalentWrongFalsely : Prop := fnExactAreEquivalentRow.holds Try.pinned (OpenSpec.ofChange fnExactAreEquivalentWrong)

/-- 'laws.FnExactDoesImply': WHATEVER THE INPUT: true; the input reads as it did. -/
def fnExactDoesImplySpec : ChangeSpec := { name := "fnExactDoesImply", fn := fun _ => fun
  | [d1, d2] => { results := [.lit (.bool true)], args := [d1, d2] }
  | _ => none }
def fnExactDoesImplyRow : OpenClaim := { program := "ytlhencchonhleaa", sum := "4ca1a0fd2bd12c5aa3c24f1c2bf4385c6c49c8d0653f0ced26c0d37a0b5ddcd9", func := "loop.example/g01080/laws.FnExactDoesImply", spec := "fnExactDoesImply", inPlace := ["internal/bytealg.IndexByteString", "internal/bytealg.IndexString"], unfollowed := true, recurses := true, named := ["internal/bytealg.MaxLen"], apart := false }
def FnExactDoesImplySaid : Prop := fnExactDoesImplyRow.holds Try.pinned (OpenSpec.ofChange fnExactDoesImplySpec)

/-- ITS FALSE NEIGHBOUR: 'it returns false'. Refute it at one input. -/
def fnExactDoesImplyWrong : ChangeSpec := { name := "fnExactDoesImply", fn := fun _ => fun
  | [d1, d2] => { results := [.lit (.bool false)], args := [d1, d2] }
  | _ => none }
def FnExactDoesImplyWrongFalsely : Prop := fnExactDoesImplyRow.holds Try.pinned (OpenSpec.ofChange fnExactDoesImplyWrong)

/-- 'laws.FnExactNegationForm': WHATEVER THE INPUT: true; the input reads as it did. -/
def fnExactNegationFormSpec : ChangeSpec := { name := "fnExactNegationForm", fn := fun _ => fun
  | [d] => { results := [.lit (.bool true)], args := [d] }
  | _ => none }
def fnExactNegationFormRow : OpenClaim := { program := "ytlhencchonhleaa", sum := "4ca1a0fd2bd12c5aa3c24f1c2bf4385c6c49c8d0653f0ced26c0d37a0b5ddcd9", func := "loop.example/g01080/laws.FnExactNegationForm", spec := "fnExactNegationForm", inPlace := ["internal/bytealg.IndexByteString", "internal/bytealg.IndexString"], recurses := true, named := ["internal/bytealg.MaxLen"], apart := false }
def FnExactNegationFormSaid : Prop := fnExactNegationFormRow.holds Try.pinned (OpenSpec.ofChange fnExactNegationFormSpec)

/-- ITS FALSE NEIGHBOUR: 'it returns false'. Refute it at one input. -/
def fnExactNegationFormWrong : ChangeSpec := { name := "fnExactNegationForm", fn := fun _ => fun
  | [d] => { results := [.lit (.bool false)], args := [d] }
  | _ => none }
def FnExactNegationFormWrongFalsely : Prop := fnExactNegationFormRow.holds Try.pinned (OpenSpec.ofChange fnExactNegationFormWrong)

/-- 'laws.FnExactPolarityOf': WHATEVER THE INPUT: true; the input reads as it did. -/
def fnExactPolarityOfSpec : ChangeSpec := { name := "fnExactPolarityOf", fn := fun _ => fun
  | [d1, d2] => { results := [.lit (.bool true)], args := [d1, d2] }
  | _ => none }
def fnExactPolarityOfRow : OpenClaim := { program := "ytlhencchonhleaa", sum := "4ca1a0fd2bd12c5aa3c24f1c2bf4385c6c49c8d0653f0ced26c0d37a0b5ddcd9", func := "loop.example/g01080/laws.FnExactPolarityOf", spec := "fnExactPolarityOf", inPlace := ["internal/bytealg.IndexByteString", "internal/bytealg.IndexString", "internal/bytealg.CountString"], recurses := true, named := ["internal/bytealg.MaxLen"], apart := false }
def FnExactPolarityOfSaid : Prop := fnExactPolarityOfRow.holds Try.pinned (OpenSpec.ofChange fnExactPolarityOfSpec)

/-- ITS FALSE NEIGHBOUR: 'it returns false'. Refute it at one input. -/
def fnExactPolarityOfWrong : ChangeSpec := { name := "fnExactPolarityOf", fn := fun _ => fun
  | [d1, d2] => { results := [.lit (.bool false)], args := [d1, d2] }
  | _ => none }
def FnExactPolarityOfWrongFalsely : Prop := fnExactPolarityOfRow.holds Try.pinned (OpenSpec.ofChange fnExactPolarityOfWrong)

/- THE SECOND FORM. 'bulk': how many values and letters a reading holds, each counted each time it is reached (what is shared counts as often as it is met; a slice's spare places count too). A statement '..UptoSaid' is the law's where the arguments, and the package variables that the reading takes, are together of bulk at most 1048576: NARROWER than '..Said'. Prove '..Said' where nothing that the law and all that it calls make is longer than what came in: it says more and counts as full. Else prove '..UptoSaid'. A law counts once. -/
mutual
def uptoBulk {H : Type} : DataW H → Nat
  | .lit (.string bytes) => bytes.length + 1
  | .lit _ => 1
  | .nil => 1
  | .ptr d => uptoBulk d + 1
  | .slice elems spare => uptoBulkAll elems + uptoBulkAll spare + 1
  | .agg parts => uptoBulkAll parts + 1
  | .iface _ d => uptoBulk d + 1
  | .map entries => uptoBulkEntries entries + 1
  | .held _ => 1
def uptoBulkAll {H : Type} : List (DataW H) → Nat
  | [] => 0
  | d :: r => uptoBulk d + uptoBulkAll r
def uptoBulkEntries {H : Type} : List (Lit × DataW H) → Nat
  | [] => 0
  | x :: r => uptoBulkEntry x + uptoBulkEntries r
def uptoBulkEntry {H : Type} : Lit × DataW H → Nat
  | (.string bytes, d) => bytes.length + uptoBulk d + 1
  | (_, d) => uptoBulk d + 1
 end
def uptoSmall : (H : Type) → List (DataW H) → Bool := fun _ ds => decide (uptoBulkAll ds ≤ 1048576)
def OpenSpec.upto (s : _root_.Go.ChangeSpec) : _root_.Go.OpenSpec := { _root_.Go.OpenSpec.ofChange s with cond := some uptoSmall }

/-- 'laws.FnExactIsFormula', WHERE WHAT IT READS IS OF BULK AT MOST 1048576: true; the input reads as it did. -/
def fnExactIsFormulaUptoRow : OpenClaim := { program := "ytlhencchonhleaa", sum := "4ca1a0fd2bd12c5aa3c24f1c2bf4385c6c49c8d0653f0ced26c0d37a0b5ddcd9", func := "loop.example/g01080/laws.FnExactIsFormula", spec := "fnExactIsFormula", inPlace := ["internal/bytealg.IndexByteString", "internal/bytealg.IndexString"], recurses := true, named := ["internal/bytealg.MaxLen"], apart := false, narrowed := true }
def FnExactIsFormulaUptoSaid : Prop := fnExactIsFormulaUptoRow.holds Try.pinned (OpenSpec.upto fnExactIsFormulaSpec)

/-- 'laws.FnExactFormulaLetters', WHERE WHAT IT READS IS OF BULK AT MOST 1048576: true; the input reads as it did. -/
def fnExactFormulaLettersUptoRow : OpenClaim := { program := "ytlhencchonhleaa", sum := "4ca1a0fd2bd12c5aa3c24f1c2bf4385c6c49c8d0653f0ced26c0d37a0b5ddcd9", func := "loop.example/g01080/laws.FnExactFormulaLetters", spec := "fnExactFormulaLetters", inPlace := ["internal/bytealg.IndexByteString", "internal/bytealg.IndexString"], recurses := true, named := ["internal/bytealg.MaxLen"], apart := false, narrowed := true }
def FnExactFormulaLettersUptoSaid : Prop := fnExactFormulaLettersUptoRow.holds Try.pinned (OpenSpec.upto fnExactFormulaLettersSpec)

/-- 'laws.FnExactFormulaDepth', WHERE WHAT IT READS IS OF BULK AT MOST 1048576: true; the input reads as it did. -/
def fnExactFormulaDepthUptoRow : OpenClaim := { program := "ytlhencchonhleaa", sum := "4ca1a0fd2bd12c5aa3c24f1c2bf4385c6c49c8d0653f0ced26c0d37a0b5ddcd9", func := "loop.example/g01080/laws.FnExactFormulaDepth", spec := "fnExactFormulaDepth", inPlace := ["internal/bytealg.IndexByteString", "internal/bytealg.IndexString"], recurses := true, named := ["internal/bytealg.MaxLen"], apart := false, narrowed := true }
def FnExactFormulaDepthUptoSaid : Prop := fnExactFormulaDepthUptoRow.holds Try.pinned (OpenSpec.upto fnExactFormulaDepthSpec)

/-- 'laws.FnExactFormulaValue', WHERE WHAT IT READS IS OF BULK AT MOST 1048576: true; the input reads as it did. -/
def fnExactFormulaValueUptoRow : OpenClaim := { program := "ytlhencchonhleaa", sum := "4ca1a0fd2bd12c5aa3c24f1c2bf4385c6c49c8d0653f0ced26c0d37a0b5ddcd9", func := "loop.example/g01080/laws.FnExactFormulaValue", spec := "fnExactFormulaValue", inPlace := ["internal/bytealg.IndexByteString", "internal/bytealg.IndexString"], recurses := true, named := ["internal/bytealg.MaxLen"], apart := false, narrowed := true }
def FnExactFormulaValueUptoSaid : Prop := fnExactFormulaValueUptoRow.holds Try.pinned (OpenSpec.upto fnExactFormulaValueSpec)

/-- 'laws.FnExactCountModels', WHERE WHAT IT READS IS OF BULK AT MOST 1048576: true; the input reads as it did. -/
def fnExactCountModelsUptoRow : OpenClaim := { program := "ytlhencchonhleaa", sum := "4ca1a0fd2bd12c5aa3c24f1c2bf4385c6c49c8d0653f0ced26c0d37a0b5ddcd9", func := "loop.example/g01080/laws.FnExactCountModels", spec := "fnExactCountModels", inPlace := ["internal/bytealg.IndexByteString", "internal/bytealg.IndexString"], recurses := true, named := ["internal/bytealg.MaxLen"], apart := false, narrowed := true }
def FnExactCountModelsUptoSaid : Prop := fnExactCountModelsUptoRow.holds Try.pinned (OpenSpec.upto fnExactCountModelsSpec)

/-- 'laws.FnExactIsTautology', WHERE WHAT IT READS IS OF BULK AT MOST 1048576: true; the input reads as it did. -/
def fnExactIsTautologyUptoRow : OpenClaim := { program := "ytlhencchonhleaa", sum := "4ca1a0fd2bd12c5aa3c24f1c2bf4385c6c49c8d0653f0ced26c0d37a0b5ddcd9", func := "loop.example/g01080/laws.FnExactIsTautology", spec := "fnExactIsTautology", inPlace := ["internal/bytealg.IndexByteString", "internal/bytealg.IndexString"], unfollowed := true, recurses := true, named := ["internal/bytealg.MaxLen"], apart := false, narrowed := true }
def FnExactIsTautologyUptoSaid : Prop := fnExactIsTautologyUptoRow.holds Try.pinned (OpenSpec.upto fnExactIsTautologySpec)

/-- 'laws.FnExactFirstFalsifying', WHERE WHAT IT READS IS OF BULK AT MOST 1048576: true; the input reads as it did. -/
def fnExactFirstFalsifyingUptoRow : OpenClaim := { program := "ytlhencchonhleaa", sum := "4ca1a0fd2bd12c5aa3c24f1c2bf4385c6c49c8d0653f0ced26c0d37a0b5ddcd9", func := "loop.example/g01080/laws.FnExactFirstFalsifying", spec := "fnExactFirstFalsifying", inPlace := ["internal/bytealg.IndexByteString", "internal/bytealg.IndexString"], unfollowed := true, recurses := true, named := ["internal/bytealg.MaxLen"], apart := false, narrowed := true }
def FnExactFirstFalsifyingUptoSaid : Prop := fnExactFirstFalsifyingUptoRow.holds Try.pinned (OpenSpec.upto fnExactFirstFalsifyingSpec)

/-- 'laws.FnExactAreEquivalent', WHERE WHAT IT READS IS OF BULK AT MOST 1048576: true; the input reads as it did. -/
def fnExactAreEquivalentUptoRow : OpenClaim := { program := "ytlhencchonhleaa", sum := "4ca1a0fd2bd12c5aa3c24f1c2bf4385c6c49c8d0653f0ced26c0d37a0b5ddcd9", func := "loop.example/g01080/laws.FnExactAreEquivalent", spec := "fnExactAreEquivalent", inPlace := ["internal/bytealg.IndexByteString", "internal/bytealg.IndexString"], unfollowed := true, recurses := true, named := ["internal/bytealg.MaxLen"], apart := false, narrowed := true }
def FnExactAreEquivalentUptoSaid : Prop := fnExactAreEquivalentUptoRow.holds Try.pinned (OpenSpec.upto fnExactAreEquivalentSpec)

/-- 'laws.FnExactDoesImply', WHERE WHAT IT READS IS OF BULK AT MOST 1048576: true; the input reads as it did. -/
def fnExactDoesImplyUptoRow : OpenClaim := { program := "ytlhencchonhleaa", sum := "4ca1a0fd2bd12c5aa3c24f1c2bf4385c6c49c8d0653f0ced26c0d37a0b5ddcd9", func := "loop.example/g01080/laws.FnExactDoesImply", spec := "fnExactDoesImply", inPlace := ["internal/bytealg.IndexByteString", "internal/bytealg.IndexString"], unfollowed := true, recurses := true, named := ["internal/bytealg.MaxLen"], apart := false, narrowed := true }
def FnExactDoesImplyUptoSaid : Prop := fnExactDoesImplyUptoRow.holds Try.pinned (OpenSpec.upto fnExactDoesImplySpec)

/-- 'laws.FnExactNegationForm', WHERE WHAT IT READS IS OF BULK AT MOST 1048576: true; the input reads as it did. -/
def fnExactNegationFormUptoRow : OpenClaim := { program := "ytlhencchonhleaa", sum := "4ca1a0fd2bd12c5aa3c24f1c2bf4385c6c49c8d0653f0ced26c0d37a0b5ddcd9", func := "loop.example/g01080/laws.FnExactNegationForm", spec := "fnExactNegationForm", inPlace := ["internal/bytealg.IndexByteString", "internal/bytealg.IndexString"], recurses := true, named := ["internal/bytealg.MaxLen"], apart := false, narrowed := true }
def FnExactNegationFormUptoSaid : Prop := fnExactNegationFormUptoRow.holds Try.pinned (OpenSpec.upto fnExactNegationFormSpec)

/-- 'laws.FnExactPolarityOf', WHERE WHAT IT READS IS OF BULK AT MOST 1048576: true; the input reads as it did. -/
def fnExactPolarityOfUptoRow : OpenClaim := { program := "ytlhencchonhleaa", sum := "4ca1a0fd2bd12c5aa3c24f1c2bf4385c6c49c8d0653f0ced26c0d37a0b5ddcd9", func := "loop.example/g01080/laws.FnExactPolarityOf", spec := "fnExactPolarityOf", inPlace := ["internal/bytealg.IndexByteString", "internal/bytealg.IndexString", "internal/bytealg.CountString"], recurses := true, named := ["internal/bytealg.MaxLen"], apart := false, narrowed := true }
def FnExactPolarityOfUptoSaid : Prop := fnExactPolarityOfUptoRow.holds Try.pinned (OpenSpec.upto fnExactPolarityOfSpec)

end Rows
end Go.Proofs.Ytlhencchonhleaa
