-- Written by xprint.py: what is left to prove of the law loop.example/g01080/laws.FnExactCountInDiagram.
import Derived.Test.YtggjpogcimdepaaFnlawsFnExactCountInDiagram
namespace Go.Proofs.Ytggjpogcimdepaa.Print
def laws_FnExactCountInDiagram.Pure : Prop := ∀ (a0 : Int) (a1_0 : Int) (l1_1 : List (S99)), (Lit.int .i64 a0).wf = true → ((Lit.int .i64 a1_0).wf = true ∧ (l1_1.length ≤ maxLen ∧ ∀ x22 ∈ l1_1, ((Lit.int .i64 x22.f0).wf = true ∧ (Lit.int .i64 x22.f1).wf = true ∧ (Lit.int .i64 x22.f2).wf = true))) → ∃ k, laws_FnExactCountInDiagram.f k a0 a1_0 l1_1 = some true
end Go.Proofs.Ytggjpogcimdepaa.Print
