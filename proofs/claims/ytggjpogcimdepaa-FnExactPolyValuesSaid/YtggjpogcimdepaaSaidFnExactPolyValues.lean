-- Written by xprint.py: what is left to prove of the law loop.example/g01080/laws.FnExactPolyValues.
import Derived.Test.YtggjpogcimdepaaFnlawsFnExactPolyValues
namespace Go.Proofs.Ytggjpogcimdepaa.Print
def laws_FnExactPolyValues.Pure : Prop := ∀ (a0 : Int) (a1 : Int) (l2 : List (S71)), (Lit.int .i64 a0).wf = true → (Lit.int .i64 a1).wf = true → (l2.length ≤ maxLen ∧ ∀ x33 ∈ l2, ((Lit.int .i64 x33.f0).wf = true ∧ (Lit.int .i64 x33.f1).wf = true)) → ∃ k, laws_FnExactPolyValues.f k a0 a1 l2 = some true
end Go.Proofs.Ytggjpogcimdepaa.Print
