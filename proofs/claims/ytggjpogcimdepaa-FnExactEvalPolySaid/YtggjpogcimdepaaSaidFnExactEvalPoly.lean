-- Written by xprint.py: what is left to prove of the law loop.example/g01080/laws.FnExactEvalPoly.
import Derived.Test.YtggjpogcimdepaaFnlawsFnExactEvalPoly
namespace Go.Proofs.Ytggjpogcimdepaa.Print
def laws_FnExactEvalPoly.Pure : Prop := ∀ (a0 : Int) (a1 : Int) (l2 : List (S71)) (a3 : Int), (Lit.int .i64 a0).wf = true → (Lit.int .i64 a1).wf = true → (l2.length ≤ maxLen ∧ ∀ x33 ∈ l2, ((Lit.int .i64 x33.f0).wf = true ∧ (Lit.int .i64 x33.f1).wf = true)) → (Lit.int .i64 a3).wf = true → ∃ k, laws_FnExactEvalPoly.f k a0 a1 l2 a3 = some true
end Go.Proofs.Ytggjpogcimdepaa.Print
