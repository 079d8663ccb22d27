/- The plain half of FnExactIsFormula. No condition. -/
import Derived.Test.YtlhencchonhleaaFnlawsFnExactIsFormula
import Derived.Test.YtlhencchonhleaaPureFm
namespace Go.Proofs.Ytlhencchonhleaa.Pure
open Go.RowKit Go.Proofs.YtlhencchonhleaaW.PrintWords Go.Proofs.Ytlhencchonhleaa.Fm Go.Proofs.Ytlhencchonhleaa.XEv Go.Proofs.Ytlhencchonhleaa.Print Go.Proofs.Ytlhencchonhleaa.Man Go.Proofs.Ytlhencchonhleaa.PFm
set_option linter.unusedVariables false
theorem FnExactIsFormula : laws_FnExactIsFormula.Pure := by
  intro s hs
  refine Ev.rounds ?_
  unfold laws_FnExactIsFormula.f
  by_cases h : (s.size : Int) > 1048576
  · exact epos h (eok rfl)
  refine eneg h (ebind (a := (whole s.data.toList).isSome) ?_ ?_)
  · unfold spec_IsFormula.f
    exact ebind (good_ s (by omega)) (eok rfl)
  · refine ebind1 (a := (whole s.data.toList).isSome) rfl (eneg (by simp) (eok rfl))
end Go.Proofs.Ytlhencchonhleaa.Pure
