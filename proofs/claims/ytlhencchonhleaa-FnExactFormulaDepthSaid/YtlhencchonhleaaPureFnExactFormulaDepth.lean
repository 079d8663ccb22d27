/- The plain half of FnExactFormulaDepth. No condition. Written by genF.py. -/
import Derived.Test.YtlhencchonhleaaFnlawsFnExactFormulaDepth
import Derived.Test.YtlhencchonhleaaPureFmD
namespace Go.Proofs.Ytlhencchonhleaa.Pure
open Go.RowKit Go.Proofs.YtlhencchonhleaaW.PrintWords Go.Proofs.Ytlhencchonhleaa.Fm Go.Proofs.Ytlhencchonhleaa.XEv Go.Proofs.Ytlhencchonhleaa.Print Go.Proofs.Ytlhencchonhleaa.Man Go.Proofs.Ytlhencchonhleaa.PFm
set_option linter.unusedVariables false
theorem FnExactFormulaDepth : laws_FnExactFormulaDepth.Pure := by
  intro s hs
  refine Ev.rounds ?_
  unfold laws_FnExactFormulaDepth.f
  by_cases h : (s.size : Int) > 1048576
  · exact epos h (eok rfl)
  refine eneg h (ebind (a := fdep s) ?_ ?_)
  · unfold spec_FormulaDepth.f fdep
    refine ebind (good_ s (by omega)) ?_
    cases hw : whole s.data.toList with
    | none =>
      rw [onF_none hw]
      exact eneg (by simp) (eok rfl)
    | some t =>
      obtain ⟨h1, h2, h3⟩ := whole_some hw
      have hst : s = B8 t.text := by rw [← h2]; exact B8_data s
      have hl : t.text.length ≤ 80 := by rw [← h2]; exact h3
      rw [onF_some hw, hst]
      refine epos (by simp) ?_
      exact ebind (sdep t h1 (by omega)) (eok rfl)
  · refine ebind1 (a := fdep s) rfl ?_
    exact epos rfl (eneg (by simp) (eok rfl))
end Go.Proofs.Ytlhencchonhleaa.Pure
