/- The plain half of FnExactIsDiagram: both sides answer alike, and nothing is written. No condition but the numbers' ranges. -/
import Derived.Test.YtggjpogcimdepaaSaidFnExactIsDiagram
import Derived.Test.YtggjpogcimdepaaPureDiagB
namespace Go.Proofs.Ytggjpogcimdepaa.Pure
open Go.RowKit Go.Proofs.YtggjpogcimdepaaW.PrintWords Go.Proofs.Ytggjpogcimdepaa.XEv Go.Proofs.Ytggjpogcimdepaa.Print Go.Proofs.Ytggjpogcimdepaa.DiagA
set_option linter.unusedVariables false
theorem FnExactIsDiagram : laws_FnExactIsDiagram.Pure := by
  intro vars root l _ h
  obtain ⟨_, hl, _⟩ := h
  refine Ev.rounds ?_
  unfold laws_FnExactIsDiagram.f
  refine ebind1 (sz root l 1048576 hl (by omega)) ?_
  by_cases hs : (l.length : Int) ≤ 1048576
  case neg =>
    exact epos (by rw [if_neg hs]; omega) (eok rfl)
  refine eneg (by rw [if_pos hs]; omega) ?_
  have hl2 : l.length ≤ 1048576 := by omega
  have hc : (l.map conv).length ≤ 1048576 := by rw [List.length_map]; exact hl2
  obtain ⟨r, h1, h2, _⟩ := good_both vars root (l.map conv) hc
  refine ebind (toD root l hl2) (ebind (a := r) ?_ (ebind (toD root l hl2) (ebind (a := r) h2 (eneg (by simp) (ebind (toD root l hl2) (ebind (eqD _ _ _ _ hc) (epos (by simp) (eok rfl))))))))
  unfold spec_IsDiagram.f
  exact ebind h1 (eok rfl)
end Go.Proofs.Ytggjpogcimdepaa.Pure
