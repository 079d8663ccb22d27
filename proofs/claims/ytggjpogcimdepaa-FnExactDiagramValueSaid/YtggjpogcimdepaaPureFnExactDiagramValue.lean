/- The plain half of FnExactDiagramValue: both sides answer alike, and nothing is written. No condition but the numbers' ranges. -/
import Derived.Test.YtggjpogcimdepaaSaidFnExactDiagramValue
import Derived.Test.YtggjpogcimdepaaPureDiagC
namespace Go.Proofs.Ytggjpogcimdepaa.Pure
open Go.RowKit Go.Proofs.YtggjpogcimdepaaW.PrintWords Go.Proofs.YtggjpogcimdepaaW.PrintMore Go.Proofs.Ytggjpogcimdepaa.XEv Go.Proofs.Ytggjpogcimdepaa.Print Go.Proofs.Ytggjpogcimdepaa.DiagA
set_option linter.unusedVariables false
theorem FnExactDiagramValue : laws_FnExactDiagramValue.Pure := by
  intro vars root l bits _ h _
  obtain ⟨_, hl, _⟩ := h
  refine Ev.rounds ?_
  unfold laws_FnExactDiagramValue.f
  refine ebind1 (sz root l 1048576 hl (by omega)) ?_
  by_cases hs : (l.length : Int) ≤ 1048576
  case neg => exact epos (by rw [if_neg hs]; omega) (eok rfl)
  refine eneg (by rw [if_pos hs]; omega) ?_
  have hl2 : l.length ≤ 1048576 := by omega
  have hc : (l.map conv).length ≤ 1048576 := by rw [List.length_map]; exact hl2
  have hboth : ∃ r, Ev (fun k => spec_DiagramValue.f k vars root (l.map conv) bits) r ∧ Ev (fun k => impl_DiagramValue.f k vars root (l.map conv) bits) r := by
    unfold spec_DiagramValue.f impl_DiagramValue.f
    obtain ⟨r, h1, h2, hr⟩ := good_both vars root (l.map conv) hc
    cases r with
    | false => exact ⟨(false, false), ebind h1 (eneg (by simp) (eok rfl)), ebind h2 (eneg (by simp) (eok rfl))⟩
    | true =>
      have hg := hr.1 rfl
      have hp := pow6 hg.1 hg.2.1
      by_cases hb : 0 ≤ bits ∧ bits ≤ ((2 ^ vars.toNat : Nat) : Int) - 1
      · exact ⟨(dval (l.map conv) root bits, true), ebind h1 (epos rfl (epos hg.1 (ebind1 (l1In _ _ _) (epos (dt (by rw [shl1 hg.1 hg.2.1, wrap_in (by omega) (by omega)]; exact hb)) (ebind (specVal vars root _ bits hg) (eok rfl)))))),
          ebind h2 (epos rfl (ebind1 (bitsOk vars bits hg.1 hg.2.1) (epos (dt hb) (ebind (implVal vars root _ bits hg) (eok rfl)))))⟩
      · exact ⟨(false, false), ebind h1 (epos rfl (epos hg.1 (ebind1 (l1In _ _ _) (eneg (df (by rw [shl1 hg.1 hg.2.1, wrap_in (by omega) (by omega)]; exact hb)) (eok rfl))))),
          ebind h2 (epos rfl (ebind1 (bitsOk vars bits hg.1 hg.2.1) (eneg (df hb) (eok rfl))))⟩
  obtain ⟨r, hs1, hs2⟩ := hboth
  refine ebind (toD root l hl2) (ebind hs1 (ebind (toD root l hl2) (ebind hs2 (eneg (by simp) ?_))))
  refine estep (fun k => laws_FnExactDiagramValue.j0.eq_2 (k := k) ..) (eneg (by simp) (ebind (toD root l hl2) (ebind (eqD _ _ _ _ hc) (epos (by simp) (eok rfl)))))
end Go.Proofs.Ytggjpogcimdepaa.Pure
