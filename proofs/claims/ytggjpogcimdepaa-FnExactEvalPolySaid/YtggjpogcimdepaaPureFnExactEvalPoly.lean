/- The plain half of FnExactEvalPoly: both sides answer alike, and nothing is written. No condition but the numbers' ranges. -/
import Derived.Test.YtggjpogcimdepaaSaidFnExactEvalPoly
import Derived.Test.YtggjpogcimdepaaPurePolyB
namespace Go.Proofs.Ytggjpogcimdepaa.Pure
open Go.RowKit Go.Proofs.YtggjpogcimdepaaW.PrintWords Go.Proofs.YtggjpogcimdepaaW.PrintMore Go.Proofs.Ytggjpogcimdepaa.XEv Go.Proofs.Ytggjpogcimdepaa.Print Go.Proofs.Ytggjpogcimdepaa.PolyA
set_option linter.unusedVariables false
theorem FnExactEvalPoly : laws_FnExactEvalPoly.Pure := by
  intro p vars l bits _ _ h _
  obtain ⟨hl, _⟩ := h
  refine Ev.rounds ?_
  unfold laws_FnExactEvalPoly.f
  refine ebind1 (sz l 1048576 hl (by omega)) ?_
  by_cases hs : (l.length : Int) ≤ 1048576
  case neg => exact epos (by rw [if_neg hs]; omega) (eok rfl)
  refine eneg (by rw [if_pos hs]; omega) ?_
  have hl2 : l.length ≤ 1048576 := by omega
  have hc : (l.map conv).length ≤ 1048576 := by rw [List.length_map]; exact hl2
  have hboth : ∃ r, Ev (fun k => spec_EvalPoly.f k p vars (l.map conv) bits) r ∧ Ev (fun k => impl_EvalPoly.f k p vars (l.map conv) bits) r := by
    unfold spec_EvalPoly.f impl_EvalPoly.f spec_l18Good.f
    rcases polys_one p vars (l.map conv) hc with ⟨_, h1, h2⟩ | ⟨hP, h1, r, h2, hiff, h3⟩
    · exact ⟨(0, false), ebind (ebind1 h1 (eneg (by simp) (eok rfl))) (eneg (by simp) (eok rfl)), ebind h2 (eneg (by simp) (eok rfl))⟩
    · have hpw := pow6 hP.2.1 hP.2.2
      cases r with
      | false => exact ⟨(0, false), ebind (ebind1 h1 (epos rfl h2)) (eneg (by simp) (eok rfl)), ebind h3 (eneg (by simp) (eok rfl))⟩
      | true =>
        have hg := hiff.1 rfl
        by_cases hb : 0 ≤ bits ∧ bits ≤ ((2 ^ vars.toNat : Nat) : Int) - 1
        · exact ⟨(pval p (l.map conv) bits, true), ebind (ebind1 h1 (epos rfl h2)) (epos rfl (epos hP.2.1 (ebind1 (l1In _ _ _) (epos (dt (by rw [shl1 hP.2.1 hP.2.2, wrap_in (by omega) (by omega)]; exact hb)) (ebind (specVal hP _ hc hg bits) (eok rfl)))))),
            ebind h3 (epos rfl (ebind1 (bitsOk _ _ hP.2.1 hP.2.2) (epos (dt hb) (epos (by simp) (ebind (implVal hP _ hc hg bits) (eok rfl))))))⟩
        · exact ⟨(0, false), ebind (ebind1 h1 (epos rfl h2)) (epos rfl (epos hP.2.1 (ebind1 (l1In _ _ _) (eneg (df (by rw [shl1 hP.2.1 hP.2.2, wrap_in (by omega) (by omega)]; exact hb)) (eok rfl))))),
            ebind h3 (epos rfl (ebind1 (bitsOk _ _ hP.2.1 hP.2.2) (eneg (df hb) (eok rfl))))⟩
  obtain ⟨r, hs1, hs2⟩ := hboth
  refine ebind (toT l hl2) (ebind hs1 (ebind (toT l hl2) (ebind hs2 (epos rfl ?_))))
  refine estep (fun k => laws_FnExactEvalPoly.j0.eq_2 (k := k) ..) (eneg (by simp) (ebind (toT l hl2) (ebind (eqT _ _ hc) (epos (by simp) (eok rfl)))))
end Go.Proofs.Ytggjpogcimdepaa.Pure
