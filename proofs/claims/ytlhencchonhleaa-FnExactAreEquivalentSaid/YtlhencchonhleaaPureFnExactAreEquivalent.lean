/- The plain half of FnExactAreEquivalent. No condition. Written by genG.py. -/
import Derived.Test.YtlhencchonhleaaFnlawsFnExactAreEquivalent
import Derived.Test.YtlhencchonhleaaPureFmC
namespace Go.Proofs.Ytlhencchonhleaa.Pure
open Go.RowKit Go.Proofs.YtlhencchonhleaaW.PrintWords Go.Proofs.Ytlhencchonhleaa.Fm Go.Proofs.Ytlhencchonhleaa.XEv Go.Proofs.Ytlhencchonhleaa.Print Go.Proofs.Ytlhencchonhleaa.Man Go.Proofs.Ytlhencchonhleaa.PFm
set_option linter.unusedVariables false
theorem FnExactAreEquivalent : laws_FnExactAreEquivalent.Pure := by
  intro s s2 hs hs2
  refine Ev.rounds ?_
  unfold laws_FnExactAreEquivalent.f
  by_cases h : (s.size : Int) > 1048576
  · exact epos h (eok rfl)
  by_cases h' : (s2.size : Int) > 1048576
  · exact eneg h (epos h' (eok rfl))
  refine eneg h (eneg h' (ebind (a := feqv s s2) ?_ ?_))
  · unfold spec_AreEquivalent.f feqv
    refine ebind (good_ s (by omega)) ?_
    cases hw : whole s.data.toList with
    | none =>
      rw [onF_none hw]
      exact eneg (by simp) (estep (fun k => spec_AreEquivalent.j0.eq_2 (k := k) ..) (epos rfl (eok rfl)))
    | some t =>
      obtain ⟨h1, h2, h3⟩ := whole_some hw
      have hst : s = B8 t.text := by rw [← h2]; exact B8_data s
      have hl : t.text.length ≤ 80 := by rw [← h2]; exact h3
      rw [onF_some hw]
      refine epos (by simp) (ebind (good_ s2 (by omega)) ?_)
      cases hu : whole s2.data.toList with
      | none =>
        rw [onF_none hu]
        exact estep (fun k => spec_AreEquivalent.j0.eq_2 (k := k) ..) (epos rfl (eok rfl))
      | some u =>
        obtain ⟨g1, g2, g3⟩ := whole_some hu
        have hsu : s2 = B8 u.text := by rw [← g2]; exact B8_data s2
        have hlu : u.text.length ≤ 80 := by rw [← g2]; exact g3
        rw [onF_some hu, hst, hsu]
        refine estep (fun k => spec_AreEquivalent.j0.eq_2 (k := k) ..) (eneg (by simp) (ebind (simpl0 t u h1 (by omega) g1 (by omega)) ?_))
        have hb := both_ t u
        by_cases hn : ff (impF t u) 64 0 < 0
        · refine epos (by simp [hn]) (ebind (simpl0 u t g1 (by omega) h1 (by omega)) (eok ?_))
          show _ = (decide (ff (fun i => t.val i == u.val i) 64 0 < 0), true)
          rw [hb]
          simp [hn]
        · refine eneg (by simp [hn]) (eok ?_)
          show _ = (decide (ff (fun i => t.val i == u.val i) 64 0 < 0), true)
          rw [hb]
          simp [hn]
  · exact ebind1 (a := feqv s s2) rfl (eneg (by simp) (eneg (by simp) (eok rfl)))
end Go.Proofs.Ytlhencchonhleaa.Pure
