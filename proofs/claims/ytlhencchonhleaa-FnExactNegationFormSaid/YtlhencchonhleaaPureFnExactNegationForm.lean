/- The plain half of FnExactNegationForm. No condition. Written by genF.py. -/
import Derived.Test.YtlhencchonhleaaFnlawsFnExactNegationForm
import Derived.Test.YtlhencchonhleaaPureFmG
namespace Go.Proofs.Ytlhencchonhleaa.Pure
open Go.RowKit Go.Proofs.YtlhencchonhleaaW.PrintWords Go.Proofs.Ytlhencchonhleaa.Fm Go.Proofs.Ytlhencchonhleaa.XEv Go.Proofs.Ytlhencchonhleaa.Print Go.Proofs.Ytlhencchonhleaa.Man Go.Proofs.Ytlhencchonhleaa.PFm
set_option linter.unusedVariables false
theorem FnExactNegationForm : laws_FnExactNegationForm.Pure := by
  intro s hs
  refine Ev.rounds ?_
  unfold laws_FnExactNegationForm.f
  by_cases h : (s.size : Int) > 1048576
  · exact epos h (eok rfl)
  refine eneg h (ebind (a := fneg s) ?_ ?_)
  · unfold spec_NegationForm.f fneg
    refine ebind (good_ s (by omega)) ?_
    cases hw : whole s.data.toList with
    | none =>
      rw [onF_none hw]
      exact eneg (by simp) (eok rfl)
    | some t =>
      obtain ⟨h1, h2, h3⟩ := whole_some hw
      have hst : s = B8 t.text := by rw [← h2]; exact B8_data s
      have hl : t.text.length ≤ 80 := by rw [← h2]; exact h3
      rw [onF_some hw, hst]
      refine epos (by simp) ?_
      have hg := sg_len t true
      have hgw := sg_wf t true h1
      refine ebind (ssg t true h1 (by omega)) ?_
      refine ebind (a := short (t.sg true).text) ?_ (eok rfl)
      unfold spec_l22Give.f
      refine ebind (good_ _ (by rw [size_B8]; omega)) ?_
      have hd : (B8 (t.sg true).text).data.toList = (t.sg true).text := by simp [B8]
      rw [hd]
      unfold short
      by_cases hle : (t.sg true).text.length ≤ 80
      · rw [if_pos hle, whole_text hgw hle]
        exact epos rfl (eok rfl)
      · rw [if_neg hle]
        have : whole (t.sg true).text = none := by unfold whole; rw [if_neg hle]
        rw [this]
        exact eneg (by simp) (eok rfl)
  · refine ebind1 (a := fneg s) rfl ?_
    exact epos rfl (eneg (by simp) (eok rfl))
end Go.Proofs.Ytlhencchonhleaa.Pure
