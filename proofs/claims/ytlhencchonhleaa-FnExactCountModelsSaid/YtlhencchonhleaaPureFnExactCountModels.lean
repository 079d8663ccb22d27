/- The plain half of FnExactCountModels. No condition. Written by genF.py. -/
import Derived.Test.YtlhencchonhleaaFnlawsFnExactCountModels
import Derived.Test.YtlhencchonhleaaPureFmV
namespace Go.Proofs.Ytlhencchonhleaa.Pure
open Go.RowKit Go.Proofs.YtlhencchonhleaaW.PrintWords Go.Proofs.Ytlhencchonhleaa.Fm Go.Proofs.Ytlhencchonhleaa.XEv Go.Proofs.Ytlhencchonhleaa.Print Go.Proofs.Ytlhencchonhleaa.Man Go.Proofs.Ytlhencchonhleaa.PFm
set_option linter.unusedVariables false
theorem FnExactCountModels : laws_FnExactCountModels.Pure := by
  intro s hs
  refine Ev.rounds ?_
  unfold laws_FnExactCountModels.f
  by_cases h : (s.size : Int) > 1048576
  · exact epos h (eok rfl)
  refine eneg h (ebind (a := fcnt s) ?_ ?_)
  · unfold spec_CountModels.f fcnt
    refine ebind (good_ s (by omega)) ?_
    cases hw : whole s.data.toList with
    | none =>
      rw [onF_none hw]
      exact eneg (by simp) (eok rfl)
    | some t =>
      obtain ⟨h1, h2, h3⟩ := whole_some hw
      have hst : s = B8 t.text := by rw [← h2]; exact B8_data s
      have hl : t.text.length ≤ 80 := by rw [← h2]; exact h3
      rw [onF_some hw, hst]
      refine epos (by simp) ?_
      have go : ∀ (n i : Nat), n + i = 64 → Ev (fun k => spec_CountModels.l0 k (B8 t.text) (cnt t.val i : Nat) (i : Nat)) (((cnt t.val 64 : Nat) : Int), true) := by
        intro n
        induction n with
        | zero =>
          intro i hi
          obtain rfl : i = 64 := by omega
          exact estep (fun k => spec_CountModels.l0.eq_2 (k := k) ..) (eneg (by omega) (eok rfl))
        | succ n ih =>
          intro i hi
          have hc := cnt_le t.val i
          refine estep (fun k => spec_CountModels.l0.eq_2 (k := k) ..) (epos (by omega) (ebind1 (sval1 t i h1 (by omega)) ?_))
          have e2 : wrap64 ((i : Int) + 1) = ((i + 1 : Nat) : Int) := by rw [wrap_in (by omega) (by omega)]; rfl
          rw [e2]
          cases hv : t.val (i : Int) with
          | true =>
            have hn := cnt_hit hv
            refine epos rfl ?_
            rw [show wrap64 (((cnt t.val i : Nat) : Int) + 1) = ((cnt t.val (i + 1) : Nat) : Int) by rw [wrap_in (by omega) (by omega), hn]; rfl]
            exact ih (i + 1) (by omega)
          | false =>
            have hn := cnt_miss hv
            refine eneg (by simp) ?_
            rw [← hn]
            exact ih (i + 1) (by omega)
      exact go 64 0 rfl
  · refine ebind1 (a := fcnt s) rfl ?_
    exact epos rfl (eneg (by simp) (eok rfl))
end Go.Proofs.Ytlhencchonhleaa.Pure
