/- The reference's value, depth and counts over a formula's text. No condition but a length. -/
import Derived.Test.YtlhencchonhleaaPureFm
import Derived.Test.YtlhencchonhleaaFmT
import Derived.Test.YtlhencchonhleaaFnspecl22Value
import Derived.Test.YtlhencchonhleaaFnspecl22False
import Derived.Test.YtlhencchonhleaaFnspecl1In
namespace Go.Proofs.Ytlhencchonhleaa.PFm
open Go.RowKit Go.Proofs.YtlhencchonhleaaW.PrintWords Go.Proofs.YtlhencchonhleaaW.PrintMore Go.Proofs.Ytlhencchonhleaa.Fm Go.Proofs.Ytlhencchonhleaa.XEv Go.Proofs.Ytlhencchonhleaa.Print Go.Proofs.Ytlhencchonhleaa.Man
set_option linter.unusedVariables false
set_option linter.unusedSimpArgs false
theorem sval1 (t : Fm) (bits : Int) (hw : t.wf) (hl : t.text.length ≤ 1000) : spec_l22Value.f (B8 t.text) bits = some (t.val bits) := sval_text t bits hw hl
theorem sin (a b c : Int) : spec_l1In.f a b c = some (decide (b ≤ a ∧ a ≤ c)) := by
  unfold spec_l1In.f
  by_cases h1 : b ≤ a <;> by_cases h2 : a ≤ c <;> simp [h1, h2] <;> omega
theorem sfalse (t : Fm) (hw : t.wf) (hl : t.text.length ≤ 1000) : ∀ (n : Nat) (i : Int), 0 ≤ i → (n : Int) + i = 64 → Ev (fun k => spec_l22False.l0 k (B8 t.text) i) (ff t.val n i)
  | 0, i, h0, h => estep (fun k => spec_l22False.l0.eq_2 (k := k) ..) (eneg (by omega) (eok rfl))
  | n + 1, i, h0, h => by
    refine estep (fun k => spec_l22False.l0.eq_2 (k := k) ..) (epos (by omega) (ebind1 (sval1 t i hw hl) ?_))
    cases hv : t.val i with
    | true =>
      rw [ff_hit hv]
      refine epos rfl ?_
      rw [wrap_in (by omega) (by omega)]
      exact sfalse t hw hl n (i + 1) (by omega) (by omega)
    | false =>
      rw [ff_miss hv]
      exact eneg (by simp) (eok rfl)
theorem sfalse0 (t : Fm) (hw : t.wf) (hl : t.text.length ≤ 1000) : Ev (fun k => spec_l22False.f k (B8 t.text)) (ff t.val 64 0) := by
  unfold spec_l22False.f
  exact sfalse t hw hl 64 0 (by omega) (by omega)
end Go.Proofs.Ytlhencchonhleaa.PFm
