/- The reference's l22Implies over two formulas' texts. No condition but a length. -/
import Derived.Test.YtlhencchonhleaaPureFmV
import Derived.Test.YtlhencchonhleaaFnspecl22Implies
namespace Go.Proofs.Ytlhencchonhleaa.PFm
open Go.RowKit Go.Proofs.YtlhencchonhleaaW.PrintWords Go.Proofs.YtlhencchonhleaaW.PrintMore Go.Proofs.Ytlhencchonhleaa.Fm Go.Proofs.Ytlhencchonhleaa.XEv Go.Proofs.Ytlhencchonhleaa.Print Go.Proofs.Ytlhencchonhleaa.Man
set_option linter.unusedVariables false
set_option linter.unusedSimpArgs false
theorem ff_neg (p : Int → Bool) : ∀ (n : Nat) (i : Int), 0 ≤ i → (ff p n i < 0 ↔ ∀ j : Int, i ≤ j → j < i + n → p j = true)
  | 0, i, h => ⟨fun _ j h1 h2 => by omega, fun _ => by unfold ff; omega⟩
  | n + 1, i, h => by
    have ih := ff_neg p n (i + 1) (by omega)
    cases hv : p i with
    | true =>
      rw [ff_hit hv, ih]
      constructor
      · intro k j h1 h2
        by_cases e : j = i
        · rw [e]; exact hv
        · exact k j (by omega) (by omega)
      · intro k j h1 h2
        exact k j (by omega) (by omega)
    | false =>
      rw [ff_miss hv]
      constructor
      · intro k; omega
      · intro k
        have := k i (by omega) (by omega)
        rw [hv] at this
        cases this
def impF (t u : Fm) (j : Int) : Bool := !(t.val j) || u.val j
theorem simpl (t u : Fm) (hw : t.wf) (hl : t.text.length ≤ 1000) (hw2 : u.wf) (hl2 : u.text.length ≤ 1000) : ∀ (n : Nat) (i : Int), 0 ≤ i → (n : Int) + i = 64 →
    Ev (fun k => spec_l22Implies.l0 k (B8 t.text) (B8 u.text) i) (decide (ff (impF t u) n i < 0))
  | 0, i, h0, h => estep (fun k => spec_l22Implies.l0.eq_2 (k := k) ..) (eneg (by omega) (eok rfl))
  | n + 1, i, h0, h => by
    have ih := simpl t u hw hl hw2 hl2 n (i + 1) (by omega) (by omega)
    refine estep (fun k => spec_l22Implies.l0.eq_2 (k := k) ..) (epos (by omega) (ebind1 (sval1 t i hw hl) ?_))
    cases hv : t.val i with
    | true =>
      refine epos rfl (ebind1 (sval1 u i hw2 hl2) ?_)
      cases hu : u.val i with
      | true =>
        refine epos rfl ?_
        rw [ff_hit (show impF t u i = true by simp [impF, hv, hu]), wrap_in (by omega) (by omega)]
        exact ih
      | false =>
        rw [ff_miss (show impF t u i = false by simp [impF, hv, hu])]
        exact eneg (by simp) (eok (by simp; omega))
    | false =>
      refine eneg (by simp) ?_
      rw [ff_hit (show impF t u i = true by simp [impF, hv]), wrap_in (by omega) (by omega)]
      exact ih
theorem simpl0 (t u : Fm) (hw : t.wf) (hl : t.text.length ≤ 1000) (hw2 : u.wf) (hl2 : u.text.length ≤ 1000) :
    Ev (fun k => spec_l22Implies.f k (B8 t.text) (B8 u.text)) (decide (ff (impF t u) 64 0 < 0)) := by
  unfold spec_l22Implies.f
  exact simpl t u hw hl hw2 hl2 64 0 (by omega) (by omega)
theorem both_ (t u : Fm) : decide (ff (fun i => t.val i == u.val i) 64 0 < 0) = (decide (ff (impF t u) 64 0 < 0) && decide (ff (impF u t) 64 0 < 0)) := by
  have e : (ff (fun i => t.val i == u.val i) 64 0 < 0) ↔ (ff (impF t u) 64 0 < 0 ∧ ff (impF u t) 64 0 < 0) := by
    rw [ff_neg _ 64 0 (by omega), ff_neg _ 64 0 (by omega), ff_neg _ 64 0 (by omega)]
    constructor
    · intro h
      refine ⟨fun j h1 h2 => ?_, fun j h1 h2 => ?_⟩
      all_goals
        have := h j h1 h2
        unfold impF
        cases hx : t.val j <;> cases hy : u.val j <;> simp [hx, hy] at this ⊢
    · rintro ⟨h, k⟩ j h1 h2
      have a := h j h1 h2
      have b := k j h1 h2
      unfold impF at a b
      cases hx : t.val j <;> cases hy : u.val j <;> simp [hx, hy] at a b ⊢
  by_cases h1 : ff (impF t u) 64 0 < 0 <;> by_cases h2 : ff (impF u t) 64 0 < 0 <;> simp [h1, h2, e]
end Go.Proofs.Ytlhencchonhleaa.PFm
