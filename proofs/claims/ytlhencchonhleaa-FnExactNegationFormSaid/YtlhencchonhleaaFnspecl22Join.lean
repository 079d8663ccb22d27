-- Written by xprint.py (a program of this session's) out of the translation; Lean checks it.
import Derived.Test.YtlhencchonhleaaPrint0
namespace Go.Proofs.Ytlhencchonhleaa.Print
open Go.RowKit Go.Proofs.YtlhencchonhleaaW.PrintWords Go.Proofs.YtlhencchonhleaaW.PrintLast Go.Proofs.YtlhencchonhleaaW.PrintMore
attribute [local go_sem] max2_int min2_int max_two min_two max_three min_three max_four min_four   -- for this text's walks alone
set_option linter.unusedVariables false
set_option linter.unusedSimpArgs false

/-! ### spec_l22Join: function 65 -/
def spec_l22Join.f (a0 a1 a2 : ByteArray) : Option ByteArray := if a0.size ≤ 1000000 ∧ a1.size ≤ 1000000 ∧ a2.size ≤ 1000000 then some (((((⟨#[40]⟩ : ByteArray) ++ a1) ++ a0) ++ a2) ++ (⟨#[41]⟩ : ByteArray)) else none
theorem spec_l22Join.calls (a0 a1 a2 : ByteArray) (r : ByteArray) (w : World) (h : spec_l22Join.f a0 a1 a2 = some r) :
    Calls Try.prog 65 #[.string a0, .string a1, .string a2] w fun e w' => e = .returned (.string r) ∧ Drawn0 w w' := by
  unfold spec_l22Join.f at h
  by_cases hs : a0.size ≤ 1000000 ∧ a1.size ≤ 1000000 ∧ a2.size ≤ 1000000
  case neg => rw [if_neg hs] at h; cases h
  rw [if_pos hs] at h
  cases h
  obtain ⟨h0, h1, h2⟩ := hs
  go_enter Try.func65, Try.ntmps65
  go_wp2
  go_ret
  exact ⟨rfl, Drawn0.refl _⟩

end Go.Proofs.Ytlhencchonhleaa.Print
