-- Written by xprint.py (a program of this session's) out of the translation; Lean checks it.
import Derived.Test.YtlhencchonhleaaPrint0
import Derived.Test.YtlhencchonhleaaManYeqv
namespace Go.Proofs.Ytlhencchonhleaa.Print
open Go.RowKit Go.Proofs.YtlhencchonhleaaW.PrintWords Go.Proofs.YtlhencchonhleaaW.PrintLast Go.Proofs.YtlhencchonhleaaW.PrintMore
attribute [local go_sem] max2_int min2_int max_two min_two max_three min_three max_four min_four   -- for this text's walks alone
set_option linter.unusedVariables false
set_option linter.unusedSimpArgs false

/-! ### impl_AreEquivalent: function 29 -/
-- X IMPORT Derived.Test.YtlhencchonhleaaManYeqv
def impl_AreEquivalent.f (a0 a1 : ByteArray) : Option (Bool × Bool) := some (Man.feqv a0 a1)
theorem impl_AreEquivalent.calls (a0 a1 : ByteArray) (r1 : Bool) (r2 : Bool) (w : World) (h : impl_AreEquivalent.f a0 a1 = some (r1, r2)) :
    Calls Try.prog 29 #[.string a0, .string a1] w fun e w' => e = .returned (.tuple #[.bool r1, .bool r2]) ∧ Below w.heap.size w w' := by
  unfold impl_AreEquivalent.f at h
  have h2 := Option.some.inj h
  have := Man.feqv_calls a0 a1 w
  rw [h2] at this
  exact this

end Go.Proofs.Ytlhencchonhleaa.Print
