-- Written by xprint.py (a program of this session's) out of the translation; Lean checks it.
import Derived.Test.YtlhencchonhleaaPrint0
import Derived.Test.YtlhencchonhleaaManD
namespace Go.Proofs.Ytlhencchonhleaa.Print
open Go.RowKit Go.Proofs.YtlhencchonhleaaW.PrintWords Go.Proofs.YtlhencchonhleaaW.PrintLast Go.Proofs.YtlhencchonhleaaW.PrintMore
attribute [local go_sem] max2_int min2_int max_two min_two max_three min_three max_four min_four   -- for this text's walks alone
set_option linter.unusedVariables false
set_option linter.unusedSimpArgs false

/-! ### impl_IsFormula: function 15 -/
-- X IMPORT Derived.Test.YtlhencchonhleaaManD
def impl_IsFormula.f (a0 : ByteArray) : Option (Bool) := some (((Fm.whole a0.data.toList).isSome))
theorem impl_IsFormula.calls (a0 : ByteArray) (r : Bool) (w : World) (h : impl_IsFormula.f a0 = some r) :
    Calls Try.prog 15 #[.string a0] w fun e w' => e = .returned (.bool r) ∧ Below w.heap.size w w' := by
  unfold impl_IsFormula.f at h
  cases h
  exact Man.isFormula a0 w

end Go.Proofs.Ytlhencchonhleaa.Print
