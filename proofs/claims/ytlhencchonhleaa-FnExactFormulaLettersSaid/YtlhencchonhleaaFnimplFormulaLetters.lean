-- Written by xprint.py (a program of this session's) out of the translation; Lean checks it.
import Derived.Test.YtlhencchonhleaaPrint0
import Derived.Test.YtlhencchonhleaaManL
namespace Go.Proofs.Ytlhencchonhleaa.Print
open Go.RowKit Go.Proofs.YtlhencchonhleaaW.PrintWords Go.Proofs.YtlhencchonhleaaW.PrintLast Go.Proofs.YtlhencchonhleaaW.PrintMore
attribute [local go_sem] max2_int min2_int max_two min_two max_three min_three max_four min_four   -- for this text's walks alone
set_option linter.unusedVariables false
set_option linter.unusedSimpArgs false

/-! ### impl_FormulaLetters: function 17 -/
-- X IMPORT Derived.Test.YtlhencchonhleaaManL
def impl_FormulaLetters.f (a0 : ByteArray) : Option (ByteArray × Bool) := some (Man.flet a0)
theorem impl_FormulaLetters.calls (a0 : ByteArray) (r1 : ByteArray) (r2 : Bool) (w : World) (h : impl_FormulaLetters.f a0 = some (r1, r2)) :
    Calls Try.prog 17 #[.string a0] w fun e w' => e = .returned (.tuple #[.string r1, .bool r2]) ∧ Below w.heap.size w w' := by
  unfold impl_FormulaLetters.f at h
  have h2 := Option.some.inj h
  have := Man.flet_calls a0 w
  rw [h2] at this
  exact this

end Go.Proofs.Ytlhencchonhleaa.Print
