-- Written by xprint.py (a program of this session's) out of the translation; Lean checks it.
import Derived.Test.YtlhencchonhleaaPrint0
import Derived.Test.YtlhencchonhleaaManS
namespace Go.Proofs.Ytlhencchonhleaa.Print
open Go.RowKit Go.Proofs.YtlhencchonhleaaW.PrintWords Go.Proofs.YtlhencchonhleaaW.PrintLast Go.Proofs.YtlhencchonhleaaW.PrintMore
attribute [local go_sem] max2_int min2_int max_two min_two max_three min_three max_four min_four   -- for this text's walks alone
set_option linter.unusedVariables false
set_option linter.unusedSimpArgs false

/-! ### spec_l22Value: function 44 -/
-- X IMPORT Derived.Test.YtlhencchonhleaaManS
def spec_l22Value.f (a0 : ByteArray) (a1 : Int) : Option Bool := Man.sval a0 a1
theorem spec_l22Value.calls (a0 : ByteArray) (a1 : Int) (r : Bool) (w : World) (h : spec_l22Value.f a0 a1 = some r) :
    Calls Try.prog 44 #[.string a0, .int .i64 a1] w fun e w' => e = .returned (.bool r) ∧ Drawn0 w w' := Man.sval_calls a0 a1 r w h

end Go.Proofs.Ytlhencchonhleaa.Print
