-- Written by xprint.py (a program of this session's) out of the translation; Lean checks it.
import Derived.Test.YtlhencchonhleaaProg
import Derived.Below
import Derived.Deep.Draws
import Derived.Deep.AppendLies
import Derived.Maps.AppendAt
import Derived.OwnWalk
import Derived.Laws.BytesArg
import Derived.Laws.MakeOwn
import Derived.Laws.OwnMore
import Derived.Deep.OwnRows
import Derived.Tactics
import Derived.Lib.ConvBytes
import Derived.Laws.Slices
import Derived.WalkKit
import Derived.KernelRfl
import Derived.RowKit3
import Derived.Deep.LoopGhost
import Derived.Deep.QuietTactic
import Derived.BigQuiet
import Derived.WideLaws
import Derived.Deep.DeepCutAuto
import Derived.Deep.CutBlock
import Derived.Deep.RegionHeld3
import Derived.Laws.Rows
import Derived.Lib.AppendStr
import Derived.ArgAppend
import Derived.Laws.IdiomCopy
import Derived.OrdersHeld
import Derived.Laws.BitsLemmas
import Derived.RowKit
import Derived.Test.YtlhencchonhleaaWWords
import Derived.Test.YtlhencchonhleaaWLast
import Derived.Test.YtlhencchonhleaaWTab
import Derived.Test.YtlhencchonhleaaWFour
import Derived.Test.YtlhencchonhleaaWQPut
import Derived.Test.YtlhencchonhleaaWApart
import Derived.Test.YtlhencchonhleaaWArr
import Derived.Test.YtlhencchonhleaaWZeros
import Derived.Test.YtlhencchonhleaaWFoot
import Derived.Test.YtlhencchonhleaaWKept
import Derived.Test.YtlhencchonhleaaWShare
import Derived.Test.YtlhencchonhleaaWN
import Derived.Test.YtlhencchonhleaaWFootNe
import Derived.Test.YtlhencchonhleaaWAt
import Derived.Test.YtlhencchonhleaaWEqStruct
import Derived.Test.YtlhencchonhleaaWRepsOne
import Derived.Test.YtlhencchonhleaaWInv
import Derived.Test.YtlhencchonhleaaWInvWords
import Derived.Test.YtlhencchonhleaaWGuard
import Derived.Test.YtlhencchonhleaaWNEv
import Derived.Test.YtlhencchonhleaaWMore
namespace Go.Proofs.Ytlhencchonhleaa.Print
open Go.RowKit Go.Proofs.YtlhencchonhleaaW.PrintWords Go.Proofs.YtlhencchonhleaaW.PrintLast Go.Proofs.YtlhencchonhleaaW.PrintMore
attribute [local go_sem] max2_int min2_int max_two min_two max_three min_three max_four min_four   -- for this text's walks alone
set_option linter.unusedVariables false
set_option linter.unusedSimpArgs false



def errW : Option Int → Value
  | none => .nilIface
  | some c => .iface 0 (.int .i64 c)
theorem errW_none : errW none = .nilIface := rfl
theorem errW_some (c : Int) : errW (some c) = .iface 0 (.int .i64 c) := rfl

-- the values' own types

end Go.Proofs.Ytlhencchonhleaa.Print
