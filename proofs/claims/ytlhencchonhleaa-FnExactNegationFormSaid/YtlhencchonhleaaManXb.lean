/- What FormulaDepth and NegationForm answer, and their contracts. -/
import Derived.Test.YtlhencchonhleaaManXa
import Derived.Test.YtlhencchonhleaaManN
namespace Go.Proofs.Ytlhencchonhleaa.Man
open Go.RowKit Go.Proofs.YtlhencchonhleaaW.PrintWords Go.Proofs.Ytlhencchonhleaa.Fm Go.Proofs.Ytlhencchonhleaa.Print
set_option linter.unusedVariables false
set_option linter.unusedSimpArgs false
def fdep (s : ByteArray) : Int × Bool := onF s (0, false) fun t => ((t.dep : Int), true)
def fneg (s : ByteArray) : ByteArray × Bool := onF s (⟨#[]⟩, false) fun t => short (t.sg true).text
theorem fdep_calls (s : ByteArray) (w : World) :
    Calls Try.prog 19 #[.string s] w fun e w' => e = .returned (.tuple #[.int .i64 (fdep s).1, .bool (fdep s).2]) ∧ Below w.heap.size w w' := by
  unfold fdep
  cases h : whole s.data.toList with
  | none => rw [onF_none h]; exact fd_none s (Lib.hid (pn_ h)) w
  | some t =>
    rw [onF_some h]
    have hs := whole_some h
    exact fd_some s t (Lib.hid (by have := hs.2.2; rw [hs.2.1] at this; omega)) (Lib.hid (ps_ h)) w
theorem fneg_calls (s : ByteArray) (w : World) :
    Calls Try.prog 33 #[.string s] w fun e w' => e = .returned (.tuple #[.string (fneg s).1, .bool (fneg s).2]) ∧ Below w.heap.size w w' := by
  unfold fneg
  cases h : whole s.data.toList with
  | none => rw [onF_none h]; exact nf_none s (Lib.hid (pn_ h)) w
  | some t =>
    rw [onF_some h]
    have hs := whole_some h
    exact nf_some s t (Lib.hid hs.1) (Lib.hid (by have := hs.2.2; rw [hs.2.1] at this; omega)) (Lib.hid (ps_ h)) w
end Go.Proofs.Ytlhencchonhleaa.Man
