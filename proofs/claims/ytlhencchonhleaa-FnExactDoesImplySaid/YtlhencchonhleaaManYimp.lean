/- What DoesImply answers, and its contract. -/
import Derived.Test.YtlhencchonhleaaManKimp
import Derived.Test.YtlhencchonhleaaManXa
namespace Go.Proofs.Ytlhencchonhleaa.Man
open Go.RowKit Go.Proofs.YtlhencchonhleaaW.PrintWords Go.Proofs.Ytlhencchonhleaa.Fm Go.Proofs.Ytlhencchonhleaa.Print
set_option linter.unusedVariables false
set_option linter.unusedSimpArgs false
def fimp (s s2 : ByteArray) : Bool × Bool := onF s (false, false) fun t => onF s2 (false, false) fun u => (decide (ff (fun i => imp_r (t.val i) (u.val i)) 64 0 < 0), true)
theorem fimp_cmp (s s2 : ByteArray) (w : World) :
    Calls Try.prog 50 #[.string s, .string s2, .func (.func 52) #[] #[]] w fun e w' => e = .returned (.tuple #[.bool (fimp s s2).1, .bool (fimp s s2).2]) ∧ Below w.heap.size w w' := by
  unfold fimp
  cases h : whole s.data.toList with
  | none =>
    rw [onF_none h]
    cases h2 : whole s2.data.toList with
    | none => exact imp_nn s s2 (Lib.hid (pn_ h)) (Lib.hid (pn_ h2)) w
    | some u => exact imp_ns s s2 u (Lib.hid (pn_ h)) (Lib.hid (ps_ h2)) w
  | some t =>
    rw [onF_some h]
    cases h2 : whole s2.data.toList with
    | none => rw [onF_none h2]; exact imp_sn s s2 t (Lib.hid (ps_ h)) (Lib.hid (pn_ h2)) w
    | some u => rw [onF_some h2]; exact imp_ss s s2 t u (Lib.hid (whole_some h).1) (Lib.hid (whole_some h2).1) (Lib.hid (ps_ h)) (Lib.hid (ps_ h2)) w
set_option maxHeartbeats 1000000 in
theorem fimp_calls (s s2 : ByteArray) (w : World) :
    Calls Try.prog 31 #[.string s, .string s2] w fun e w' => e = .returned (.tuple #[.bool (fimp s s2).1, .bool (fimp s s2).2]) ∧ Below w.heap.size w w' := by
  have HC := Lib.hid (fimp_cmp s s2)
  go_enter Try.func31, Try.ntmps31
  go_wp2_with (go_at_call 50; (with_reducible refine (HC.out _).mono ?_); rintro e w1 ⟨rfl, hb1⟩)
  go_ret2
  exact ⟨rfl, hb1⟩
end Go.Proofs.Ytlhencchonhleaa.Man
