/- What AreEquivalent answers, and its contract. -/
import Derived.Test.YtlhencchonhleaaManKeqv
import Derived.Test.YtlhencchonhleaaManXa
namespace Go.Proofs.Ytlhencchonhleaa.Man
open Go.RowKit Go.Proofs.YtlhencchonhleaaW.PrintWords Go.Proofs.Ytlhencchonhleaa.Fm Go.Proofs.Ytlhencchonhleaa.Print
set_option linter.unusedVariables false
set_option linter.unusedSimpArgs false
def feqv (s s2 : ByteArray) : Bool × Bool := onF s (false, false) fun t => onF s2 (false, false) fun u => (decide (ff (fun i => eqv_r (t.val i) (u.val i)) 64 0 < 0), true)
theorem feqv_cmp (s s2 : ByteArray) (w : World) :
    Calls Try.prog 50 #[.string s, .string s2, .func (.func 51) #[] #[]] w fun e w' => e = .returned (.tuple #[.bool (feqv s s2).1, .bool (feqv s s2).2]) ∧ Below w.heap.size w w' := by
  unfold feqv
  cases h : whole s.data.toList with
  | none =>
    rw [onF_none h]
    cases h2 : whole s2.data.toList with
    | none => exact eqv_nn s s2 (Lib.hid (pn_ h)) (Lib.hid (pn_ h2)) w
    | some u => exact eqv_ns s s2 u (Lib.hid (pn_ h)) (Lib.hid (ps_ h2)) w
  | some t =>
    rw [onF_some h]
    cases h2 : whole s2.data.toList with
    | none => rw [onF_none h2]; exact eqv_sn s s2 t (Lib.hid (ps_ h)) (Lib.hid (pn_ h2)) w
    | some u => rw [onF_some h2]; exact eqv_ss s s2 t u (Lib.hid (whole_some h).1) (Lib.hid (whole_some h2).1) (Lib.hid (ps_ h)) (Lib.hid (ps_ h2)) w
set_option maxHeartbeats 1000000 in
theorem feqv_calls (s s2 : ByteArray) (w : World) :
    Calls Try.prog 29 #[.string s, .string s2] w fun e w' => e = .returned (.tuple #[.bool (feqv s s2).1, .bool (feqv s s2).2]) ∧ Below w.heap.size w w' := by
  have HC := Lib.hid (feqv_cmp s s2)
  go_enter Try.func29, Try.ntmps29
  go_wp2_with (go_at_call 50; (with_reducible refine (HC.out _).mono ?_); rintro e w1 ⟨rfl, hb1⟩)
  go_ret2
  exact ⟨rfl, hb1⟩
end Go.Proofs.Ytlhencchonhleaa.Man
