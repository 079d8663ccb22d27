/- The form with signs: and, or. -/
import Derived.Test.YtlhencchonhleaaManF
namespace Go.Proofs.Ytlhencchonhleaa.Man
open Go.RowKit Go.Proofs.YtlhencchonhleaaW.PrintWords Go.Proofs.YtlhencchonhleaaW.PrintLast Go.Proofs.YtlhencchonhleaaW.PrintMore Go.Proofs.Ytlhencchonhleaa.Fm Go.Proofs.Ytlhencchonhleaa.Print
set_option linter.unusedVariables false
set_option linter.unusedSimpArgs false

section
variable (W : World) (b a c : Nat) (t u : Fm) (h1 : W.cell? ⟨b, 1, none⟩ = some (.pointer (some ⟨a, 0, none⟩))) (h2 : W.cell? ⟨b, 2, none⟩ = some (.pointer (some ⟨c, 0, none⟩)))
include h1 h2
set_option maxHeartbeats 2000000 in
theorem sg_both (p : Bool) (o : Int) (op : Int) (r : UInt8) (hc : (p = true ∧ o = 38 ∧ op = 38) ∨ (p = true ∧ o = 124 ∧ op = 124) ∨ (p = false ∧ o = 38 ∧ op = 124) ∨ (p = false ∧ o = 124 ∧ op = 38)) (h0 : W.cell? ⟨b, 0, none⟩ = some (.int .u8 o)) (IA : Hid (SC W (.pointer (some ⟨a, 0, none⟩)) p t)) (IC : Hid (SC W (.pointer (some ⟨c, 0, none⟩)) p u)) (HJ : Hid (JC op r t u)) :
    Calls Try.prog 55 #[.pointer (some ⟨b, 0, none⟩), .bool p] W fun e w' => Below W.heap.size W w' ∧ ∃ y, e = .returned y ∧ FAt w' (.bin r t u) y := by
  rcases hc with ⟨rfl, rfl, rfl⟩ | ⟨rfl, rfl, rfl⟩ | ⟨rfl, rfl, rfl⟩ | ⟨rfl, rfl, rfl⟩
  all_goals
    go_enter Try.func55, Try.ntmps55
    go_wp2_with fail
    go_region_with (first | (go_at_call 55; first | ((with_reducible refine (SC.use IA _ ?hb).mono ?_); (case hb => first | exact drewB _ | exact drewNB _ _); rintro e w1 ⟨hb1, u1, rfl, hu1⟩; have HU1 := Aside0.mk hu1; clear hu1; have h2a := pw_cell_below (chain (drewNB W _) hb1) h2) | ((with_reducible refine (SC.use IC _ ?hb).mono ?_); (case hb => exact chain (drewNB _ _) hb1); rintro e w2 ⟨hb2, u2, rfl, hu2⟩; have HU2 := Aside0.mk hu2; clear hu2)) | (go_at_call 67; (with_reducible refine (JC.use HJ _ _ _ (HU1.out.below hb2) HU2.out).mono ?_); rintro e w3 ⟨hb3, y, rfl, hy0⟩; have HY := Aside0.mk hy0; clear hy0))
    all_goals
      go_wp2_with fail
      go_ret
      exact ⟨chain (chain (chain (drewNB W _) hb1) hb2) hb3, y, rfl, HY.out⟩
end
end Go.Proofs.Ytlhencchonhleaa.Man
