/- Two formulas compared: the closures, firstFalse over them, and the two functions. Written by genJ (twice the same text, for the two relations). -/
import Derived.Test.YtlhencchonhleaaManJeqv
namespace Go.Proofs.Ytlhencchonhleaa.Man
open Go.RowKit Go.Proofs.YtlhencchonhleaaW.PrintWords Go.Proofs.YtlhencchonhleaaW.PrintLast Go.Proofs.YtlhencchonhleaaW.PrintMore Go.Proofs.Ytlhencchonhleaa.Fm Go.Proofs.Ytlhencchonhleaa.Print
set_option linter.unusedVariables false
set_option linter.unusedSimpArgs false
theorem cell_new_eqv (w : World) (v : Value) (t : Nat) : (w.alloc (Obj.cells #[v] t)).cell? ⟨w.heap.size, 0, none⟩ = some v := (blk_cell (by simpa using heap_alloc_new w _) 0).trans rfl

section
variable (s s2 : ByteArray)
set_option maxHeartbeats 1000000 in
theorem eqv_nn (HP : Hid (PN s)) (HQ : Hid (PN s2)) (w : World) :
    Calls Try.prog 50 #[.string s, .string s2, .func (.func 51) #[] #[]] w fun e w' => e = .returned (.tuple #[.bool false, .bool false]) ∧ Below w.heap.size w w' := by
  go_enter Try.func50, Try.ntmps50
  go_wp2_with (go_at_call 37; first | ((with_reducible refine (PN.use HP _).mono ?_); rintro e w1 ⟨hb1, rfl⟩) | ((with_reducible refine (PN.use HQ _).mono ?_); rintro e w2 ⟨hb2, rfl⟩))
  go_ret2
  exact ⟨rfl, below_alloc (chain (below_alloc (chain (below_alloc (Below.refl _ _) _) hb1) _) hb2) _⟩
set_option maxHeartbeats 1000000 in
theorem eqv_ns (t : Fm) (HP : Hid (PN s)) (HQ : Hid (PS s2 t)) (w : World) :
    Calls Try.prog 50 #[.string s, .string s2, .func (.func 51) #[] #[]] w fun e w' => e = .returned (.tuple #[.bool false, .bool false]) ∧ Below w.heap.size w w' := by
  go_enter Try.func50, Try.ntmps50
  go_wp2_with (go_at_call 37; first | ((with_reducible refine (PN.use HP _).mono ?_); rintro e w1 ⟨hb1, rfl⟩) | ((with_reducible refine (PS.use HQ _).mono ?_); rintro e w2 ⟨hb2, v2, rfl, hv2⟩; obtain ⟨b2, rfl⟩ := hv2.ptr; clear hv2))
  go_ret2
  exact ⟨rfl, below_alloc (chain (below_alloc (chain (below_alloc (Below.refl _ _) _) hb1) _) hb2) _⟩
set_option maxHeartbeats 1000000 in
theorem eqv_sn (t : Fm) (HP : Hid (PS s t)) (HQ : Hid (PN s2)) (w : World) :
    Calls Try.prog 50 #[.string s, .string s2, .func (.func 51) #[] #[]] w fun e w' => e = .returned (.tuple #[.bool false, .bool false]) ∧ Below w.heap.size w w' := by
  go_enter Try.func50, Try.ntmps50
  go_wp2_with (go_at_call 37; first | ((with_reducible refine (PS.use HP _).mono ?_); rintro e w1 ⟨hb1, v1, rfl, hv1⟩; obtain ⟨b1, rfl⟩ := hv1.ptr; clear hv1) | ((with_reducible refine (PN.use HQ _).mono ?_); rintro e w2 ⟨hb2, rfl⟩))
  go_ret2
  exact ⟨rfl, below_alloc (chain (below_alloc (chain (below_alloc (Below.refl _ _) _) hb1) _) hb2) _⟩
set_option maxHeartbeats 2000000 in
theorem eqv_ss (t u : Fm) (ht : Hid t.wf) (hu : Hid u.wf) (HP : Hid (PS s t)) (HQ : Hid (PS s2 u)) (w : World) :
    Calls Try.prog 50 #[.string s, .string s2, .func (.func 51) #[] #[]] w fun e w' => e = .returned (.tuple #[.bool (decide (ff (fun i => eqv_r (t.val i) (u.val i)) 64 0 < 0)), .bool true]) ∧ Below w.heap.size w w' := by
  have hmf : ∀ (fn : Fn) (first cap : Array Value) (w : World), (Instr.makeFunc fn first cap).run Try.prog w = .ok (.func fn first cap) w := fun _ _ _ _ => rfl
  obtain ⟨r, hr⟩ : ∃ r, Hid (ff (fun i => eqv_r (t.val i) (u.val i)) 64 0 = r) := ⟨_, Lib.hid rfl⟩
  rw [hr.out]
  go_enter Try.func50, Try.ntmps50
  go_wp2_with (first | (go_at_call 37; first | ((with_reducible refine (PS.use HP _).mono ?_); rintro e w1 ⟨hb1, v1, rfl, hv1⟩; obtain ⟨b1, rfl⟩ := hv1.ptr; have HV1 := Aside0.mk hv1; clear hv1) | ((with_reducible refine (PS.use HQ _).mono ?_); rintro e w2 ⟨hb2, v2, rfl, hv2⟩; obtain ⟨b2, rfl⟩ := hv2.ptr; have HV2 := Aside0.mk hv2; clear hv2; have HF := Lib.hid (eqv_ff _ _ _ _ _ (Lib.hid (eqv_clo (w2.alloc (Obj.cells #[Value.pointer (some ⟨b2, 0, none⟩)] 34)) w.heap.size w1.heap.size w2.heap.size _ _ _ _ (Lib.hid (va_ t _ _ ht.out (HV1.out.below (below_alloc (chain (below_alloc (Below.refl _ _) _) hb2) _)))) (Lib.hid (va_ u _ _ hu.out (HV2.out.below (below_alloc (Below.refl _ _) _)))) (pw_cell_below (chain (chain hb1 (below_alloc (Below.refl _ _) (Obj.cells #[Value.pointer (some ⟨b1, 0, none⟩)] 34))) (below_alloc hb2 _)) (cell_new_eqv w _ _)) (pw_cell_below (chain hb2 (below_alloc (Below.refl _ _) _)) (cell_new_eqv w1 _ _)) (cell_new_eqv w2 _ _)))); rw [hr.out] at HF)) | (go_at_call 48; (with_reducible refine (eqv_FF.use HF _ (Below.refl _ _)).mono ?_); rintro e w3 ⟨rfl, ⟨nd, rfl⟩⟩))
  go_ret2
  exact ⟨rfl, pw_below_drewN (below_alloc (chain (below_alloc (chain (below_alloc (Below.refl _ _) _) hb1) _) hb2) _) _⟩
end
end Go.Proofs.Ytlhencchonhleaa.Man
