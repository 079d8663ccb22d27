-- Written by xprint.py (a program of this session's) out of the translation; Lean checks it.
import Derived.Test.YtlhencchonhleaaPrint0
import Derived.Test.YtlhencchonhleaaFnspecl22Parts
import Derived.Test.YtlhencchonhleaaFnspecl1Most
namespace Go.Proofs.Ytlhencchonhleaa.Print
open Go.RowKit Go.Proofs.YtlhencchonhleaaW.PrintWords Go.Proofs.YtlhencchonhleaaW.PrintLast Go.Proofs.YtlhencchonhleaaW.PrintMore
attribute [local go_sem] max2_int min2_int max_two min_two max_three min_three max_four min_four   -- for this text's walks alone
set_option linter.unusedVariables false
set_option linter.unusedSimpArgs false

/-! ### spec_l22Depth: function 41 -/
mutual
def spec_l22Depth.j0 : Nat → ByteArray → ByteArray → Bool → Option (Int)
  | 0, _, _, _ => none
  | k + 1, x4, x5, x18 => if x18 = true then ((spec_l22Depth.f k x4).bind fun t105 => ((spec_l22Depth.f k x5).bind fun t106 => ((spec_l1Most.f t105 t106).bind fun t107 => (some (wrap64 (t107 + 1)))))) else (some 0)
def spec_l22Depth.f : Nat → ByteArray → Option (Int)
  | 0, _ => none
  | k + 1, a0 => (spec_l22Parts.f k a0).bind fun bt101 => (if bt101.1 = 126 then ((spec_l22Depth.f k bt101.2.1).bind fun t104 => (some (wrap64 (t104 + 1)))) else (if bt101.1 = 38 then (spec_l22Depth.j0 k bt101.2.1 bt101.2.2 (bt101.1 == 38)) else (if bt101.1 = 124 then (spec_l22Depth.j0 k bt101.2.1 bt101.2.2 (bt101.1 == 124)) else (spec_l22Depth.j0 k bt101.2.1 bt101.2.2 (bt101.1 == 62)))))
end
theorem spec_l22Depth.mono_l : ∀ k, (∀ y0, LeO (spec_l22Depth.f k y0) (spec_l22Depth.f (k + 1) y0)) ∧ (∀ y0 y1 y2, LeO (spec_l22Depth.j0 k y0 y1 y2) (spec_l22Depth.j0 (k + 1) y0 y1 y2))
  | 0 => ⟨fun _ r h => by simp [spec_l22Depth.f] at h, fun _ _ _ r h => by simp [spec_l22Depth.j0] at h⟩
  | k + 1 => by
    obtain ⟨ih0, ih1⟩ := spec_l22Depth.mono_l k
    refine ⟨?_, ?_⟩
    · intro y0
      unfold spec_l22Depth.f
      repeat' first
      | (with_reducible exact ih0 _)
      | (with_reducible exact ih1 _ _ _)
      | (with_reducible exact spec_l22Parts.mono _ _)
      | (with_reducible exact LeO.refl _)
      | (with_reducible exact LeO.none _)
      | (with_reducible refine LeO.ite ?_ ?_)
      | (with_reducible refine LeO.bind ?_ (fun _ => ?_))
      | exact ih0 _
      | exact ih1 _ _ _
      | exact spec_l22Parts.mono _ _
      | exact LeO.none _
      | refine LeO.ite ?_ ?_
      | refine LeO.bind ?_ (fun _ => ?_)
    · intro y0 y1 y2
      unfold spec_l22Depth.j0
      repeat' first
      | (with_reducible exact ih0 _)
      | (with_reducible exact ih1 _ _ _)
      | (with_reducible exact spec_l22Parts.mono _ _)
      | (with_reducible exact LeO.refl _)
      | (with_reducible exact LeO.none _)
      | (with_reducible refine LeO.ite ?_ ?_)
      | (with_reducible refine LeO.bind ?_ (fun _ => ?_))
      | exact ih0 _
      | exact ih1 _ _ _
      | exact spec_l22Parts.mono _ _
      | exact LeO.none _
      | refine LeO.ite ?_ ?_
      | refine LeO.bind ?_ (fun _ => ?_)
theorem spec_l22Depth.mono : ∀ a0 k, LeO (spec_l22Depth.f k a0) (spec_l22Depth.f (k + 1) a0) := by
  intro a0 k
  obtain ⟨ih0, ih1⟩ := spec_l22Depth.mono_l k
  exact ih0 a0
set_option maxHeartbeats 8000000 in
set_option maxRecDepth 100000 in
theorem spec_l22Depth.calls (k : Nat) : ∀ (a0 : ByteArray) (r : Int) (w : World) (h : spec_l22Depth.f k a0 = some r),
    Calls Try.prog 41 #[.string a0] w fun e w' => e = .returned (.int .i64 r) ∧ Drawn0 w w' := by
  induction k using Nat.strongRecOn with
  | _ k ih =>
  intro a0 r w h
  cases k with
  | zero => exact absurd h (by simp [spec_l22Depth.f])
  | succ k =>
  simp only [spec_l22Depth.f] at h
  have H : ((spec_l22Parts.f k a0).bind fun bt101 => (if bt101.1 = 126 then ((spec_l22Depth.f k bt101.2.1).bind fun t104 => (some (wrap64 (t104 + 1)))) else (if bt101.1 = 38 then (spec_l22Depth.j0 k bt101.2.1 bt101.2.2 (bt101.1 == 38)) else (if bt101.1 = 124 then (spec_l22Depth.j0 k bt101.2.1 bt101.2.2 (bt101.1 == 124)) else (spec_l22Depth.j0 k bt101.2.1 bt101.2.2 (bt101.1 == 62)))))) = some r := h
  clear h
  replace H := Option.bind_eq_some_iff.mp H
  obtain ⟨⟨t101, t102, t103⟩, A20, H⟩ := H
  replace H : (if t101 = 126 then ((spec_l22Depth.f k t102).bind fun t104 => (some (wrap64 (t104 + 1)))) else (if t101 = 38 then (spec_l22Depth.j0 k t102 t103 (t101 == 38)) else (if t101 = 124 then (spec_l22Depth.j0 k t102 t103 (t101 == 124)) else (spec_l22Depth.j0 k t102 t103 (t101 == 62))))) = some r := H
  have A2 := Aside0.mk A20
  clear A20
  by_cases c3 : t101 = 126
  · rw [if_pos c3] at H
    have c3b0 : (t101 == 126) = true := beq_iff_eq.mpr c3
    have c3b1 : (t101 != 126) = false := bne_eq_false_iff_eq.mpr c3
    clear c3
    replace H := Option.bind_eq_some_iff.mp H
    obtain ⟨t104, A40, H⟩ := H
    replace H : (some (wrap64 (t104 + 1))) = some r := H
    have A4 := Aside0.mk A40
    clear A40
    obtain rfl := Option.some.inj H
    go_enter Try.func41, Try.ntmps41
    go_wp2_with (first | ((with_reducible refine gate_callee (f := 62) rfl ?_); refine goesL_ (some 8) rfl rfl Try.func62 (by kernel_rfl) rfl #[.string a0] rfl (by (try simp only [List.map_toArray, List.map_cons, List.map_nil]); first | done | rfl | (simp only [List.length_drop, List.length_take]; rfl)) ?_; (with_reducible refine (spec_l22Parts.calls k a0 t101 t102 t103 _ A2.out).mono ?_); rintro e w' ⟨rfl, ⟨nd, rfl⟩⟩; refine ⟨_, rfl, ?_⟩) | ((with_reducible refine gate_callee (f := 41) rfl ?_); refine goesL_ (some 16) rfl rfl Try.func41 (by kernel_rfl) rfl #[.string t102] rfl (by (try simp only [List.map_toArray, List.map_cons, List.map_nil]); first | done | rfl | (simp only [List.length_drop, List.length_take]; rfl)) ?_; (with_reducible refine (ih k (by omega) t102 t104 _ A4.out).mono ?_); rintro e w' ⟨rfl, ⟨nd, rfl⟩⟩; refine ⟨_, rfl, ?_⟩))
    go_ret
    exact ⟨by first | rfl | (simp; done) | (simp [*]; done), by repeat (first | exact Drawn0.refl _ | apply Drawn0.step)⟩
  · rw [if_neg c3] at H
    have c3b0 : (t101 == 126) = false := beq_eq_false_iff_ne.mpr c3
    have c3b1 : (t101 != 126) = true := bne_iff_ne.mpr c3
    have HC5 := Aside0.mk H
    clear H
    go_enter Try.func41, Try.ntmps41
    go_upto_if 18 with (first | ((with_reducible refine gate_callee (f := 62) rfl ?_); refine goesL_ (some 8) rfl rfl Try.func62 (by kernel_rfl) rfl #[.string a0] rfl (by (try simp only [List.map_toArray, List.map_cons, List.map_nil]); first | done | rfl | (simp only [List.length_drop, List.length_take]; rfl)) ?_; (with_reducible refine (spec_l22Parts.calls k a0 t101 t102 t103 _ A2.out).mono ?_); rintro e w' ⟨rfl, ⟨nd, rfl⟩⟩; refine ⟨_, rfl, ?_⟩))
    (try simp only [Act.put, List.setIfInBounds_toArray, List.set_cons_zero, List.set_cons_succ])
    go_cut [18] (fun v18 wc => ∃ (kq : Nat) (x18_4 : Bool), v18 = .bool x18_4 ∧ Aside0 (spec_l22Depth.j0 kq t102 t103 x18_4 = some r) ∧ Aside0 (kq ≤ k) ∧ Drawn0 w wc)
    case first =>
      have H := HC5.out
      clear HC5
      by_cases c6 : t101 = 38
      · rw [if_pos c6] at H
        have c6b0 : (t101 == 38) = true := beq_iff_eq.mpr c6
        have c6b1 : (t101 != 38) = false := bne_eq_false_iff_eq.mpr c6
        clear c6
        (first | rw [c6b0] | (simp only [i64_w, i32_w]; rw [c6b0]) | skip)
        have H' := Aside0.mk H
        clear H
        go_wp2
        go_meet
        case rel => exact ⟨_, ((t101 == 38)), (by first | rfl | (simp; done) | (simp [*]; done)), H', ⟨by first | omega | exact Nat.le_refl _⟩, by repeat (first | exact Drawn0.refl _ | apply Drawn0.step)⟩
      · rw [if_neg c6] at H
        have c6b0 : (t101 == 38) = false := beq_eq_false_iff_ne.mpr c6
        have c6b1 : (t101 != 38) = true := bne_iff_ne.mpr c6
        (first | rw [c6b0] | (simp only [i64_w, i32_w]; rw [c6b0]) | skip)
        by_cases c7 : t101 = 124
        · rw [if_pos c7] at H
          have c7b0 : (t101 == 124) = true := beq_iff_eq.mpr c7
          have c7b1 : (t101 != 124) = false := bne_eq_false_iff_eq.mpr c7
          clear c7
          have H' := Aside0.mk H
          clear H
          go_wp2
          go_meet
          case rel => exact ⟨_, ((t101 == 124)), (by first | rfl | (simp; done) | (simp [*]; done)), H', ⟨by first | omega | exact Nat.le_refl _⟩, by repeat (first | exact Drawn0.refl _ | apply Drawn0.step)⟩
        · rw [if_neg c7] at H
          have c7b0 : (t101 == 124) = false := beq_eq_false_iff_ne.mpr c7
          have c7b1 : (t101 != 124) = true := bne_iff_ne.mpr c7
          have H' := Aside0.mk H
          clear H
          go_wp2
          go_meet
          case rel => exact ⟨_, ((t101 == 62)), (by first | rfl | (simp; done) | (simp [*]; done)), H', ⟨by first | omega | exact Nat.le_refl _⟩, by repeat (first | exact Drawn0.refl _ | apply Drawn0.step)⟩
    case rest =>
      clear HC5
      try clear p2
      try clear c3
      try clear c3b0
      try clear c3b1
      try clear c4
      try clear c6
      try clear c6b0
      try clear c6b1
      try clear p6
      try clear c7
      try clear c7b0
      try clear c7b1
      obtain ⟨kq, x18_4, rfl, HA, HJ4, ⟨mc4, rfl⟩⟩ := hcut
      cases kq with
      | zero => exact absurd HA.out (by simp [spec_l22Depth.j0])
      | succ kj4 =>
        have H := HA.out
        clear HA
        simp only [spec_l22Depth.j0] at H
        by_cases c8 : x18_4 = true
        · subst c8
          have H1 : ((spec_l22Depth.f kj4 t102).bind fun t105 => ((spec_l22Depth.f kj4 t103).bind fun t106 => ((spec_l1Most.f t105 t106).bind fun t107 => (some (wrap64 (t107 + 1)))))) = some r := by rw [if_pos rfl] at H; exact H
          clear H
          have H := H1
          clear H1
          replace H := Option.bind_eq_some_iff.mp H
          obtain ⟨t105, A90, H⟩ := H
          replace H : ((spec_l22Depth.f kj4 t103).bind fun t106 => ((spec_l1Most.f t105 t106).bind fun t107 => (some (wrap64 (t107 + 1))))) = some r := H
          have A9 := Aside0.mk A90
          clear A90
          replace H := Option.bind_eq_some_iff.mp H
          obtain ⟨t106, A100, H⟩ := H
          replace H : ((spec_l1Most.f t105 t106).bind fun t107 => (some (wrap64 (t107 + 1)))) = some r := H
          have A10 := Aside0.mk A100
          clear A100
          replace H := Option.bind_eq_some_iff.mp H
          obtain ⟨t107, A110, H⟩ := H
          replace H : (some (wrap64 (t107 + 1))) = some r := H
          have A11 := Aside0.mk A110
          clear A110
          obtain rfl := Option.some.inj H
          go_wp2_with (first | ((with_reducible refine gate_callee (f := 41) rfl ?_); refine goesL_ (some 23) rfl rfl Try.func41 (by kernel_rfl) rfl #[.string t102] rfl (by (try simp only [List.map_toArray, List.map_cons, List.map_nil]); first | done | rfl | (simp only [List.length_drop, List.length_take]; rfl)) ?_; (with_reducible refine (ih kj4 (by have := HJ4.out; omega) t102 t105 _ A9.out).mono ?_); rintro e w' ⟨rfl, ⟨nd, rfl⟩⟩; refine ⟨_, rfl, ?_⟩) | ((with_reducible refine gate_callee (f := 41) rfl ?_); refine goesL_ (some 25) rfl rfl Try.func41 (by kernel_rfl) rfl #[.string t103] rfl (by (try simp only [List.map_toArray, List.map_cons, List.map_nil]); first | done | rfl | (simp only [List.length_drop, List.length_take]; rfl)) ?_; (with_reducible refine (ih kj4 (by have := HJ4.out; omega) t103 t106 _ A10.out).mono ?_); rintro e w' ⟨rfl, ⟨nd, rfl⟩⟩; refine ⟨_, rfl, ?_⟩) | ((with_reducible refine gate_callee (f := 63) rfl ?_); refine goesL_ (some 26) rfl rfl Try.func63 (by kernel_rfl) rfl #[.int .i64 t105, .int .i64 t106] rfl (by (try simp only [List.map_toArray, List.map_cons, List.map_nil]); first | done | rfl | (simp only [List.length_drop, List.length_take]; rfl)) ?_; (with_reducible refine (spec_l1Most.calls t105 t106 t107 _ A11.out).mono ?_); rintro e w' ⟨rfl, ⟨nd, rfl⟩⟩; refine ⟨_, rfl, ?_⟩))
          go_ret
          exact ⟨by first | rfl | (simp; done) | (simp [*]; done), by repeat (first | exact Drawn0.refl _ | apply Drawn0.step)⟩
        · replace c8 := Bool.eq_false_iff.mpr c8
          subst c8
          have H1 : (some 0) = some r := by rw [if_neg (show ¬ (false = true) by decide)] at H; exact H
          clear H
          have H := H1
          clear H1
          obtain rfl := Option.some.inj H
          go_wp2
          go_ret
          exact ⟨by first | rfl | (simp; done) | (simp [*]; done), by repeat (first | exact Drawn0.refl _ | apply Drawn0.step)⟩

end Go.Proofs.Ytlhencchonhleaa.Print
