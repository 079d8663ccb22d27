-- Written by xprint.py (a program of this session's) out of the translation; Lean checks it.
import Derived.Test.YtlhencchonhleaaPrint0
namespace Go.Proofs.Ytlhencchonhleaa.Print
open Go.RowKit Go.Proofs.YtlhencchonhleaaW.PrintWords Go.Proofs.YtlhencchonhleaaW.PrintLast Go.Proofs.YtlhencchonhleaaW.PrintMore
attribute [local go_sem] max2_int min2_int max_two min_two max_three min_three max_four min_four   -- for this text's walks alone
set_option linter.unusedVariables false
set_option linter.unusedSimpArgs false

/-! ### spec_l22End: function 59 -/
mutual
def spec_l22End.j0 : Nat → ByteArray → Int → Bool → Option (Int)
  | 0, _, _, _ => none
  | k + 1, x0, x1, x11 => if x11 = true then (some (wrap64 (x1 + 1))) else (if 0 ≤ x1 then (if x1 < (x0.size : Int) then (if (bt x0 x1) = 126 then ((spec_l22End.f k x0 (wrap64 (x1 + 1))).bind fun t101 => (some t101)) else (if (bt x0 x1) = 40 then ((spec_l22End.f k x0 (wrap64 (x1 + 1))).bind fun t102 => (if t102 < 0 then (spec_l22End.j1 k x0 t102 true) else (if t102 ≥ (x0.size : Int) then (spec_l22End.j1 k x0 t102 true) else (if 0 ≤ t102 then (if t102 < (x0.size : Int) then (if (bt x0 t102) = 38 then (spec_l22End.j1 k x0 t102 false) else (if (bt x0 t102) = 124 then (spec_l22End.j1 k x0 t102 false) else (spec_l22End.j1 k x0 t102 ((bt x0 t102) != 62)))) else (none)) else (none))))) else (some (-1)))) else (none)) else (none))
def spec_l22End.j1 : Nat → ByteArray → Int → Bool → Option (Int)
  | 0, _, _, _ => none
  | k + 1, x0, x5, x79 => if x79 = true then (some (-1)) else ((spec_l22End.f k x0 (wrap64 (x5 + 1))).bind fun t103 => (if t103 < 0 then (some (-1)) else (if t103 ≥ (x0.size : Int) then (some (-1)) else (if 0 ≤ t103 then (if t103 < (x0.size : Int) then (if (bt x0 t103) = 41 then (some (wrap64 (t103 + 1))) else (some (-1))) else (none)) else (none)))))
def spec_l22End.f : Nat → ByteArray → Int → Option (Int)
  | 0, _, _ => none
  | k + 1, a0, a1 => if a1 ≥ (a0.size : Int) then (some (-1)) else (if 0 ≤ a1 then (if a1 < (a0.size : Int) then (if (bt a0 a1) = 48 then (spec_l22End.j0 k a0 a1 true) else (if (bt a0 a1) = 49 then (spec_l22End.j0 k a0 a1 true) else (if (bt a0 a1) ≥ 97 then (spec_l22End.j0 k a0 a1 (decide ((bt a0 a1) ≤ 102))) else (spec_l22End.j0 k a0 a1 false)))) else (none)) else (none))
end
theorem spec_l22End.mono_l : ∀ k, (∀ y0 y1, LeO (spec_l22End.f k y0 y1) (spec_l22End.f (k + 1) y0 y1)) ∧ (∀ y0 y1 y2, LeO (spec_l22End.j0 k y0 y1 y2) (spec_l22End.j0 (k + 1) y0 y1 y2)) ∧ (∀ y0 y1 y2, LeO (spec_l22End.j1 k y0 y1 y2) (spec_l22End.j1 (k + 1) y0 y1 y2))
  | 0 => ⟨fun _ _ r h => by simp [spec_l22End.f] at h, fun _ _ _ r h => by simp [spec_l22End.j0] at h, fun _ _ _ r h => by simp [spec_l22End.j1] at h⟩
  | k + 1 => by
    obtain ⟨ih0, ih1, ih2⟩ := spec_l22End.mono_l k
    refine ⟨?_, ?_, ?_⟩
    · intro y0 y1
      unfold spec_l22End.f
      repeat' first
      | (with_reducible exact ih0 _ _)
      | (with_reducible exact ih1 _ _ _)
      | (with_reducible exact ih2 _ _ _)
      | (with_reducible exact LeO.refl _)
      | (with_reducible exact LeO.none _)
      | (with_reducible refine LeO.ite ?_ ?_)
      | (with_reducible refine LeO.bind ?_ (fun _ => ?_))
      | exact ih0 _ _
      | exact ih1 _ _ _
      | exact ih2 _ _ _
      | exact LeO.none _
      | refine LeO.ite ?_ ?_
      | refine LeO.bind ?_ (fun _ => ?_)
    · intro y0 y1 y2
      unfold spec_l22End.j0
      repeat' first
      | (with_reducible exact ih0 _ _)
      | (with_reducible exact ih1 _ _ _)
      | (with_reducible exact ih2 _ _ _)
      | (with_reducible exact LeO.refl _)
      | (with_reducible exact LeO.none _)
      | (with_reducible refine LeO.ite ?_ ?_)
      | (with_reducible refine LeO.bind ?_ (fun _ => ?_))
      | exact ih0 _ _
      | exact ih1 _ _ _
      | exact ih2 _ _ _
      | exact LeO.none _
      | refine LeO.ite ?_ ?_
      | refine LeO.bind ?_ (fun _ => ?_)
    · intro y0 y1 y2
      unfold spec_l22End.j1
      repeat' first
      | (with_reducible exact ih0 _ _)
      | (with_reducible exact ih1 _ _ _)
      | (with_reducible exact ih2 _ _ _)
      | (with_reducible exact LeO.refl _)
      | (with_reducible exact LeO.none _)
      | (with_reducible refine LeO.ite ?_ ?_)
      | (with_reducible refine LeO.bind ?_ (fun _ => ?_))
      | exact ih0 _ _
      | exact ih1 _ _ _
      | exact ih2 _ _ _
      | exact LeO.none _
      | refine LeO.ite ?_ ?_
      | refine LeO.bind ?_ (fun _ => ?_)
theorem spec_l22End.mono : ∀ a0 a1 k, LeO (spec_l22End.f k a0 a1) (spec_l22End.f (k + 1) a0 a1) := by
  intro a0 a1 k
  obtain ⟨ih0, ih1, ih2⟩ := spec_l22End.mono_l k
  exact ih0 a0 a1
set_option maxHeartbeats 8000000 in
set_option maxRecDepth 100000 in
theorem spec_l22End.calls (k : Nat) : ∀ (a0 : ByteArray) (a1 : Int) (r : Int) (w : World) (h : spec_l22End.f k a0 a1 = some r),
    Calls Try.prog 59 #[.string a0, .int .i64 a1] w fun e w' => e = .returned (.int .i64 r) ∧ Drawn0 w w' := by
  induction k using Nat.strongRecOn with
  | _ k ih =>
  intro a0 a1 r w h
  cases k with
  | zero => exact absurd h (by simp [spec_l22End.f])
  | succ k =>
  simp only [spec_l22End.f] at h
  have H : (if a1 ≥ (a0.size : Int) then (some (-1)) else (if 0 ≤ a1 then (if a1 < (a0.size : Int) then (if (bt a0 a1) = 48 then (spec_l22End.j0 k a0 a1 true) else (if (bt a0 a1) = 49 then (spec_l22End.j0 k a0 a1 true) else (if (bt a0 a1) ≥ 97 then (spec_l22End.j0 k a0 a1 (decide ((bt a0 a1) ≤ 102))) else (spec_l22End.j0 k a0 a1 false)))) else (none)) else (none))) = some r := h
  clear h
  by_cases c3 : a1 ≥ (a0.size : Int)
  · rw [if_pos c3] at H
    have c3b0 : decide ((a0.size : Int) ≤ a1) = true := decide_eq_true c3
    clear c3
    obtain rfl := Option.some.inj H
    go_enter Try.func59, Try.ntmps59
    go_wp2
    go_ret
    exact ⟨by first | rfl | (simp; done) | (simp [*]; done), by repeat (first | exact Drawn0.refl _ | apply Drawn0.step)⟩
  · rw [if_neg c3] at H
    have c3b0 : decide ((a0.size : Int) ≤ a1) = false := decide_eq_false c3
    clear c3
    have HC4 := Aside0.mk H
    clear H
    go_enter Try.func59, Try.ntmps59
    go_upto_region 3 with (fail)
    go_cut [11] (fun v11 wc => ∃ (kq : Nat) (x11_3 : Bool), v11 = .bool x11_3 ∧ Aside0 (spec_l22End.j0 kq a0 a1 x11_3 = some r) ∧ Aside0 (kq ≤ k) ∧ Drawn0 w wc)
    case first =>
      have H := HC4.out
      clear HC4
      by_cases c5 : 0 ≤ a1
      · rw [if_pos c5] at H
        have c5b0 : decide (0 ≤ a1) = true := decide_eq_true c5
        clear c5
        (first | rw [c5b0] | (simp only [i64_w, i32_w]; rw [c5b0]) | skip)
        by_cases c6 : a1 < (a0.size : Int)
        · rw [if_pos c6] at H
          have c6b0 : decide (a1 < (a0.size : Int)) = true := decide_eq_true c6
          clear c6
          by_cases c8 : (bt a0 a1) = 48
          · rw [if_pos c8] at H
            have c8b0 : ((bt a0 a1) == 48) = true := beq_iff_eq.mpr c8
            have c8b1 : ((bt a0 a1) != 48) = false := bne_eq_false_iff_eq.mpr c8
            clear c8
            have H' := Aside0.mk H
            clear H
            have p7 : 0 ≤ (a1 : Int) := of_decide_eq_true (by first | (with_reducible assumption) | assumption)
            have q7 : a1 < (a0.size : Int) := of_decide_eq_true (by first | (with_reducible assumption) | assumption)
            have hx7 := bt_at a0 a1
            replace p7 := eq_true p7
            replace q7 := eq_true q7
            go_wp2
            go_meet
            case rel => exact ⟨_, (true), (by first | rfl | (simp; done) | (simp [*]; done)), H', ⟨by first | omega | exact Nat.le_refl _⟩, by repeat (first | exact Drawn0.refl _ | apply Drawn0.step)⟩
          · rw [if_neg c8] at H
            have c8b0 : ((bt a0 a1) == 48) = false := beq_eq_false_iff_ne.mpr c8
            have c8b1 : ((bt a0 a1) != 48) = true := bne_iff_ne.mpr c8
            by_cases c10 : (bt a0 a1) = 49
            · rw [if_pos c10] at H
              have c10b0 : ((bt a0 a1) == 49) = true := beq_iff_eq.mpr c10
              have c10b1 : ((bt a0 a1) != 49) = false := bne_eq_false_iff_eq.mpr c10
              clear c10
              have H' := Aside0.mk H
              clear H
              have p7 : 0 ≤ (a1 : Int) := of_decide_eq_true (by first | (with_reducible assumption) | assumption)
              have q7 : a1 < (a0.size : Int) := of_decide_eq_true (by first | (with_reducible assumption) | assumption)
              have hx7 := bt_at a0 a1
              replace p7 := eq_true p7
              replace q7 := eq_true q7
              have p9 : 0 ≤ (a1 : Int) := of_decide_eq_true (by first | (with_reducible assumption) | assumption)
              have q9 : a1 < (a0.size : Int) := of_decide_eq_true (by first | (with_reducible assumption) | assumption)
              have hx9 := bt_at a0 a1
              replace p9 := eq_true p9
              replace q9 := eq_true q9
              go_wp2
              go_meet
              case rel => exact ⟨_, (true), (by first | rfl | (simp; done) | (simp [*]; done)), H', ⟨by first | omega | exact Nat.le_refl _⟩, by repeat (first | exact Drawn0.refl _ | apply Drawn0.step)⟩
            · rw [if_neg c10] at H
              have c10b0 : ((bt a0 a1) == 49) = false := beq_eq_false_iff_ne.mpr c10
              have c10b1 : ((bt a0 a1) != 49) = true := bne_iff_ne.mpr c10
              by_cases c12 : (bt a0 a1) ≥ 97
              · rw [if_pos c12] at H
                have c12b0 : decide (97 ≤ (bt a0 a1)) = true := decide_eq_true c12
                clear c12
                have H' := Aside0.mk H
                clear H
                have p7 : 0 ≤ (a1 : Int) := of_decide_eq_true (by first | (with_reducible assumption) | assumption)
                have q7 : a1 < (a0.size : Int) := of_decide_eq_true (by first | (with_reducible assumption) | assumption)
                have hx7 := bt_at a0 a1
                replace p7 := eq_true p7
                replace q7 := eq_true q7
                have p9 : 0 ≤ (a1 : Int) := of_decide_eq_true (by first | (with_reducible assumption) | assumption)
                have q9 : a1 < (a0.size : Int) := of_decide_eq_true (by first | (with_reducible assumption) | assumption)
                have hx9 := bt_at a0 a1
                replace p9 := eq_true p9
                replace q9 := eq_true q9
                have p11 : 0 ≤ (a1 : Int) := of_decide_eq_true (by first | (with_reducible assumption) | assumption)
                have q11 : a1 < (a0.size : Int) := of_decide_eq_true (by first | (with_reducible assumption) | assumption)
                have hx11 := bt_at a0 a1
                replace p11 := eq_true p11
                replace q11 := eq_true q11
                have p13 : 0 ≤ (a1 : Int) := of_decide_eq_true (by first | (with_reducible assumption) | assumption)
                have q13 : a1 < (a0.size : Int) := of_decide_eq_true (by first | (with_reducible assumption) | assumption)
                have hx13 := bt_at a0 a1
                replace p13 := eq_true p13
                replace q13 := eq_true q13
                go_wp2
                go_meet
                case rel => exact ⟨_, (decide ((bt a0 a1) ≤ 102)), (by first | rfl | (simp; done) | (simp [*]; done)), H', ⟨by first | omega | exact Nat.le_refl _⟩, by repeat (first | exact Drawn0.refl _ | apply Drawn0.step)⟩
              · rw [if_neg c12] at H
                have c12b0 : decide (97 ≤ (bt a0 a1)) = false := decide_eq_false c12
                clear c12
                have H' := Aside0.mk H
                clear H
                have p7 : 0 ≤ (a1 : Int) := of_decide_eq_true (by first | (with_reducible assumption) | assumption)
                have q7 : a1 < (a0.size : Int) := of_decide_eq_true (by first | (with_reducible assumption) | assumption)
                have hx7 := bt_at a0 a1
                replace p7 := eq_true p7
                replace q7 := eq_true q7
                have p9 : 0 ≤ (a1 : Int) := of_decide_eq_true (by first | (with_reducible assumption) | assumption)
                have q9 : a1 < (a0.size : Int) := of_decide_eq_true (by first | (with_reducible assumption) | assumption)
                have hx9 := bt_at a0 a1
                replace p9 := eq_true p9
                replace q9 := eq_true q9
                have p11 : 0 ≤ (a1 : Int) := of_decide_eq_true (by first | (with_reducible assumption) | assumption)
                have q11 : a1 < (a0.size : Int) := of_decide_eq_true (by first | (with_reducible assumption) | assumption)
                have hx11 := bt_at a0 a1
                replace p11 := eq_true p11
                replace q11 := eq_true q11
                go_wp2
                go_meet
                case rel => exact ⟨_, (false), (by first | rfl | (simp; done) | (simp [*]; done)), H', ⟨by first | omega | exact Nat.le_refl _⟩, by repeat (first | exact Drawn0.refl _ | apply Drawn0.step)⟩
        · rw [if_neg c6] at H
          exact absurd H (by simp)
      · rw [if_neg c5] at H
        exact absurd H (by simp)
    case rest =>
      clear HC4
      try clear c1
      try clear p1
      try clear q1
      try clear hx1
      try clear p2
      try clear c3
      try clear c3b0
      try clear c5
      try clear c5b0
      try clear c6
      try clear c6b0
      try clear p7
      try clear q7
      try clear hx7
      try clear c8
      try clear c8b0
      try clear c8b1
      try clear p9
      try clear q9
      try clear hx9
      try clear c10
      try clear c10b0
      try clear c10b1
      try clear p11
      try clear q11
      try clear hx11
      try clear c12
      try clear c12b0
      try clear p13
      try clear q13
      try clear hx13
      try clear p11
      try clear p13
      try clear p7
      try clear p9
      try clear q11
      try clear q13
      try clear q7
      try clear q9
      obtain ⟨kq, x11_3, rfl, HA, HJ3, ⟨mc3, rfl⟩⟩ := hcut
      cases kq with
      | zero => exact absurd HA.out (by simp [spec_l22End.j0])
      | succ kj3 =>
        have H := HA.out
        clear HA
        simp only [spec_l22End.j0] at H
        by_cases c14 : x11_3 = true
        · subst c14
          have H1 : (some (wrap64 (a1 + 1))) = some r := by rw [if_pos rfl] at H; exact H
          clear H
          have H := H1
          clear H1
          obtain rfl := Option.some.inj H
          go_wp2
          go_ret
          exact ⟨by first | rfl | (simp; done) | (simp [*]; done), by repeat (first | exact Drawn0.refl _ | apply Drawn0.step)⟩
        · replace c14 := Bool.eq_false_iff.mpr c14
          subst c14
          have H1 : (if 0 ≤ a1 then (if a1 < (a0.size : Int) then (if (bt a0 a1) = 126 then ((spec_l22End.f kj3 a0 (wrap64 (a1 + 1))).bind fun t101 => (some t101)) else (if (bt a0 a1) = 40 then ((spec_l22End.f kj3 a0 (wrap64 (a1 + 1))).bind fun t102 => (if t102 < 0 then (spec_l22End.j1 kj3 a0 t102 true) else (if t102 ≥ (a0.size : Int) then (spec_l22End.j1 kj3 a0 t102 true) else (if 0 ≤ t102 then (if t102 < (a0.size : Int) then (if (bt a0 t102) = 38 then (spec_l22End.j1 kj3 a0 t102 false) else (if (bt a0 t102) = 124 then (spec_l22End.j1 kj3 a0 t102 false) else (spec_l22End.j1 kj3 a0 t102 ((bt a0 t102) != 62)))) else (none)) else (none))))) else (some (-1)))) else (none)) else (none)) = some r := by rw [if_neg (show ¬ (false = true) by decide)] at H; exact H
          clear H
          have H := H1
          clear H1
          by_cases c15 : 0 ≤ a1
          · rw [if_pos c15] at H
            have c15b0 : decide (0 ≤ a1) = true := decide_eq_true c15
            clear c15
            by_cases c16 : a1 < (a0.size : Int)
            · rw [if_pos c16] at H
              have c16b0 : decide (a1 < (a0.size : Int)) = true := decide_eq_true c16
              clear c16
              by_cases c18 : (bt a0 a1) = 126
              · rw [if_pos c18] at H
                have c18b0 : ((bt a0 a1) == 126) = true := beq_iff_eq.mpr c18
                have c18b1 : ((bt a0 a1) != 126) = false := bne_eq_false_iff_eq.mpr c18
                clear c18
                replace H := Option.bind_eq_some_iff.mp H
                obtain ⟨t101, A190, H⟩ := H
                replace H : (some t101) = some r := H
                have A19 := Aside0.mk A190
                clear A190
                obtain rfl := Option.some.inj H
                have p17 : 0 ≤ (a1 : Int) := of_decide_eq_true (by first | (with_reducible assumption) | assumption)
                have q17 : a1 < (a0.size : Int) := of_decide_eq_true (by first | (with_reducible assumption) | assumption)
                have hx17 := bt_at a0 a1
                replace p17 := eq_true p17
                replace q17 := eq_true q17
                go_wp2_with (first | ((with_reducible refine gate_callee (f := 59) rfl ?_); refine goesL_ (some 44) rfl rfl Try.func59 (by kernel_rfl) rfl #[.string a0, .int .i64 (wrap64 (a1 + 1))] rfl (by (try simp only [List.map_toArray, List.map_cons, List.map_nil]); first | done | rfl | (simp only [List.length_drop, List.length_take]; rfl)) ?_; (with_reducible refine (ih kj3 (by have := HJ3.out; omega) a0 (wrap64 (a1 + 1)) t101 _ A19.out).mono ?_); rintro e w' ⟨rfl, ⟨nd, rfl⟩⟩; refine ⟨_, rfl, ?_⟩))
                go_ret
                exact ⟨by first | rfl | (simp; done) | (simp [*]; done), by repeat (first | exact Drawn0.refl _ | apply Drawn0.step)⟩
              · rw [if_neg c18] at H
                have c18b0 : ((bt a0 a1) == 126) = false := beq_eq_false_iff_ne.mpr c18
                have c18b1 : ((bt a0 a1) != 126) = true := bne_iff_ne.mpr c18
                by_cases c21 : (bt a0 a1) = 40
                · rw [if_pos c21] at H
                  have c21b0 : ((bt a0 a1) == 40) = true := beq_iff_eq.mpr c21
                  have c21b1 : ((bt a0 a1) != 40) = false := bne_eq_false_iff_eq.mpr c21
                  clear c21
                  replace H := Option.bind_eq_some_iff.mp H
                  obtain ⟨t102, A220, H⟩ := H
                  replace H : (if t102 < 0 then (spec_l22End.j1 kj3 a0 t102 true) else (if t102 ≥ (a0.size : Int) then (spec_l22End.j1 kj3 a0 t102 true) else (if 0 ≤ t102 then (if t102 < (a0.size : Int) then (if (bt a0 t102) = 38 then (spec_l22End.j1 kj3 a0 t102 false) else (if (bt a0 t102) = 124 then (spec_l22End.j1 kj3 a0 t102 false) else (spec_l22End.j1 kj3 a0 t102 ((bt a0 t102) != 62)))) else (none)) else (none)))) = some r := H
                  have A22 := Aside0.mk A220
                  clear A220
                  have HC23 := Aside0.mk H
                  clear H
                  have p17 : 0 ≤ (a1 : Int) := of_decide_eq_true (by first | (with_reducible assumption) | assumption)
                  have q17 : a1 < (a0.size : Int) := of_decide_eq_true (by first | (with_reducible assumption) | assumption)
                  have hx17 := bt_at a0 a1
                  replace p17 := eq_true p17
                  replace q17 := eq_true q17
                  have p20 : 0 ≤ (a1 : Int) := of_decide_eq_true (by first | (with_reducible assumption) | assumption)
                  have q20 : a1 < (a0.size : Int) := of_decide_eq_true (by first | (with_reducible assumption) | assumption)
                  have hx20 := bt_at a0 a1
                  replace p20 := eq_true p20
                  replace q20 := eq_true q20
                  go_upto_region 10 with (first | ((with_reducible refine gate_callee (f := 59) rfl ?_); refine goesL_ (some 53) rfl rfl Try.func59 (by kernel_rfl) rfl #[.string a0, .int .i64 (wrap64 (a1 + 1))] rfl (by (try simp only [List.map_toArray, List.map_cons, List.map_nil]); first | done | rfl | (simp only [List.length_drop, List.length_take]; rfl)) ?_; (with_reducible refine (ih kj3 (by have := HJ3.out; omega) a0 (wrap64 (a1 + 1)) t102 _ A22.out).mono ?_); rintro e w' ⟨rfl, ⟨nd, rfl⟩⟩; refine ⟨_, rfl, ?_⟩))
                  (try simp only [Act.put, List.setIfInBounds_toArray, List.set_cons_zero, List.set_cons_succ])
                  go_cut [79] (fun v79 wc => ∃ (kq : Nat) (x79_22 : Bool), v79 = .bool x79_22 ∧ Aside0 (spec_l22End.j1 kq a0 t102 x79_22 = some r) ∧ Aside0 (kq ≤ kj3) ∧ Drawn0 w wc)
                  case first =>
                    have H := HC23.out
                    clear HC23
                    by_cases c24 : t102 < 0
                    · rw [if_pos c24] at H
                      have c24b0 : decide (t102 < 0) = true := decide_eq_true c24
                      clear c24
                      (first | rw [c24b0] | (simp only [i64_w, i32_w]; rw [c24b0]) | skip)
                      have H' := Aside0.mk H
                      clear H
                      go_wp2
                      go_meet
                      case rel => exact ⟨_, (true), (by first | rfl | (simp; done) | (simp [*]; done)), H', ⟨by have := HJ3.out; first | omega | exact Nat.le_refl _⟩, by repeat (first | exact Drawn0.refl _ | apply Drawn0.step)⟩
                    · rw [if_neg c24] at H
                      have c24b0 : decide (t102 < 0) = false := decide_eq_false c24
                      clear c24
                      (first | rw [c24b0] | (simp only [i64_w, i32_w]; rw [c24b0]) | skip)
                      by_cases c25 : t102 ≥ (a0.size : Int)
                      · rw [if_pos c25] at H
                        have c25b0 : decide ((a0.size : Int) ≤ t102) = true := decide_eq_true c25
                        clear c25
                        have H' := Aside0.mk H
                        clear H
                        go_wp2
                        go_meet
                        case rel => exact ⟨_, (true), (by first | rfl | (simp; done) | (simp [*]; done)), H', ⟨by have := HJ3.out; first | omega | exact Nat.le_refl _⟩, by repeat (first | exact Drawn0.refl _ | apply Drawn0.step)⟩
                      · rw [if_neg c25] at H
                        have c25b0 : decide ((a0.size : Int) ≤ t102) = false := decide_eq_false c25
                        clear c25
                        by_cases c26 : 0 ≤ t102
                        · rw [if_pos c26] at H
                          have c26b0 : decide (0 ≤ t102) = true := decide_eq_true c26
                          clear c26
                          by_cases c27 : t102 < (a0.size : Int)
                          · rw [if_pos c27] at H
                            have c27b0 : decide (t102 < (a0.size : Int)) = true := decide_eq_true c27
                            clear c27
                            by_cases c29 : (bt a0 t102) = 38
                            · rw [if_pos c29] at H
                              have c29b0 : ((bt a0 t102) == 38) = true := beq_iff_eq.mpr c29
                              have c29b1 : ((bt a0 t102) != 38) = false := bne_eq_false_iff_eq.mpr c29
                              clear c29
                              have H' := Aside0.mk H
                              clear H
                              have p28 : 0 ≤ (t102 : Int) := of_decide_eq_true (by first | (with_reducible assumption) | assumption)
                              have q28 : t102 < (a0.size : Int) := of_decide_eq_true (by first | (with_reducible assumption) | assumption)
                              have hx28 := bt_at a0 t102
                              replace p28 := eq_true p28
                              replace q28 := eq_true q28
                              go_wp2
                              go_meet
                              case rel => exact ⟨_, (false), (by first | rfl | (simp; done) | (simp [*]; done)), H', ⟨by have := HJ3.out; first | omega | exact Nat.le_refl _⟩, by repeat (first | exact Drawn0.refl _ | apply Drawn0.step)⟩
                            · rw [if_neg c29] at H
                              have c29b0 : ((bt a0 t102) == 38) = false := beq_eq_false_iff_ne.mpr c29
                              have c29b1 : ((bt a0 t102) != 38) = true := bne_iff_ne.mpr c29
                              by_cases c31 : (bt a0 t102) = 124
                              · rw [if_pos c31] at H
                                have c31b0 : ((bt a0 t102) == 124) = true := beq_iff_eq.mpr c31
                                have c31b1 : ((bt a0 t102) != 124) = false := bne_eq_false_iff_eq.mpr c31
                                clear c31
                                have H' := Aside0.mk H
                                clear H
                                have p28 : 0 ≤ (t102 : Int) := of_decide_eq_true (by first | (with_reducible assumption) | assumption)
                                have q28 : t102 < (a0.size : Int) := of_decide_eq_true (by first | (with_reducible assumption) | assumption)
                                have hx28 := bt_at a0 t102
                                replace p28 := eq_true p28
                                replace q28 := eq_true q28
                                have p30 : 0 ≤ (t102 : Int) := of_decide_eq_true (by first | (with_reducible assumption) | assumption)
                                have q30 : t102 < (a0.size : Int) := of_decide_eq_true (by first | (with_reducible assumption) | assumption)
                                have hx30 := bt_at a0 t102
                                replace p30 := eq_true p30
                                replace q30 := eq_true q30
                                go_wp2
                                go_meet
                                case rel => exact ⟨_, (false), (by first | rfl | (simp; done) | (simp [*]; done)), H', ⟨by have := HJ3.out; first | omega | exact Nat.le_refl _⟩, by repeat (first | exact Drawn0.refl _ | apply Drawn0.step)⟩
                              · rw [if_neg c31] at H
                                have c31b0 : ((bt a0 t102) == 124) = false := beq_eq_false_iff_ne.mpr c31
                                have c31b1 : ((bt a0 t102) != 124) = true := bne_iff_ne.mpr c31
                                have H' := Aside0.mk H
                                clear H
                                have p28 : 0 ≤ (t102 : Int) := of_decide_eq_true (by first | (with_reducible assumption) | assumption)
                                have q28 : t102 < (a0.size : Int) := of_decide_eq_true (by first | (with_reducible assumption) | assumption)
                                have hx28 := bt_at a0 t102
                                replace p28 := eq_true p28
                                replace q28 := eq_true q28
                                have p30 : 0 ≤ (t102 : Int) := of_decide_eq_true (by first | (with_reducible assumption) | assumption)
                                have q30 : t102 < (a0.size : Int) := of_decide_eq_true (by first | (with_reducible assumption) | assumption)
                                have hx30 := bt_at a0 t102
                                replace p30 := eq_true p30
                                replace q30 := eq_true q30
                                have p32 : 0 ≤ (t102 : Int) := of_decide_eq_true (by first | (with_reducible assumption) | assumption)
                                have q32 : t102 < (a0.size : Int) := of_decide_eq_true (by first | (with_reducible assumption) | assumption)
                                have hx32 := bt_at a0 t102
                                replace p32 := eq_true p32
                                replace q32 := eq_true q32
                                go_wp2
                                go_meet
                                case rel => exact ⟨_, (((bt a0 t102) != 62)), (by first | rfl | (simp; done) | (simp [*]; done)), H', ⟨by have := HJ3.out; first | omega | exact Nat.le_refl _⟩, by repeat (first | exact Drawn0.refl _ | apply Drawn0.step)⟩
                          · rw [if_neg c27] at H
                            exact absurd H (by simp)
                        · rw [if_neg c26] at H
                          exact absurd H (by simp)
                  case rest =>
                    clear HC23
                    try clear c1
                    try clear p1
                    try clear q1
                    try clear hx1
                    try clear c2
                    try clear p2
                    try clear q2
                    try clear hx2
                    try clear c3
                    try clear c3b0
                    try clear p3
                    try clear q3
                    try clear hx3
                    try clear c5
                    try clear c5b0
                    try clear c6
                    try clear c6b0
                    try clear p6
                    try clear p7
                    try clear q7
                    try clear hx7
                    try clear c8
                    try clear c8b0
                    try clear c8b1
                    try clear p9
                    try clear q9
                    try clear hx9
                    try clear c10
                    try clear c10b0
                    try clear c10b1
                    try clear p11
                    try clear q11
                    try clear hx11
                    try clear c12
                    try clear c12b0
                    try clear p13
                    try clear q13
                    try clear hx13
                    try clear c14
                    try clear c15
                    try clear c15b0
                    try clear c16
                    try clear c16b0
                    try clear p17
                    try clear q17
                    try clear hx17
                    try clear c18
                    try clear c18b0
                    try clear c18b1
                    try clear p20
                    try clear q20
                    try clear hx20
                    try clear c21
                    try clear c21b0
                    try clear c21b1
                    try clear c24
                    try clear c24b0
                    try clear c25
                    try clear c25b0
                    try clear c26
                    try clear c26b0
                    try clear c27
                    try clear c27b0
                    try clear p28
                    try clear q28
                    try clear hx28
                    try clear c29
                    try clear c29b0
                    try clear c29b1
                    try clear p30
                    try clear q30
                    try clear hx30
                    try clear c31
                    try clear c31b0
                    try clear c31b1
                    try clear p32
                    try clear q32
                    try clear hx32
                    try clear p1
                    try clear p11
                    try clear p13
                    try clear p17
                    try clear p2
                    try clear p20
                    try clear p28
                    try clear p30
                    try clear p32
                    try clear p7
                    try clear p9
                    try clear q1
                    try clear q11
                    try clear q13
                    try clear q17
                    try clear q20
                    try clear q28
                    try clear q30
                    try clear q32
                    try clear q7
                    try clear q9
                    obtain ⟨kq, x79_22, rfl, HA, HJ22, ⟨mc22, rfl⟩⟩ := hcut
                    cases kq with
                    | zero => exact absurd HA.out (by simp [spec_l22End.j1])
                    | succ kj22 =>
                      have H := HA.out
                      clear HA
                      simp only [spec_l22End.j1] at H
                      by_cases c33 : x79_22 = true
                      · subst c33
                        have H1 : (some (-1)) = some r := by rw [if_pos rfl] at H; exact H
                        clear H
                        have H := H1
                        clear H1
                        obtain rfl := Option.some.inj H
                        go_wp2
                        go_ret
                        exact ⟨by first | rfl | (simp; done) | (simp [*]; done), by repeat (first | exact Drawn0.refl _ | apply Drawn0.step)⟩
                      · replace c33 := Bool.eq_false_iff.mpr c33
                        subst c33
                        have H1 : ((spec_l22End.f kj22 a0 (wrap64 (t102 + 1))).bind fun t103 => (if t103 < 0 then (some (-1)) else (if t103 ≥ (a0.size : Int) then (some (-1)) else (if 0 ≤ t103 then (if t103 < (a0.size : Int) then (if (bt a0 t103) = 41 then (some (wrap64 (t103 + 1))) else (some (-1))) else (none)) else (none))))) = some r := by rw [if_neg (show ¬ (false = true) by decide)] at H; exact H
                        clear H
                        have H := H1
                        clear H1
                        replace H := Option.bind_eq_some_iff.mp H
                        obtain ⟨t103, A340, H⟩ := H
                        replace H : (if t103 < 0 then (some (-1)) else (if t103 ≥ (a0.size : Int) then (some (-1)) else (if 0 ≤ t103 then (if t103 < (a0.size : Int) then (if (bt a0 t103) = 41 then (some (wrap64 (t103 + 1))) else (some (-1))) else (none)) else (none)))) = some r := H
                        have A34 := Aside0.mk A340
                        clear A340
                        by_cases c35 : t103 < 0
                        · rw [if_pos c35] at H
                          have c35b0 : decide (t103 < 0) = true := decide_eq_true c35
                          clear c35
                          obtain rfl := Option.some.inj H
                          go_wp2_with (first | ((with_reducible refine gate_callee (f := 59) rfl ?_); refine goesL_ (some 83) rfl rfl Try.func59 (by kernel_rfl) rfl #[.string a0, .int .i64 (wrap64 (t102 + 1))] rfl (by (try simp only [List.map_toArray, List.map_cons, List.map_nil]); first | done | rfl | (simp only [List.length_drop, List.length_take]; rfl)) ?_; (with_reducible refine (ih kj22 (by have := HJ3.out; have := HJ22.out; omega) a0 (wrap64 (t102 + 1)) t103 _ A34.out).mono ?_); rintro e w' ⟨rfl, ⟨nd, rfl⟩⟩; refine ⟨_, rfl, ?_⟩))
                          go_ret
                          exact ⟨by first | rfl | (simp; done) | (simp [*]; done), by repeat (first | exact Drawn0.refl _ | apply Drawn0.step)⟩
                        · rw [if_neg c35] at H
                          have c35b0 : decide (t103 < 0) = false := decide_eq_false c35
                          clear c35
                          by_cases c36 : t103 ≥ (a0.size : Int)
                          · rw [if_pos c36] at H
                            have c36b0 : decide ((a0.size : Int) ≤ t103) = true := decide_eq_true c36
                            clear c36
                            obtain rfl := Option.some.inj H
                            go_wp2_with (first | ((with_reducible refine gate_callee (f := 59) rfl ?_); refine goesL_ (some 83) rfl rfl Try.func59 (by kernel_rfl) rfl #[.string a0, .int .i64 (wrap64 (t102 + 1))] rfl (by (try simp only [List.map_toArray, List.map_cons, List.map_nil]); first | done | rfl | (simp only [List.length_drop, List.length_take]; rfl)) ?_; (with_reducible refine (ih kj22 (by have := HJ3.out; have := HJ22.out; omega) a0 (wrap64 (t102 + 1)) t103 _ A34.out).mono ?_); rintro e w' ⟨rfl, ⟨nd, rfl⟩⟩; refine ⟨_, rfl, ?_⟩))
                            go_ret
                            exact ⟨by first | rfl | (simp; done) | (simp [*]; done), by repeat (first | exact Drawn0.refl _ | apply Drawn0.step)⟩
                          · rw [if_neg c36] at H
                            have c36b0 : decide ((a0.size : Int) ≤ t103) = false := decide_eq_false c36
                            clear c36
                            by_cases c37 : 0 ≤ t103
                            · rw [if_pos c37] at H
                              have c37b0 : decide (0 ≤ t103) = true := decide_eq_true c37
                              clear c37
                              by_cases c38 : t103 < (a0.size : Int)
                              · rw [if_pos c38] at H
                                have c38b0 : decide (t103 < (a0.size : Int)) = true := decide_eq_true c38
                                clear c38
                                by_cases c40 : (bt a0 t103) = 41
                                · rw [if_pos c40] at H
                                  have c40b0 : ((bt a0 t103) == 41) = true := beq_iff_eq.mpr c40
                                  have c40b1 : ((bt a0 t103) != 41) = false := bne_eq_false_iff_eq.mpr c40
                                  clear c40
                                  obtain rfl := Option.some.inj H
                                  go_wp2_with (first | ((with_reducible refine gate_callee (f := 59) rfl ?_); refine goesL_ (some 83) rfl rfl Try.func59 (by kernel_rfl) rfl #[.string a0, .int .i64 (wrap64 (t102 + 1))] rfl (by (try simp only [List.map_toArray, List.map_cons, List.map_nil]); first | done | rfl | (simp only [List.length_drop, List.length_take]; rfl)) ?_; (with_reducible refine (ih kj22 (by have := HJ3.out; have := HJ22.out; omega) a0 (wrap64 (t102 + 1)) t103 _ A34.out).mono ?_); rintro e w' ⟨rfl, ⟨nd, rfl⟩⟩; refine ⟨_, rfl, ?_⟩; have p39 : 0 ≤ (t103 : Int) := of_decide_eq_true (by first | (with_reducible assumption) | assumption); have q39 : t103 < (a0.size : Int) := of_decide_eq_true (by first | (with_reducible assumption) | assumption); have hx39 := bt_at a0 t103; replace p39 := eq_true p39; replace q39 := eq_true q39))
                                  go_ret
                                  exact ⟨by first | rfl | (simp; done) | (simp [*]; done), by repeat (first | exact Drawn0.refl _ | apply Drawn0.step)⟩
                                · rw [if_neg c40] at H
                                  have c40b0 : ((bt a0 t103) == 41) = false := beq_eq_false_iff_ne.mpr c40
                                  have c40b1 : ((bt a0 t103) != 41) = true := bne_iff_ne.mpr c40
                                  obtain rfl := Option.some.inj H
                                  go_wp2_with (first | ((with_reducible refine gate_callee (f := 59) rfl ?_); refine goesL_ (some 83) rfl rfl Try.func59 (by kernel_rfl) rfl #[.string a0, .int .i64 (wrap64 (t102 + 1))] rfl (by (try simp only [List.map_toArray, List.map_cons, List.map_nil]); first | done | rfl | (simp only [List.length_drop, List.length_take]; rfl)) ?_; (with_reducible refine (ih kj22 (by have := HJ3.out; have := HJ22.out; omega) a0 (wrap64 (t102 + 1)) t103 _ A34.out).mono ?_); rintro e w' ⟨rfl, ⟨nd, rfl⟩⟩; refine ⟨_, rfl, ?_⟩; have p39 : 0 ≤ (t103 : Int) := of_decide_eq_true (by first | (with_reducible assumption) | assumption); have q39 : t103 < (a0.size : Int) := of_decide_eq_true (by first | (with_reducible assumption) | assumption); have hx39 := bt_at a0 t103; replace p39 := eq_true p39; replace q39 := eq_true q39))
                                  go_ret
                                  exact ⟨by first | rfl | (simp; done) | (simp [*]; done), by repeat (first | exact Drawn0.refl _ | apply Drawn0.step)⟩
                              · rw [if_neg c38] at H
                                exact absurd H (by simp)
                            · rw [if_neg c37] at H
                              exact absurd H (by simp)
                · rw [if_neg c21] at H
                  have c21b0 : ((bt a0 a1) == 40) = false := beq_eq_false_iff_ne.mpr c21
                  have c21b1 : ((bt a0 a1) != 40) = true := bne_iff_ne.mpr c21
                  obtain rfl := Option.some.inj H
                  have p17 : 0 ≤ (a1 : Int) := of_decide_eq_true (by first | (with_reducible assumption) | assumption)
                  have q17 : a1 < (a0.size : Int) := of_decide_eq_true (by first | (with_reducible assumption) | assumption)
                  have hx17 := bt_at a0 a1
                  replace p17 := eq_true p17
                  replace q17 := eq_true q17
                  have p20 : 0 ≤ (a1 : Int) := of_decide_eq_true (by first | (with_reducible assumption) | assumption)
                  have q20 : a1 < (a0.size : Int) := of_decide_eq_true (by first | (with_reducible assumption) | assumption)
                  have hx20 := bt_at a0 a1
                  replace p20 := eq_true p20
                  replace q20 := eq_true q20
                  go_wp2
                  go_ret
                  exact ⟨by first | rfl | (simp; done) | (simp [*]; done), by repeat (first | exact Drawn0.refl _ | apply Drawn0.step)⟩
            · rw [if_neg c16] at H
              exact absurd H (by simp)
          · rw [if_neg c15] at H
            exact absurd H (by simp)

end Go.Proofs.Ytlhencchonhleaa.Print
