-- Written by xprint.py (a program of this session's) out of the translation; Lean checks it.
import Derived.Test.YtlhencchonhleaaPrint0
import Derived.Test.YtlhencchonhleaaFnspecl22Parts
import Derived.Test.YtlhencchonhleaaFnspecl22Join
namespace Go.Proofs.Ytlhencchonhleaa.Print
open Go.RowKit Go.Proofs.YtlhencchonhleaaW.PrintWords Go.Proofs.YtlhencchonhleaaW.PrintLast Go.Proofs.YtlhencchonhleaaW.PrintMore
attribute [local go_sem] max2_int min2_int max_two min_two max_three min_three max_four min_four   -- for this text's walks alone
set_option linter.unusedVariables false
set_option linter.unusedSimpArgs false

/-! ### spec_l22Signed: function 54 -/
mutual
def spec_l22Signed.j0 : Nat → ByteArray → Bool → Int → ByteArray → ByteArray → Bool → Option (ByteArray)
  | 0, _, _, _, _, _, _ => none
  | k + 1, x0, x1, x5, x6, x7, x21 => if x21 = true then (some (⟨#[48]⟩ : ByteArray)) else (if x5 = 49 then (spec_l22Signed.j1 k x0 x1 x5 x6 x7 true) else (spec_l22Signed.j1 k x0 x1 x5 x6 x7 (x5 == 48)))
def spec_l22Signed.j1 : Nat → ByteArray → Bool → Int → ByteArray → ByteArray → Bool → Option (ByteArray)
  | 0, _, _, _, _, _, _ => none
  | k + 1, x0, x1, x5, x6, x7, x35 => if x35 = true then (some (⟨#[49]⟩ : ByteArray)) else (if x5 = 62 then (spec_l22Signed.j2 k x0 x1 x5 x6 x7 x1) else (spec_l22Signed.j2 k x0 x1 x5 x6 x7 false))
def spec_l22Signed.j2 : Nat → ByteArray → Bool → Int → ByteArray → ByteArray → Bool → Option (ByteArray)
  | 0, _, _, _, _, _, _ => none
  | k + 1, x0, x1, x5, x6, x7, x42 => if x42 = true then ((spec_l22Signed.f k x6 false).bind fun t105 => ((spec_l22Signed.f k x7 true).bind fun t106 => ((spec_l22Join.f (⟨#[124]⟩ : ByteArray) t105 t106).bind fun t107 => (some t107)))) else (if x5 = 62 then ((spec_l22Signed.f k x6 true).bind fun t108 => ((spec_l22Signed.f k x7 false).bind fun t109 => ((spec_l22Join.f (⟨#[38]⟩ : ByteArray) t108 t109).bind fun t110 => (some t110)))) else (if x5 = 38 then (if x1 = true then (spec_l22Signed.j3 k x0 x1 x5 x6 x7 true) else (if x5 = 124 then (spec_l22Signed.j3 k x0 x1 x5 x6 x7 (!x1)) else (spec_l22Signed.j3 k x0 x1 x5 x6 x7 false))) else (if x5 = 124 then (spec_l22Signed.j3 k x0 x1 x5 x6 x7 (!x1)) else (spec_l22Signed.j3 k x0 x1 x5 x6 x7 false))))
def spec_l22Signed.j3 : Nat → ByteArray → Bool → Int → ByteArray → ByteArray → Bool → Option (ByteArray)
  | 0, _, _, _, _, _, _ => none
  | k + 1, x0, x1, x5, x6, x7, x61 => if x61 = true then ((spec_l22Signed.f k x6 x1).bind fun t111 => ((spec_l22Signed.f k x7 x1).bind fun t112 => ((spec_l22Join.f (⟨#[38]⟩ : ByteArray) t111 t112).bind fun t113 => (some t113)))) else (if x5 = 38 then (spec_l22Signed.j4 k x0 x1 x6 x7 true) else (spec_l22Signed.j4 k x0 x1 x6 x7 (x5 == 124)))
def spec_l22Signed.j4 : Nat → ByteArray → Bool → ByteArray → ByteArray → Bool → Option (ByteArray)
  | 0, _, _, _, _, _ => none
  | k + 1, x0, x1, x6, x7, x82 => if x82 = true then ((spec_l22Signed.f k x6 x1).bind fun t114 => ((spec_l22Signed.f k x7 x1).bind fun t115 => ((spec_l22Join.f (⟨#[124]⟩ : ByteArray) t114 t115).bind fun t116 => (some t116)))) else (if x1 = true then (some x0) else (if 1 + x0.size ≤ 9223372036854775807 then (some ((⟨#[126]⟩ : ByteArray) ++ x0)) else (none)))
def spec_l22Signed.f : Nat → ByteArray → Bool → Option (ByteArray)
  | 0, _, _ => none
  | k + 1, a0, a1 => (spec_l22Parts.f k a0).bind fun bt101 => (if bt101.1 = 126 then ((spec_l22Signed.f k bt101.2.1 (!a1)).bind fun t104 => (some t104)) else (if bt101.1 = 48 then (if a1 = true then (spec_l22Signed.j0 k a0 a1 bt101.1 bt101.2.1 bt101.2.2 true) else (if bt101.1 = 49 then (spec_l22Signed.j0 k a0 a1 bt101.1 bt101.2.1 bt101.2.2 (!a1)) else (spec_l22Signed.j0 k a0 a1 bt101.1 bt101.2.1 bt101.2.2 false))) else (if bt101.1 = 49 then (spec_l22Signed.j0 k a0 a1 bt101.1 bt101.2.1 bt101.2.2 (!a1)) else (spec_l22Signed.j0 k a0 a1 bt101.1 bt101.2.1 bt101.2.2 false))))
end
theorem spec_l22Signed.mono_l : ∀ k, (∀ y0 y1, LeO (spec_l22Signed.f k y0 y1) (spec_l22Signed.f (k + 1) y0 y1)) ∧ (∀ y0 y1 y2 y3 y4 y5, LeO (spec_l22Signed.j0 k y0 y1 y2 y3 y4 y5) (spec_l22Signed.j0 (k + 1) y0 y1 y2 y3 y4 y5)) ∧ (∀ y0 y1 y2 y3 y4 y5, LeO (spec_l22Signed.j1 k y0 y1 y2 y3 y4 y5) (spec_l22Signed.j1 (k + 1) y0 y1 y2 y3 y4 y5)) ∧ (∀ y0 y1 y2 y3 y4 y5, LeO (spec_l22Signed.j2 k y0 y1 y2 y3 y4 y5) (spec_l22Signed.j2 (k + 1) y0 y1 y2 y3 y4 y5)) ∧ (∀ y0 y1 y2 y3 y4 y5, LeO (spec_l22Signed.j3 k y0 y1 y2 y3 y4 y5) (spec_l22Signed.j3 (k + 1) y0 y1 y2 y3 y4 y5)) ∧ (∀ y0 y1 y2 y3 y4, LeO (spec_l22Signed.j4 k y0 y1 y2 y3 y4) (spec_l22Signed.j4 (k + 1) y0 y1 y2 y3 y4))
  | 0 => ⟨fun _ _ r h => by simp [spec_l22Signed.f] at h, fun _ _ _ _ _ _ r h => by simp [spec_l22Signed.j0] at h, fun _ _ _ _ _ _ r h => by simp [spec_l22Signed.j1] at h, fun _ _ _ _ _ _ r h => by simp [spec_l22Signed.j2] at h, fun _ _ _ _ _ _ r h => by simp [spec_l22Signed.j3] at h, fun _ _ _ _ _ r h => by simp [spec_l22Signed.j4] at h⟩
  | k + 1 => by
    obtain ⟨ih0, ih1, ih2, ih3, ih4, ih5⟩ := spec_l22Signed.mono_l k
    refine ⟨?_, ?_, ?_, ?_, ?_, ?_⟩
    · intro y0 y1
      unfold spec_l22Signed.f
      repeat' first
      | (with_reducible exact ih0 _ _)
      | (with_reducible exact ih1 _ _ _ _ _ _)
      | (with_reducible exact ih2 _ _ _ _ _ _)
      | (with_reducible exact ih3 _ _ _ _ _ _)
      | (with_reducible exact ih4 _ _ _ _ _ _)
      | (with_reducible exact ih5 _ _ _ _ _)
      | (with_reducible exact spec_l22Parts.mono _ _)
      | (with_reducible exact LeO.refl _)
      | (with_reducible exact LeO.none _)
      | (with_reducible refine LeO.ite ?_ ?_)
      | (with_reducible refine LeO.bind ?_ (fun _ => ?_))
      | exact ih0 _ _
      | exact ih1 _ _ _ _ _ _
      | exact ih2 _ _ _ _ _ _
      | exact ih3 _ _ _ _ _ _
      | exact ih4 _ _ _ _ _ _
      | exact ih5 _ _ _ _ _
      | exact spec_l22Parts.mono _ _
      | exact LeO.none _
      | refine LeO.ite ?_ ?_
      | refine LeO.bind ?_ (fun _ => ?_)
    · intro y0 y1 y2 y3 y4 y5
      unfold spec_l22Signed.j0
      repeat' first
      | (with_reducible exact ih0 _ _)
      | (with_reducible exact ih1 _ _ _ _ _ _)
      | (with_reducible exact ih2 _ _ _ _ _ _)
      | (with_reducible exact ih3 _ _ _ _ _ _)
      | (with_reducible exact ih4 _ _ _ _ _ _)
      | (with_reducible exact ih5 _ _ _ _ _)
      | (with_reducible exact spec_l22Parts.mono _ _)
      | (with_reducible exact LeO.refl _)
      | (with_reducible exact LeO.none _)
      | (with_reducible refine LeO.ite ?_ ?_)
      | (with_reducible refine LeO.bind ?_ (fun _ => ?_))
      | exact ih0 _ _
      | exact ih1 _ _ _ _ _ _
      | exact ih2 _ _ _ _ _ _
      | exact ih3 _ _ _ _ _ _
      | exact ih4 _ _ _ _ _ _
      | exact ih5 _ _ _ _ _
      | exact spec_l22Parts.mono _ _
      | exact LeO.none _
      | refine LeO.ite ?_ ?_
      | refine LeO.bind ?_ (fun _ => ?_)
    · intro y0 y1 y2 y3 y4 y5
      unfold spec_l22Signed.j1
      repeat' first
      | (with_reducible exact ih0 _ _)
      | (with_reducible exact ih1 _ _ _ _ _ _)
      | (with_reducible exact ih2 _ _ _ _ _ _)
      | (with_reducible exact ih3 _ _ _ _ _ _)
      | (with_reducible exact ih4 _ _ _ _ _ _)
      | (with_reducible exact ih5 _ _ _ _ _)
      | (with_reducible exact spec_l22Parts.mono _ _)
      | (with_reducible exact LeO.refl _)
      | (with_reducible exact LeO.none _)
      | (with_reducible refine LeO.ite ?_ ?_)
      | (with_reducible refine LeO.bind ?_ (fun _ => ?_))
      | exact ih0 _ _
      | exact ih1 _ _ _ _ _ _
      | exact ih2 _ _ _ _ _ _
      | exact ih3 _ _ _ _ _ _
      | exact ih4 _ _ _ _ _ _
      | exact ih5 _ _ _ _ _
      | exact spec_l22Parts.mono _ _
      | exact LeO.none _
      | refine LeO.ite ?_ ?_
      | refine LeO.bind ?_ (fun _ => ?_)
    · intro y0 y1 y2 y3 y4 y5
      unfold spec_l22Signed.j2
      repeat' first
      | (with_reducible exact ih0 _ _)
      | (with_reducible exact ih1 _ _ _ _ _ _)
      | (with_reducible exact ih2 _ _ _ _ _ _)
      | (with_reducible exact ih3 _ _ _ _ _ _)
      | (with_reducible exact ih4 _ _ _ _ _ _)
      | (with_reducible exact ih5 _ _ _ _ _)
      | (with_reducible exact spec_l22Parts.mono _ _)
      | (with_reducible exact LeO.refl _)
      | (with_reducible exact LeO.none _)
      | (with_reducible refine LeO.ite ?_ ?_)
      | (with_reducible refine LeO.bind ?_ (fun _ => ?_))
      | exact ih0 _ _
      | exact ih1 _ _ _ _ _ _
      | exact ih2 _ _ _ _ _ _
      | exact ih3 _ _ _ _ _ _
      | exact ih4 _ _ _ _ _ _
      | exact ih5 _ _ _ _ _
      | exact spec_l22Parts.mono _ _
      | exact LeO.none _
      | refine LeO.ite ?_ ?_
      | refine LeO.bind ?_ (fun _ => ?_)
    · intro y0 y1 y2 y3 y4 y5
      unfold spec_l22Signed.j3
      repeat' first
      | (with_reducible exact ih0 _ _)
      | (with_reducible exact ih1 _ _ _ _ _ _)
      | (with_reducible exact ih2 _ _ _ _ _ _)
      | (with_reducible exact ih3 _ _ _ _ _ _)
      | (with_reducible exact ih4 _ _ _ _ _ _)
      | (with_reducible exact ih5 _ _ _ _ _)
      | (with_reducible exact spec_l22Parts.mono _ _)
      | (with_reducible exact LeO.refl _)
      | (with_reducible exact LeO.none _)
      | (with_reducible refine LeO.ite ?_ ?_)
      | (with_reducible refine LeO.bind ?_ (fun _ => ?_))
      | exact ih0 _ _
      | exact ih1 _ _ _ _ _ _
      | exact ih2 _ _ _ _ _ _
      | exact ih3 _ _ _ _ _ _
      | exact ih4 _ _ _ _ _ _
      | exact ih5 _ _ _ _ _
      | exact spec_l22Parts.mono _ _
      | exact LeO.none _
      | refine LeO.ite ?_ ?_
      | refine LeO.bind ?_ (fun _ => ?_)
    · intro y0 y1 y2 y3 y4
      unfold spec_l22Signed.j4
      repeat' first
      | (with_reducible exact ih0 _ _)
      | (with_reducible exact ih1 _ _ _ _ _ _)
      | (with_reducible exact ih2 _ _ _ _ _ _)
      | (with_reducible exact ih3 _ _ _ _ _ _)
      | (with_reducible exact ih4 _ _ _ _ _ _)
      | (with_reducible exact ih5 _ _ _ _ _)
      | (with_reducible exact spec_l22Parts.mono _ _)
      | (with_reducible exact LeO.refl _)
      | (with_reducible exact LeO.none _)
      | (with_reducible refine LeO.ite ?_ ?_)
      | (with_reducible refine LeO.bind ?_ (fun _ => ?_))
      | exact ih0 _ _
      | exact ih1 _ _ _ _ _ _
      | exact ih2 _ _ _ _ _ _
      | exact ih3 _ _ _ _ _ _
      | exact ih4 _ _ _ _ _ _
      | exact ih5 _ _ _ _ _
      | exact spec_l22Parts.mono _ _
      | exact LeO.none _
      | refine LeO.ite ?_ ?_
      | refine LeO.bind ?_ (fun _ => ?_)
theorem spec_l22Signed.mono : ∀ a0 a1 k, LeO (spec_l22Signed.f k a0 a1) (spec_l22Signed.f (k + 1) a0 a1) := by
  intro a0 a1 k
  obtain ⟨ih0, ih1, ih2, ih3, ih4, ih5⟩ := spec_l22Signed.mono_l k
  exact ih0 a0 a1
set_option maxHeartbeats 8000000 in
set_option maxRecDepth 100000 in
theorem spec_l22Signed.calls (k : Nat) : ∀ (a0 : ByteArray) (a1 : Bool) (r : ByteArray) (w : World) (h : spec_l22Signed.f k a0 a1 = some r),
    Calls Try.prog 54 #[.string a0, .bool a1] w fun e w' => e = .returned (.string r) ∧ Drawn0 w w' := by
  induction k using Nat.strongRecOn with
  | _ k ih =>
  intro a0 a1 r w h
  cases k with
  | zero => exact absurd h (by simp [spec_l22Signed.f])
  | succ k =>
  simp only [spec_l22Signed.f] at h
  have H : ((spec_l22Parts.f k a0).bind fun bt101 => (if bt101.1 = 126 then ((spec_l22Signed.f k bt101.2.1 (!a1)).bind fun t104 => (some t104)) else (if bt101.1 = 48 then (if a1 = true then (spec_l22Signed.j0 k a0 a1 bt101.1 bt101.2.1 bt101.2.2 true) else (if bt101.1 = 49 then (spec_l22Signed.j0 k a0 a1 bt101.1 bt101.2.1 bt101.2.2 (!a1)) else (spec_l22Signed.j0 k a0 a1 bt101.1 bt101.2.1 bt101.2.2 false))) else (if bt101.1 = 49 then (spec_l22Signed.j0 k a0 a1 bt101.1 bt101.2.1 bt101.2.2 (!a1)) else (spec_l22Signed.j0 k a0 a1 bt101.1 bt101.2.1 bt101.2.2 false))))) = some r := h
  clear h
  replace H := Option.bind_eq_some_iff.mp H
  obtain ⟨⟨t101, t102, t103⟩, A30, H⟩ := H
  replace H : (if t101 = 126 then ((spec_l22Signed.f k t102 (!a1)).bind fun t104 => (some t104)) else (if t101 = 48 then (if a1 = true then (spec_l22Signed.j0 k a0 a1 t101 t102 t103 true) else (if t101 = 49 then (spec_l22Signed.j0 k a0 a1 t101 t102 t103 (!a1)) else (spec_l22Signed.j0 k a0 a1 t101 t102 t103 false))) else (if t101 = 49 then (spec_l22Signed.j0 k a0 a1 t101 t102 t103 (!a1)) else (spec_l22Signed.j0 k a0 a1 t101 t102 t103 false)))) = some r := H
  have A3 := Aside0.mk A30
  clear A30
  by_cases c4 : t101 = 126
  · rw [if_pos c4] at H
    have c4b0 : (t101 == 126) = true := beq_iff_eq.mpr c4
    have c4b1 : (t101 != 126) = false := bne_eq_false_iff_eq.mpr c4
    clear c4
    replace H := Option.bind_eq_some_iff.mp H
    obtain ⟨t104, A50, H⟩ := H
    replace H : (some t104) = some r := H
    have A5 := Aside0.mk A50
    clear A50
    obtain rfl := Option.some.inj H
    go_enter Try.func54, Try.ntmps54
    go_wp2_with (first | ((with_reducible refine gate_callee (f := 62) rfl ?_); refine goesL_ (some 10) rfl rfl Try.func62 (by kernel_rfl) rfl #[.string a0] rfl (by (try simp only [List.map_toArray, List.map_cons, List.map_nil]); first | done | rfl | (simp only [List.length_drop, List.length_take]; rfl)) ?_; (with_reducible refine (spec_l22Parts.calls k a0 t101 t102 t103 _ A3.out).mono ?_); rintro e w' ⟨rfl, ⟨nd, rfl⟩⟩; refine ⟨_, rfl, ?_⟩) | ((with_reducible refine gate_callee (f := 54) rfl ?_); refine goesL_ (some 20) rfl rfl Try.func54 (by kernel_rfl) rfl #[.string t102, .bool (!a1)] rfl (by (try simp only [List.map_toArray, List.map_cons, List.map_nil]); first | done | rfl | (simp only [List.length_drop, List.length_take]; rfl)) ?_; (with_reducible refine (ih k (by omega) t102 (!a1) t104 _ A5.out).mono ?_); rintro e w' ⟨rfl, ⟨nd, rfl⟩⟩; refine ⟨_, rfl, ?_⟩))
    go_ret
    exact ⟨by first | rfl | (simp; done) | (simp [*]; done), by repeat (first | exact Drawn0.refl _ | apply Drawn0.step)⟩
  · rw [if_neg c4] at H
    have c4b0 : (t101 == 126) = false := beq_eq_false_iff_ne.mpr c4
    have c4b1 : (t101 != 126) = true := bne_iff_ne.mpr c4
    have HC6 := Aside0.mk H
    clear H
    go_enter Try.func54, Try.ntmps54
    go_upto_region 4 with (first | ((with_reducible refine gate_callee (f := 62) rfl ?_); refine goesL_ (some 10) rfl rfl Try.func62 (by kernel_rfl) rfl #[.string a0] rfl (by (try simp only [List.map_toArray, List.map_cons, List.map_nil]); first | done | rfl | (simp only [List.length_drop, List.length_take]; rfl)) ?_; (with_reducible refine (spec_l22Parts.calls k a0 t101 t102 t103 _ A3.out).mono ?_); rintro e w' ⟨rfl, ⟨nd, rfl⟩⟩; refine ⟨_, rfl, ?_⟩))
    (try simp only [Act.put, List.setIfInBounds_toArray, List.set_cons_zero, List.set_cons_succ])
    go_cut [21] (fun v21 wc => ∃ (kq : Nat) (x21_5 : Bool), v21 = .bool x21_5 ∧ Aside0 (spec_l22Signed.j0 kq a0 a1 t101 t102 t103 x21_5 = some r) ∧ Aside0 (kq ≤ k) ∧ Drawn0 w wc)
    case first =>
      have H := HC6.out
      clear HC6
      by_cases c7 : t101 = 48
      · rw [if_pos c7] at H
        have c7b0 : (t101 == 48) = true := beq_iff_eq.mpr c7
        have c7b1 : (t101 != 48) = false := bne_eq_false_iff_eq.mpr c7
        clear c7
        (first | rw [c7b0] | (simp only [i64_w, i32_w]; rw [c7b0]) | skip)
        by_cases c8 : a1 = true
        · subst c8
          have H1 : (spec_l22Signed.j0 k a0 true t101 t102 t103 true) = some r := by rw [if_pos rfl] at H; exact H
          clear H
          have H := H1
          clear H1
          have H' := Aside0.mk H
          clear H
          go_wp2
          go_meet
          case rel => exact ⟨_, (true), (by first | rfl | (simp; done) | (simp [*]; done)), H', ⟨by first | omega | exact Nat.le_refl _⟩, by repeat (first | exact Drawn0.refl _ | apply Drawn0.step)⟩
        · replace c8 := Bool.eq_false_iff.mpr c8
          subst c8
          have H1 : (if t101 = 49 then (spec_l22Signed.j0 k a0 false t101 t102 t103 (!false)) else (spec_l22Signed.j0 k a0 false t101 t102 t103 false)) = some r := by rw [if_neg (show ¬ (false = true) by decide)] at H; exact H
          clear H
          have H := H1
          clear H1
          by_cases c9 : t101 = 49
          · rw [if_pos c9] at H
            have c9b0 : (t101 == 49) = true := beq_iff_eq.mpr c9
            have c9b1 : (t101 != 49) = false := bne_eq_false_iff_eq.mpr c9
            clear c9
            have H' := Aside0.mk H
            clear H
            go_wp2
            go_meet
            case rel => exact ⟨_, (!false), (by first | rfl | (simp; done) | (simp [*]; done)), H', ⟨by first | omega | exact Nat.le_refl _⟩, by repeat (first | exact Drawn0.refl _ | apply Drawn0.step)⟩
          · rw [if_neg c9] at H
            have c9b0 : (t101 == 49) = false := beq_eq_false_iff_ne.mpr c9
            have c9b1 : (t101 != 49) = true := bne_iff_ne.mpr c9
            have H' := Aside0.mk H
            clear H
            go_wp2
            go_meet
            case rel => exact ⟨_, (false), (by first | rfl | (simp; done) | (simp [*]; done)), H', ⟨by first | omega | exact Nat.le_refl _⟩, by repeat (first | exact Drawn0.refl _ | apply Drawn0.step)⟩
      · rw [if_neg c7] at H
        have c7b0 : (t101 == 48) = false := beq_eq_false_iff_ne.mpr c7
        have c7b1 : (t101 != 48) = true := bne_iff_ne.mpr c7
        (first | rw [c7b0] | (simp only [i64_w, i32_w]; rw [c7b0]) | skip)
        by_cases c10 : t101 = 49
        · rw [if_pos c10] at H
          have c10b0 : (t101 == 49) = true := beq_iff_eq.mpr c10
          have c10b1 : (t101 != 49) = false := bne_eq_false_iff_eq.mpr c10
          clear c10
          have H' := Aside0.mk H
          clear H
          go_wp2
          go_meet
          case rel => exact ⟨_, (!a1), (by first | rfl | (simp; done) | (simp [*]; done)), H', ⟨by first | omega | exact Nat.le_refl _⟩, by repeat (first | exact Drawn0.refl _ | apply Drawn0.step)⟩
        · rw [if_neg c10] at H
          have c10b0 : (t101 == 49) = false := beq_eq_false_iff_ne.mpr c10
          have c10b1 : (t101 != 49) = true := bne_iff_ne.mpr c10
          have H' := Aside0.mk H
          clear H
          go_wp2
          go_meet
          case rel => exact ⟨_, (false), (by first | rfl | (simp; done) | (simp [*]; done)), H', ⟨by first | omega | exact Nat.le_refl _⟩, by repeat (first | exact Drawn0.refl _ | apply Drawn0.step)⟩
    case rest =>
      clear HC6
      try clear c1
      try clear p2
      try clear c4
      try clear c4b0
      try clear c4b1
      try clear c5
      try clear c6
      try clear c7
      try clear c7b0
      try clear c7b1
      try clear c8
      try clear c9
      try clear c9b0
      try clear c9b1
      try clear c10
      try clear c10b0
      try clear c10b1
      obtain ⟨kq, x21_5, rfl, HA, HJ5, ⟨mc5, rfl⟩⟩ := hcut
      cases kq with
      | zero => exact absurd HA.out (by simp [spec_l22Signed.j0])
      | succ kj5 =>
        have H := HA.out
        clear HA
        simp only [spec_l22Signed.j0] at H
        by_cases c11 : x21_5 = true
        · subst c11
          have H1 : (some (⟨#[48]⟩ : ByteArray)) = some r := by rw [if_pos rfl] at H; exact H
          clear H
          have H := H1
          clear H1
          obtain rfl := Option.some.inj H
          go_wp2
          go_ret
          exact ⟨by first | rfl | (simp; done) | (simp [*]; done), by repeat (first | exact Drawn0.refl _ | apply Drawn0.step)⟩
        · replace c11 := Bool.eq_false_iff.mpr c11
          subst c11
          have H1 : (if t101 = 49 then (spec_l22Signed.j1 kj5 a0 a1 t101 t102 t103 true) else (spec_l22Signed.j1 kj5 a0 a1 t101 t102 t103 (t101 == 48))) = some r := by rw [if_neg (show ¬ (false = true) by decide)] at H; exact H
          clear H
          have H := H1
          clear H1
          have HC12 := Aside0.mk H
          clear H
          go_upto_region 6 with (fail)
          go_cut [35] (fun v35 wc => ∃ (kq : Nat) (x35_11 : Bool), v35 = .bool x35_11 ∧ Aside0 (spec_l22Signed.j1 kq a0 a1 t101 t102 t103 x35_11 = some r) ∧ Aside0 (kq ≤ kj5) ∧ Drawn0 w wc)
          case first =>
            have H := HC12.out
            clear HC12
            by_cases c13 : t101 = 49
            · rw [if_pos c13] at H
              have c13b0 : (t101 == 49) = true := beq_iff_eq.mpr c13
              have c13b1 : (t101 != 49) = false := bne_eq_false_iff_eq.mpr c13
              clear c13
              (first | rw [c13b0] | (simp only [i64_w, i32_w]; rw [c13b0]) | skip)
              have H' := Aside0.mk H
              clear H
              go_wp2
              go_meet
              case rel => exact ⟨_, (true), (by first | rfl | (simp; done) | (simp [*]; done)), H', ⟨by have := HJ5.out; first | omega | exact Nat.le_refl _⟩, by repeat (first | exact Drawn0.refl _ | apply Drawn0.step)⟩
            · rw [if_neg c13] at H
              have c13b0 : (t101 == 49) = false := beq_eq_false_iff_ne.mpr c13
              have c13b1 : (t101 != 49) = true := bne_iff_ne.mpr c13
              (first | rw [c13b0] | (simp only [i64_w, i32_w]; rw [c13b0]) | skip)
              have H' := Aside0.mk H
              clear H
              go_wp2
              go_meet
              case rel => exact ⟨_, ((t101 == 48)), (by first | rfl | (simp; done) | (simp [*]; done)), H', ⟨by have := HJ5.out; first | omega | exact Nat.le_refl _⟩, by repeat (first | exact Drawn0.refl _ | apply Drawn0.step)⟩
          case rest =>
            clear HC12
            try clear c1
            try clear p2
            try clear c4
            try clear c4b0
            try clear c4b1
            try clear c5
            try clear c6
            try clear c7
            try clear c7b0
            try clear c7b1
            try clear c8
            try clear c9
            try clear c9b0
            try clear c9b1
            try clear c10
            try clear c10b0
            try clear c10b1
            try clear c11
            try clear c13
            try clear c13b0
            try clear c13b1
            try clear p2
            obtain ⟨kq, x35_11, rfl, HA, HJ11, ⟨mc11, rfl⟩⟩ := hcut
            cases kq with
            | zero => exact absurd HA.out (by simp [spec_l22Signed.j1])
            | succ kj11 =>
              have H := HA.out
              clear HA
              simp only [spec_l22Signed.j1] at H
              by_cases c14 : x35_11 = true
              · subst c14
                have H1 : (some (⟨#[49]⟩ : ByteArray)) = some r := by rw [if_pos rfl] at H; exact H
                clear H
                have H := H1
                clear H1
                obtain rfl := Option.some.inj H
                go_wp2
                go_ret
                exact ⟨by first | rfl | (simp; done) | (simp [*]; done), by repeat (first | exact Drawn0.refl _ | apply Drawn0.step)⟩
              · replace c14 := Bool.eq_false_iff.mpr c14
                subst c14
                have H1 : (if t101 = 62 then (spec_l22Signed.j2 kj11 a0 a1 t101 t102 t103 a1) else (spec_l22Signed.j2 kj11 a0 a1 t101 t102 t103 false)) = some r := by rw [if_neg (show ¬ (false = true) by decide)] at H; exact H
                clear H
                have H := H1
                clear H1
                have HC15 := Aside0.mk H
                clear H
                go_upto_region 8 with (fail)
                go_cut [42] (fun v42 wc => ∃ (kq : Nat) (x42_14 : Bool), v42 = .bool x42_14 ∧ Aside0 (spec_l22Signed.j2 kq a0 a1 t101 t102 t103 x42_14 = some r) ∧ Aside0 (kq ≤ kj11) ∧ Drawn0 w wc)
                case first =>
                  have H := HC15.out
                  clear HC15
                  by_cases c16 : t101 = 62
                  · rw [if_pos c16] at H
                    have c16b0 : (t101 == 62) = true := beq_iff_eq.mpr c16
                    have c16b1 : (t101 != 62) = false := bne_eq_false_iff_eq.mpr c16
                    clear c16
                    (first | rw [c16b0] | (simp only [i64_w, i32_w]; rw [c16b0]) | skip)
                    have H' := Aside0.mk H
                    clear H
                    go_wp2
                    go_meet
                    case rel => exact ⟨_, (a1), (by first | rfl | (simp; done) | (simp [*]; done)), H', ⟨by have := HJ5.out; have := HJ11.out; first | omega | exact Nat.le_refl _⟩, by repeat (first | exact Drawn0.refl _ | apply Drawn0.step)⟩
                  · rw [if_neg c16] at H
                    have c16b0 : (t101 == 62) = false := beq_eq_false_iff_ne.mpr c16
                    have c16b1 : (t101 != 62) = true := bne_iff_ne.mpr c16
                    (first | rw [c16b0] | (simp only [i64_w, i32_w]; rw [c16b0]) | skip)
                    have H' := Aside0.mk H
                    clear H
                    go_wp2
                    go_meet
                    case rel => exact ⟨_, (false), (by first | rfl | (simp; done) | (simp [*]; done)), H', ⟨by have := HJ5.out; have := HJ11.out; first | omega | exact Nat.le_refl _⟩, by repeat (first | exact Drawn0.refl _ | apply Drawn0.step)⟩
                case rest =>
                  clear HC15
                  try clear c1
                  try clear p2
                  try clear c4
                  try clear c4b0
                  try clear c4b1
                  try clear c5
                  try clear c6
                  try clear c7
                  try clear c7b0
                  try clear c7b1
                  try clear c8
                  try clear c9
                  try clear c9b0
                  try clear c9b1
                  try clear c10
                  try clear c10b0
                  try clear c10b1
                  try clear c11
                  try clear c13
                  try clear c13b0
                  try clear c13b1
                  try clear c14
                  try clear c16
                  try clear c16b0
                  try clear c16b1
                  try clear p2
                  obtain ⟨kq, x42_14, rfl, HA, HJ14, ⟨mc14, rfl⟩⟩ := hcut
                  cases kq with
                  | zero => exact absurd HA.out (by simp [spec_l22Signed.j2])
                  | succ kj14 =>
                    have H := HA.out
                    clear HA
                    simp only [spec_l22Signed.j2] at H
                    by_cases c17 : x42_14 = true
                    · subst c17
                      have H1 : ((spec_l22Signed.f kj14 t102 false).bind fun t105 => ((spec_l22Signed.f kj14 t103 true).bind fun t106 => ((spec_l22Join.f (⟨#[124]⟩ : ByteArray) t105 t106).bind fun t107 => (some t107)))) = some r := by rw [if_pos rfl] at H; exact H
                      clear H
                      have H := H1
                      clear H1
                      replace H := Option.bind_eq_some_iff.mp H
                      obtain ⟨t105, A180, H⟩ := H
                      replace H : ((spec_l22Signed.f kj14 t103 true).bind fun t106 => ((spec_l22Join.f (⟨#[124]⟩ : ByteArray) t105 t106).bind fun t107 => (some t107))) = some r := H
                      have A18 := Aside0.mk A180
                      clear A180
                      replace H := Option.bind_eq_some_iff.mp H
                      obtain ⟨t106, A190, H⟩ := H
                      replace H : ((spec_l22Join.f (⟨#[124]⟩ : ByteArray) t105 t106).bind fun t107 => (some t107)) = some r := H
                      have A19 := Aside0.mk A190
                      clear A190
                      replace H := Option.bind_eq_some_iff.mp H
                      obtain ⟨t107, A200, H⟩ := H
                      replace H : (some t107) = some r := H
                      have A20 := Aside0.mk A200
                      clear A200
                      obtain rfl := Option.some.inj H
                      go_wp2_with (first | ((with_reducible refine gate_callee (f := 54) rfl ?_); refine goesL_ (some 49) rfl rfl Try.func54 (by kernel_rfl) rfl #[.string t102, .bool false] rfl (by (try simp only [List.map_toArray, List.map_cons, List.map_nil]); first | done | rfl | (simp only [List.length_drop, List.length_take]; rfl)) ?_; (with_reducible refine (ih kj14 (by have := HJ5.out; have := HJ11.out; have := HJ14.out; omega) t102 false t105 _ A18.out).mono ?_); rintro e w' ⟨rfl, ⟨nd, rfl⟩⟩; refine ⟨_, rfl, ?_⟩) | ((with_reducible refine gate_callee (f := 54) rfl ?_); refine goesL_ (some 51) rfl rfl Try.func54 (by kernel_rfl) rfl #[.string t103, .bool true] rfl (by (try simp only [List.map_toArray, List.map_cons, List.map_nil]); first | done | rfl | (simp only [List.length_drop, List.length_take]; rfl)) ?_; (with_reducible refine (ih kj14 (by have := HJ5.out; have := HJ11.out; have := HJ14.out; omega) t103 true t106 _ A19.out).mono ?_); rintro e w' ⟨rfl, ⟨nd, rfl⟩⟩; refine ⟨_, rfl, ?_⟩) | ((with_reducible refine gate_callee (f := 65) rfl ?_); refine goesL_ (some 52) rfl rfl Try.func65 (by kernel_rfl) rfl #[.string (⟨#[124]⟩ : ByteArray), .string t105, .string t106] rfl (by (try simp only [List.map_toArray, List.map_cons, List.map_nil]); first | done | rfl | (simp only [List.length_drop, List.length_take]; rfl)) ?_; (with_reducible refine (spec_l22Join.calls (⟨#[124]⟩ : ByteArray) t105 t106 t107 _ A20.out).mono ?_); rintro e w' ⟨rfl, ⟨nd, rfl⟩⟩; refine ⟨_, rfl, ?_⟩))
                      go_ret
                      exact ⟨by first | rfl | (simp; done) | (simp [*]; done), by repeat (first | exact Drawn0.refl _ | apply Drawn0.step)⟩
                    · replace c17 := Bool.eq_false_iff.mpr c17
                      subst c17
                      have H1 : (if t101 = 62 then ((spec_l22Signed.f kj14 t102 true).bind fun t108 => ((spec_l22Signed.f kj14 t103 false).bind fun t109 => ((spec_l22Join.f (⟨#[38]⟩ : ByteArray) t108 t109).bind fun t110 => (some t110)))) else (if t101 = 38 then (if a1 = true then (spec_l22Signed.j3 kj14 a0 a1 t101 t102 t103 true) else (if t101 = 124 then (spec_l22Signed.j3 kj14 a0 a1 t101 t102 t103 (!a1)) else (spec_l22Signed.j3 kj14 a0 a1 t101 t102 t103 false))) else (if t101 = 124 then (spec_l22Signed.j3 kj14 a0 a1 t101 t102 t103 (!a1)) else (spec_l22Signed.j3 kj14 a0 a1 t101 t102 t103 false)))) = some r := by rw [if_neg (show ¬ (false = true) by decide)] at H; exact H
                      clear H
                      have H := H1
                      clear H1
                      by_cases c21 : t101 = 62
                      · rw [if_pos c21] at H
                        have c21b0 : (t101 == 62) = true := beq_iff_eq.mpr c21
                        have c21b1 : (t101 != 62) = false := bne_eq_false_iff_eq.mpr c21
                        clear c21
                        replace H := Option.bind_eq_some_iff.mp H
                        obtain ⟨t108, A220, H⟩ := H
                        replace H : ((spec_l22Signed.f kj14 t103 false).bind fun t109 => ((spec_l22Join.f (⟨#[38]⟩ : ByteArray) t108 t109).bind fun t110 => (some t110))) = some r := H
                        have A22 := Aside0.mk A220
                        clear A220
                        replace H := Option.bind_eq_some_iff.mp H
                        obtain ⟨t109, A230, H⟩ := H
                        replace H : ((spec_l22Join.f (⟨#[38]⟩ : ByteArray) t108 t109).bind fun t110 => (some t110)) = some r := H
                        have A23 := Aside0.mk A230
                        clear A230
                        replace H := Option.bind_eq_some_iff.mp H
                        obtain ⟨t110, A240, H⟩ := H
                        replace H : (some t110) = some r := H
                        have A24 := Aside0.mk A240
                        clear A240
                        obtain rfl := Option.some.inj H
                        go_wp2_with (first | ((with_reducible refine gate_callee (f := 54) rfl ?_); refine goesL_ (some 57) rfl rfl Try.func54 (by kernel_rfl) rfl #[.string t102, .bool true] rfl (by (try simp only [List.map_toArray, List.map_cons, List.map_nil]); first | done | rfl | (simp only [List.length_drop, List.length_take]; rfl)) ?_; (with_reducible refine (ih kj14 (by have := HJ5.out; have := HJ11.out; have := HJ14.out; omega) t102 true t108 _ A22.out).mono ?_); rintro e w' ⟨rfl, ⟨nd, rfl⟩⟩; refine ⟨_, rfl, ?_⟩) | ((with_reducible refine gate_callee (f := 54) rfl ?_); refine goesL_ (some 59) rfl rfl Try.func54 (by kernel_rfl) rfl #[.string t103, .bool false] rfl (by (try simp only [List.map_toArray, List.map_cons, List.map_nil]); first | done | rfl | (simp only [List.length_drop, List.length_take]; rfl)) ?_; (with_reducible refine (ih kj14 (by have := HJ5.out; have := HJ11.out; have := HJ14.out; omega) t103 false t109 _ A23.out).mono ?_); rintro e w' ⟨rfl, ⟨nd, rfl⟩⟩; refine ⟨_, rfl, ?_⟩) | ((with_reducible refine gate_callee (f := 65) rfl ?_); refine goesL_ (some 60) rfl rfl Try.func65 (by kernel_rfl) rfl #[.string (⟨#[38]⟩ : ByteArray), .string t108, .string t109] rfl (by (try simp only [List.map_toArray, List.map_cons, List.map_nil]); first | done | rfl | (simp only [List.length_drop, List.length_take]; rfl)) ?_; (with_reducible refine (spec_l22Join.calls (⟨#[38]⟩ : ByteArray) t108 t109 t110 _ A24.out).mono ?_); rintro e w' ⟨rfl, ⟨nd, rfl⟩⟩; refine ⟨_, rfl, ?_⟩))
                        go_ret
                        exact ⟨by first | rfl | (simp; done) | (simp [*]; done), by repeat (first | exact Drawn0.refl _ | apply Drawn0.step)⟩
                      · rw [if_neg c21] at H
                        have c21b0 : (t101 == 62) = false := beq_eq_false_iff_ne.mpr c21
                        have c21b1 : (t101 != 62) = true := bne_iff_ne.mpr c21
                        have HC25 := Aside0.mk H
                        clear H
                        go_upto_region 12 with (fail)
                        go_cut [61] (fun v61 wc => ∃ (kq : Nat) (x61_24 : Bool), v61 = .bool x61_24 ∧ Aside0 (spec_l22Signed.j3 kq a0 a1 t101 t102 t103 x61_24 = some r) ∧ Aside0 (kq ≤ kj14) ∧ Drawn0 w wc)
                        case first =>
                          have H := HC25.out
                          clear HC25
                          by_cases c26 : t101 = 38
                          · rw [if_pos c26] at H
                            have c26b0 : (t101 == 38) = true := beq_iff_eq.mpr c26
                            have c26b1 : (t101 != 38) = false := bne_eq_false_iff_eq.mpr c26
                            clear c26
                            (first | rw [c26b0] | (simp only [i64_w, i32_w]; rw [c26b0]) | skip)
                            by_cases c27 : a1 = true
                            · subst c27
                              have H1 : (spec_l22Signed.j3 kj14 a0 true t101 t102 t103 true) = some r := by rw [if_pos rfl] at H; exact H
                              clear H
                              have H := H1
                              clear H1
                              have H' := Aside0.mk H
                              clear H
                              go_wp2
                              go_meet
                              case rel => exact ⟨_, (true), (by first | rfl | (simp; done) | (simp [*]; done)), H', ⟨by have := HJ5.out; have := HJ11.out; have := HJ14.out; first | omega | exact Nat.le_refl _⟩, by repeat (first | exact Drawn0.refl _ | apply Drawn0.step)⟩
                            · replace c27 := Bool.eq_false_iff.mpr c27
                              subst c27
                              have H1 : (if t101 = 124 then (spec_l22Signed.j3 kj14 a0 false t101 t102 t103 (!false)) else (spec_l22Signed.j3 kj14 a0 false t101 t102 t103 false)) = some r := by rw [if_neg (show ¬ (false = true) by decide)] at H; exact H
                              clear H
                              have H := H1
                              clear H1
                              by_cases c28 : t101 = 124
                              · rw [if_pos c28] at H
                                have c28b0 : (t101 == 124) = true := beq_iff_eq.mpr c28
                                have c28b1 : (t101 != 124) = false := bne_eq_false_iff_eq.mpr c28
                                clear c28
                                have H' := Aside0.mk H
                                clear H
                                go_wp2
                                go_meet
                                case rel => exact ⟨_, (!false), (by first | rfl | (simp; done) | (simp [*]; done)), H', ⟨by have := HJ5.out; have := HJ11.out; have := HJ14.out; first | omega | exact Nat.le_refl _⟩, by repeat (first | exact Drawn0.refl _ | apply Drawn0.step)⟩
                              · rw [if_neg c28] at H
                                have c28b0 : (t101 == 124) = false := beq_eq_false_iff_ne.mpr c28
                                have c28b1 : (t101 != 124) = true := bne_iff_ne.mpr c28
                                have H' := Aside0.mk H
                                clear H
                                go_wp2
                                go_meet
                                case rel => exact ⟨_, (false), (by first | rfl | (simp; done) | (simp [*]; done)), H', ⟨by have := HJ5.out; have := HJ11.out; have := HJ14.out; first | omega | exact Nat.le_refl _⟩, by repeat (first | exact Drawn0.refl _ | apply Drawn0.step)⟩
                          · rw [if_neg c26] at H
                            have c26b0 : (t101 == 38) = false := beq_eq_false_iff_ne.mpr c26
                            have c26b1 : (t101 != 38) = true := bne_iff_ne.mpr c26
                            (first | rw [c26b0] | (simp only [i64_w, i32_w]; rw [c26b0]) | skip)
                            by_cases c29 : t101 = 124
                            · rw [if_pos c29] at H
                              have c29b0 : (t101 == 124) = true := beq_iff_eq.mpr c29
                              have c29b1 : (t101 != 124) = false := bne_eq_false_iff_eq.mpr c29
                              clear c29
                              have H' := Aside0.mk H
                              clear H
                              go_wp2
                              go_meet
                              case rel => exact ⟨_, (!a1), (by first | rfl | (simp; done) | (simp [*]; done)), H', ⟨by have := HJ5.out; have := HJ11.out; have := HJ14.out; first | omega | exact Nat.le_refl _⟩, by repeat (first | exact Drawn0.refl _ | apply Drawn0.step)⟩
                            · rw [if_neg c29] at H
                              have c29b0 : (t101 == 124) = false := beq_eq_false_iff_ne.mpr c29
                              have c29b1 : (t101 != 124) = true := bne_iff_ne.mpr c29
                              have H' := Aside0.mk H
                              clear H
                              go_wp2
                              go_meet
                              case rel => exact ⟨_, (false), (by first | rfl | (simp; done) | (simp [*]; done)), H', ⟨by have := HJ5.out; have := HJ11.out; have := HJ14.out; first | omega | exact Nat.le_refl _⟩, by repeat (first | exact Drawn0.refl _ | apply Drawn0.step)⟩
                        case rest =>
                          clear HC25
                          try clear c1
                          try clear c2
                          try clear p2
                          try clear c4
                          try clear c4b0
                          try clear c4b1
                          try clear c5
                          try clear c6
                          try clear c7
                          try clear c7b0
                          try clear c7b1
                          try clear c8
                          try clear c9
                          try clear c9b0
                          try clear c9b1
                          try clear c10
                          try clear c10b0
                          try clear c10b1
                          try clear c11
                          try clear c13
                          try clear c13b0
                          try clear c13b1
                          try clear c14
                          try clear c16
                          try clear c16b0
                          try clear c16b1
                          try clear c17
                          try clear c21
                          try clear c21b0
                          try clear c21b1
                          try clear c26
                          try clear c26b0
                          try clear c26b1
                          try clear c27
                          try clear c28
                          try clear c28b0
                          try clear c28b1
                          try clear c29
                          try clear c29b0
                          try clear c29b1
                          try clear p2
                          obtain ⟨kq, x61_24, rfl, HA, HJ24, ⟨mc24, rfl⟩⟩ := hcut
                          cases kq with
                          | zero => exact absurd HA.out (by simp [spec_l22Signed.j3])
                          | succ kj24 =>
                            have H := HA.out
                            clear HA
                            simp only [spec_l22Signed.j3] at H
                            by_cases c30 : x61_24 = true
                            · subst c30
                              have H1 : ((spec_l22Signed.f kj24 t102 a1).bind fun t111 => ((spec_l22Signed.f kj24 t103 a1).bind fun t112 => ((spec_l22Join.f (⟨#[38]⟩ : ByteArray) t111 t112).bind fun t113 => (some t113)))) = some r := by rw [if_pos rfl] at H; exact H
                              clear H
                              have H := H1
                              clear H1
                              replace H := Option.bind_eq_some_iff.mp H
                              obtain ⟨t111, A310, H⟩ := H
                              replace H : ((spec_l22Signed.f kj24 t103 a1).bind fun t112 => ((spec_l22Join.f (⟨#[38]⟩ : ByteArray) t111 t112).bind fun t113 => (some t113))) = some r := H
                              have A31 := Aside0.mk A310
                              clear A310
                              replace H := Option.bind_eq_some_iff.mp H
                              obtain ⟨t112, A320, H⟩ := H
                              replace H : ((spec_l22Join.f (⟨#[38]⟩ : ByteArray) t111 t112).bind fun t113 => (some t113)) = some r := H
                              have A32 := Aside0.mk A320
                              clear A320
                              replace H := Option.bind_eq_some_iff.mp H
                              obtain ⟨t113, A330, H⟩ := H
                              replace H : (some t113) = some r := H
                              have A33 := Aside0.mk A330
                              clear A330
                              obtain rfl := Option.some.inj H
                              go_wp2_with (first | ((with_reducible refine gate_callee (f := 54) rfl ?_); refine goesL_ (some 77) rfl rfl Try.func54 (by kernel_rfl) rfl #[.string t102, .bool a1] rfl (by (try simp only [List.map_toArray, List.map_cons, List.map_nil]); first | done | rfl | (simp only [List.length_drop, List.length_take]; rfl)) ?_; (with_reducible refine (ih kj24 (by have := HJ5.out; have := HJ11.out; have := HJ14.out; have := HJ24.out; omega) t102 a1 t111 _ A31.out).mono ?_); rintro e w' ⟨rfl, ⟨nd, rfl⟩⟩; refine ⟨_, rfl, ?_⟩) | ((with_reducible refine gate_callee (f := 54) rfl ?_); refine goesL_ (some 80) rfl rfl Try.func54 (by kernel_rfl) rfl #[.string t103, .bool a1] rfl (by (try simp only [List.map_toArray, List.map_cons, List.map_nil]); first | done | rfl | (simp only [List.length_drop, List.length_take]; rfl)) ?_; (with_reducible refine (ih kj24 (by have := HJ5.out; have := HJ11.out; have := HJ14.out; have := HJ24.out; omega) t103 a1 t112 _ A32.out).mono ?_); rintro e w' ⟨rfl, ⟨nd, rfl⟩⟩; refine ⟨_, rfl, ?_⟩) | ((with_reducible refine gate_callee (f := 65) rfl ?_); refine goesL_ (some 81) rfl rfl Try.func65 (by kernel_rfl) rfl #[.string (⟨#[38]⟩ : ByteArray), .string t111, .string t112] rfl (by (try simp only [List.map_toArray, List.map_cons, List.map_nil]); first | done | rfl | (simp only [List.length_drop, List.length_take]; rfl)) ?_; (with_reducible refine (spec_l22Join.calls (⟨#[38]⟩ : ByteArray) t111 t112 t113 _ A33.out).mono ?_); rintro e w' ⟨rfl, ⟨nd, rfl⟩⟩; refine ⟨_, rfl, ?_⟩))
                              go_ret
                              exact ⟨by first | rfl | (simp; done) | (simp [*]; done), by repeat (first | exact Drawn0.refl _ | apply Drawn0.step)⟩
                            · replace c30 := Bool.eq_false_iff.mpr c30
                              subst c30
                              have H1 : (if t101 = 38 then (spec_l22Signed.j4 kj24 a0 a1 t102 t103 true) else (spec_l22Signed.j4 kj24 a0 a1 t102 t103 (t101 == 124))) = some r := by rw [if_neg (show ¬ (false = true) by decide)] at H; exact H
                              clear H
                              have H := H1
                              clear H1
                              have HC34 := Aside0.mk H
                              clear H
                              go_upto_region 14 with (fail)
                              go_cut [82] (fun v82 wc => ∃ (kq : Nat) (x82_33 : Bool), v82 = .bool x82_33 ∧ Aside0 (spec_l22Signed.j4 kq a0 a1 t102 t103 x82_33 = some r) ∧ Aside0 (kq ≤ kj24) ∧ Drawn0 w wc)
                              case first =>
                                have H := HC34.out
                                clear HC34
                                by_cases c35 : t101 = 38
                                · rw [if_pos c35] at H
                                  have c35b0 : (t101 == 38) = true := beq_iff_eq.mpr c35
                                  have c35b1 : (t101 != 38) = false := bne_eq_false_iff_eq.mpr c35
                                  clear c35
                                  (first | rw [c35b0] | (simp only [i64_w, i32_w]; rw [c35b0]) | skip)
                                  have H' := Aside0.mk H
                                  clear H
                                  go_wp2
                                  go_meet
                                  case rel => exact ⟨_, (true), (by first | rfl | (simp; done) | (simp [*]; done)), H', ⟨by have := HJ5.out; have := HJ11.out; have := HJ14.out; have := HJ24.out; first | omega | exact Nat.le_refl _⟩, by repeat (first | exact Drawn0.refl _ | apply Drawn0.step)⟩
                                · rw [if_neg c35] at H
                                  have c35b0 : (t101 == 38) = false := beq_eq_false_iff_ne.mpr c35
                                  have c35b1 : (t101 != 38) = true := bne_iff_ne.mpr c35
                                  (first | rw [c35b0] | (simp only [i64_w, i32_w]; rw [c35b0]) | skip)
                                  have H' := Aside0.mk H
                                  clear H
                                  go_wp2
                                  go_meet
                                  case rel => exact ⟨_, ((t101 == 124)), (by first | rfl | (simp; done) | (simp [*]; done)), H', ⟨by have := HJ5.out; have := HJ11.out; have := HJ14.out; have := HJ24.out; first | omega | exact Nat.le_refl _⟩, by repeat (first | exact Drawn0.refl _ | apply Drawn0.step)⟩
                              case rest =>
                                clear HC34
                                try clear c1
                                try clear c2
                                try clear p2
                                try clear c3
                                try clear c4
                                try clear c4b0
                                try clear c4b1
                                try clear c5
                                try clear c6
                                try clear c7
                                try clear c7b0
                                try clear c7b1
                                try clear c8
                                try clear c9
                                try clear c9b0
                                try clear c9b1
                                try clear c10
                                try clear c10b0
                                try clear c10b1
                                try clear c11
                                try clear c13
                                try clear c13b0
                                try clear c13b1
                                try clear c14
                                try clear c16
                                try clear c16b0
                                try clear c16b1
                                try clear c17
                                try clear c21
                                try clear c21b0
                                try clear c21b1
                                try clear c24
                                try clear c26
                                try clear c26b0
                                try clear c26b1
                                try clear c27
                                try clear c28
                                try clear c28b0
                                try clear c28b1
                                try clear c29
                                try clear c29b0
                                try clear c29b1
                                try clear c30
                                try clear c35
                                try clear c35b0
                                try clear c35b1
                                try clear p2
                                obtain ⟨kq, x82_33, rfl, HA, HJ33, ⟨mc33, rfl⟩⟩ := hcut
                                cases kq with
                                | zero => exact absurd HA.out (by simp [spec_l22Signed.j4])
                                | succ kj33 =>
                                  have H := HA.out
                                  clear HA
                                  simp only [spec_l22Signed.j4] at H
                                  by_cases c36 : x82_33 = true
                                  · subst c36
                                    have H1 : ((spec_l22Signed.f kj33 t102 a1).bind fun t114 => ((spec_l22Signed.f kj33 t103 a1).bind fun t115 => ((spec_l22Join.f (⟨#[124]⟩ : ByteArray) t114 t115).bind fun t116 => (some t116)))) = some r := by rw [if_pos rfl] at H; exact H
                                    clear H
                                    have H := H1
                                    clear H1
                                    replace H := Option.bind_eq_some_iff.mp H
                                    obtain ⟨t114, A370, H⟩ := H
                                    replace H : ((spec_l22Signed.f kj33 t103 a1).bind fun t115 => ((spec_l22Join.f (⟨#[124]⟩ : ByteArray) t114 t115).bind fun t116 => (some t116))) = some r := H
                                    have A37 := Aside0.mk A370
                                    clear A370
                                    replace H := Option.bind_eq_some_iff.mp H
                                    obtain ⟨t115, A380, H⟩ := H
                                    replace H : ((spec_l22Join.f (⟨#[124]⟩ : ByteArray) t114 t115).bind fun t116 => (some t116)) = some r := H
                                    have A38 := Aside0.mk A380
                                    clear A380
                                    replace H := Option.bind_eq_some_iff.mp H
                                    obtain ⟨t116, A390, H⟩ := H
                                    replace H : (some t116) = some r := H
                                    have A39 := Aside0.mk A390
                                    clear A390
                                    obtain rfl := Option.some.inj H
                                    go_wp2_with (first | ((with_reducible refine gate_callee (f := 54) rfl ?_); refine goesL_ (some 91) rfl rfl Try.func54 (by kernel_rfl) rfl #[.string t102, .bool a1] rfl (by (try simp only [List.map_toArray, List.map_cons, List.map_nil]); first | done | rfl | (simp only [List.length_drop, List.length_take]; rfl)) ?_; (with_reducible refine (ih kj33 (by have := HJ5.out; have := HJ11.out; have := HJ14.out; have := HJ24.out; have := HJ33.out; omega) t102 a1 t114 _ A37.out).mono ?_); rintro e w' ⟨rfl, ⟨nd, rfl⟩⟩; refine ⟨_, rfl, ?_⟩) | ((with_reducible refine gate_callee (f := 54) rfl ?_); refine goesL_ (some 94) rfl rfl Try.func54 (by kernel_rfl) rfl #[.string t103, .bool a1] rfl (by (try simp only [List.map_toArray, List.map_cons, List.map_nil]); first | done | rfl | (simp only [List.length_drop, List.length_take]; rfl)) ?_; (with_reducible refine (ih kj33 (by have := HJ5.out; have := HJ11.out; have := HJ14.out; have := HJ24.out; have := HJ33.out; omega) t103 a1 t115 _ A38.out).mono ?_); rintro e w' ⟨rfl, ⟨nd, rfl⟩⟩; refine ⟨_, rfl, ?_⟩) | ((with_reducible refine gate_callee (f := 65) rfl ?_); refine goesL_ (some 95) rfl rfl Try.func65 (by kernel_rfl) rfl #[.string (⟨#[124]⟩ : ByteArray), .string t114, .string t115] rfl (by (try simp only [List.map_toArray, List.map_cons, List.map_nil]); first | done | rfl | (simp only [List.length_drop, List.length_take]; rfl)) ?_; (with_reducible refine (spec_l22Join.calls (⟨#[124]⟩ : ByteArray) t114 t115 t116 _ A39.out).mono ?_); rintro e w' ⟨rfl, ⟨nd, rfl⟩⟩; refine ⟨_, rfl, ?_⟩))
                                    go_ret
                                    exact ⟨by first | rfl | (simp; done) | (simp [*]; done), by repeat (first | exact Drawn0.refl _ | apply Drawn0.step)⟩
                                  · replace c36 := Bool.eq_false_iff.mpr c36
                                    subst c36
                                    have H1 : (if a1 = true then (some a0) else (if 1 + a0.size ≤ 9223372036854775807 then (some ((⟨#[126]⟩ : ByteArray) ++ a0)) else (none))) = some r := by rw [if_neg (show ¬ (false = true) by decide)] at H; exact H
                                    clear H
                                    have H := H1
                                    clear H1
                                    by_cases c40 : a1 = true
                                    · subst c40
                                      have H1 : (some a0) = some r := by rw [if_pos rfl] at H; exact H
                                      clear H
                                      have H := H1
                                      clear H1
                                      obtain rfl := Option.some.inj H
                                      go_wp2
                                      go_ret
                                      exact ⟨by first | rfl | (simp; done) | (simp [*]; done), by repeat (first | exact Drawn0.refl _ | apply Drawn0.step)⟩
                                    · replace c40 := Bool.eq_false_iff.mpr c40
                                      subst c40
                                      have H1 : (if 1 + a0.size ≤ 9223372036854775807 then (some ((⟨#[126]⟩ : ByteArray) ++ a0)) else (none)) = some r := by rw [if_neg (show ¬ (false = true) by decide)] at H; exact H
                                      clear H
                                      have H := H1
                                      clear H1
                                      by_cases c41 : 1 + a0.size ≤ 9223372036854775807
                                      · rw [if_pos c41] at H
                                        have c41b0 := eq_true c41
                                        have c41b1 : decide (1 + a0.size ≤ 9223372036854775807) = true := decide_eq_true c41
                                        try have c41b2 : (9223372036854775807 < 1 + a0.size) = False := eq_false (Nat.not_lt.2 c41)
                                        obtain rfl := Option.some.inj H
                                        go_wp2
                                        go_ret
                                        exact ⟨by first | rfl | (simp; done) | (simp [*]; done), by repeat (first | exact Drawn0.refl _ | apply Drawn0.step)⟩
                                      · rw [if_neg c41] at H
                                        exact absurd H (by simp)

end Go.Proofs.Ytlhencchonhleaa.Print
