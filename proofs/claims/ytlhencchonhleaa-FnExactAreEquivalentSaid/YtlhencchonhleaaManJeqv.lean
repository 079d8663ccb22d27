/- Two formulas compared: the closures, firstFalse over them, and the two functions. Written by genJ (twice the same text, for the two relations). -/
import Derived.Test.YtlhencchonhleaaManI
namespace Go.Proofs.Ytlhencchonhleaa.Man
open Go.RowKit Go.Proofs.YtlhencchonhleaaW.PrintWords Go.Proofs.YtlhencchonhleaaW.PrintLast Go.Proofs.YtlhencchonhleaaW.PrintMore Go.Proofs.Ytlhencchonhleaa.Fm Go.Proofs.Ytlhencchonhleaa.Print
set_option linter.unusedVariables false
set_option linter.unusedSimpArgs false

/-- The relation. -/
def eqv_r (a b : Bool) : Bool := a == b
set_option maxHeartbeats 1000000 in
theorem eqv_is (a b : Bool) (W : World) : Calls Try.prog 51 #[.bool a, .bool b] W fun e w' => e = .returned (.bool (eqv_r a b)) ∧ w' = W := by
  cases a
  all_goals
    cases b
    all_goals
      go_enter Try.func51, Try.ntmps51
      go_wp2
      go_ret
      exact ⟨rfl, rfl⟩
/-- A call of the closure. -/
def eqv_C (w : World) (x y z : Nat) (p : Int → Bool) : Prop := ∀ (W : World), Below w.heap.size w W → ∀ (i : Int), Calls Try.prog 64 #[.int .i64 i, .pointer (some ⟨x, 0, none⟩), .pointer (some ⟨y, 0, none⟩), .pointer (some ⟨z, 0, none⟩)] W fun e w' => e = .returned (.bool (p i)) ∧ Drawn0 W w'
theorem eqv_C.use {w : World} {x y z : Nat} {p : Int → Bool} (h : Hid (eqv_C w x y z p)) (W : World) (hW : Below w.heap.size w W) (i : Int) {b : Bool} (hb : Hid (p i = b)) : Calls Try.prog 64 #[.int .i64 i, .pointer (some ⟨x, 0, none⟩), .pointer (some ⟨y, 0, none⟩), .pointer (some ⟨z, 0, none⟩)] W fun e w' => e = .returned (.bool b) ∧ Drawn0 W w' := by
  have := h.out W hW i
  rw [hb.out] at this
  exact this
set_option maxHeartbeats 2000000 in
theorem eqv_clo (w : World) (x y z : Nat) (v u : Value) (p q : Int → Bool) (HV : Hid (VA w v p)) (HU : Hid (VA w u q)) (h1 : w.cell? ⟨x, 0, none⟩ = some (.func (.func 51) #[] #[])) (h2 : w.cell? ⟨y, 0, none⟩ = some v) (h3 : w.cell? ⟨z, 0, none⟩ = some u) :
    eqv_C w x y z (fun i => eqv_r (p i) (q i)) := by
  intro W hW i
  have k1 := pw_cell_below hW h1
  have k2 := pw_cell_below hW h2
  have k3 := pw_cell_below hW h3
  have HW := Lib.hid hW
  clear h1 h2 h3 hW
  obtain ⟨a, ha⟩ : ∃ a, Hid (p i = a) := ⟨_, Lib.hid rfl⟩
  obtain ⟨b, hb⟩ : ∃ b, Hid (q i = b) := ⟨_, Lib.hid rfl⟩
  dsimp only
  rw [ha.out, hb.out]
  obtain ⟨r, hr⟩ : ∃ r, Hid (eqv_r a b = r) := ⟨_, Lib.hid rfl⟩
  have HI : Hid (∀ W : World, Calls Try.prog 51 #[.bool a, .bool b] W fun e w' => e = .returned (.bool r) ∧ w' = W) := Lib.hid (by rw [← hr.out]; exact eqv_is a b)
  rw [hr.out]
  go_enter Try.func64, Try.ntmps64
  go_wp2_with fail
  go_region_with (first | (go_at_call 46; first | ((with_reducible refine (VA.use HV _ ?hb _ ha).mono ?_); (case hb => first | exact HW.out | exact chain HW.out (drewB _) | exact chain HW.out (drewNB _ _)); rintro e w3 ⟨rfl, rfl⟩) | ((with_reducible refine (VA.use HU _ ?hb _ hb).mono ?_); (case hb => first | exact HW.out | exact chain HW.out (drewB _) | exact chain HW.out (drewNB _ _)); rintro e w3 ⟨rfl, rfl⟩)) | (go_at_call 51; (with_reducible refine (HI.out _).mono ?_); rintro e w3 ⟨rfl, rfl⟩))
  all_goals
    go_wp2_with fail
    go_ret
    exact ⟨rfl, _, rfl⟩
/-- A call of firstFalse with the closure. -/
def eqv_FF (w : World) (x y z : Nat) (r : Int) : Prop := ∀ (W : World), Below w.heap.size w W → Calls Try.prog 48 #[.func (.func 64) #[] #[.pointer (some ⟨x, 0, none⟩), .pointer (some ⟨y, 0, none⟩), .pointer (some ⟨z, 0, none⟩)]] W fun e w' => e = .returned (.int .i64 r) ∧ Drawn0 W w'
theorem eqv_FF.use {w : World} {x y z : Nat} {r : Int} (h : Hid (eqv_FF w x y z r)) (W : World) (hW : Below w.heap.size w W) : Calls Try.prog 48 #[.func (.func 64) #[] #[.pointer (some ⟨x, 0, none⟩), .pointer (some ⟨y, 0, none⟩), .pointer (some ⟨z, 0, none⟩)]] W fun e w' => e = .returned (.int .i64 r) ∧ Drawn0 W w' := h.out W hW
set_option maxHeartbeats 2000000 in
theorem eqv_ff (w : World) (x y z : Nat) (p : Int → Bool) (HV : Hid (eqv_C w x y z p)) : eqv_FF w x y z (ff p 64 0) := by
  intro w1 hW
  have HW := Lib.hid hW
  clear hW
  obtain ⟨r, hr⟩ : ∃ r, Hid (ff p 64 0 = r) := ⟨_, Lib.hid rfl⟩
  rw [hr.out]
  go_enter Try.func48, Try.ntmps48
  go_wp2_with fail
  go_loopg [4] 64 (fun kq v4 w' => ∃ (i n : Nat), v4 = .int .i64 (i : Int) ∧ kq + i = 64 ∧ Hid (ff p kq (i : Int) = r) ∧ w' = w1.drewN n)
  case atStart => exact ⟨0, 0, rfl, rfl, hr, rfl⟩
  case round =>
    obtain ⟨i, n, rfl, hk, hf, rfl⟩ := hrel
    by_cases hlt : ((i : Nat) : Int) < 64
    · have hd : decide (((i : Nat) : Int) < 64) = true := decide_eq_true hlt
      obtain ⟨g, rfl⟩ : ∃ g, gk = g + 1 := ⟨gk - 1, by omega⟩
      cases hpi : p ((i : Nat) : Int) with
      | true =>
        have hn := Lib.hid ((ff_hit (k := g) hpi).symm.trans hf.out)
        have hq := Lib.hid hpi
        clear hpi
        go_wp2_with (go_at_call 64; (with_reducible refine (eqv_C.use HV _ (chain HW.out (drewNB _ _)) _ hq).mono ?_); rintro e w3 ⟨rfl, ⟨nd, rfl⟩⟩)
        go_roundg g
        case measure => omega
        case rel => exact ⟨i + 1, _, by simp, by omega, by simpa using hn, rfl⟩
      | false =>
        have hn : r = (i : Int) := hf.out.symm.trans (ff_miss hpi)
        have hq := Lib.hid hpi
        clear hpi hf hr
        subst hn
        go_wp2_with (go_at_call 64; (with_reducible refine (eqv_C.use HV _ (chain HW.out (drewNB _ _)) _ hq).mono ?_); rintro e w3 ⟨rfl, ⟨nd, rfl⟩⟩)
        go_ret
        exact ⟨rfl, _, rfl⟩
    · have hd : decide (((i : Nat) : Int) < 64) = false := decide_eq_false hlt
      obtain rfl : gk = 0 := by omega
      have hn : r = -1 := hf.out.symm
      clear hf hr
      subst hn
      go_wp2_with fail
      go_ret
      exact ⟨rfl, _, rfl⟩
end Go.Proofs.Ytlhencchonhleaa.Man
