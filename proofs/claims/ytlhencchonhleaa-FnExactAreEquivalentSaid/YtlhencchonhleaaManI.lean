/- What is told of a formula's value: for bits, counted, first false. -/
import Derived.Test.YtlhencchonhleaaManF
import Derived.Test.YtlhencchonhleaaFmT
import Derived.Test.YtlhencchonhleaaFnimplwithin
import Derived.LoopTactic
namespace Go.Proofs.Ytlhencchonhleaa.Man
open Go.RowKit Go.Proofs.YtlhencchonhleaaW.PrintWords Go.Proofs.YtlhencchonhleaaW.PrintLast Go.Proofs.YtlhencchonhleaaW.PrintMore Go.Proofs.Ytlhencchonhleaa.Fm Go.Proofs.Ytlhencchonhleaa.Print
set_option linter.unusedVariables false
set_option linter.unusedSimpArgs false
/-- Every call of value in w. -/
def VA (w : World) (v : Value) (p : Int → Bool) : Prop := ∀ (W : World), Below w.heap.size w W → ∀ (i : Int), Calls Try.prog 46 #[v, .int .i64 i] W fun e w' => e = .returned (.bool (p i)) ∧ w' = W
theorem VA.use {w : World} {v : Value} {p : Int → Bool} (h : Hid (VA w v p)) (W : World) (hW : Below w.heap.size w W) (i : Int) {b : Bool} (hb : Hid (p i = b)) : Calls Try.prog 46 #[v, .int .i64 i] W fun e w' => e = .returned (.bool b) ∧ w' = W := by
  have := h.out W hW i
  rw [hb.out] at this
  exact this
theorem va_ (t : Fm) (w : World) (v : Value) (hw : t.wf) (h : FAt w t v) : VA w v t.val := fun W hW i => value_ t W v i hw (h.below hW)
section
variable (s : ByteArray)
/-- A call of parse with this text, where it is no formula .. -/
def PN : Prop := ∀ W : World, Calls Try.prog 37 #[.string s] W fun e w' => Below W.heap.size W w' ∧ e = .returned (.tuple #[.pointer none, .bool false])
/-- .. and where it is. -/
def PS (t : Fm) : Prop := ∀ W : World, Calls Try.prog 37 #[.string s] W fun e w' => Below W.heap.size W w' ∧ ∃ v, e = .returned (.tuple #[v, .bool true]) ∧ FAt w' t v
theorem PN.use {s : ByteArray} (h : Hid (PN s)) (W : World) : Calls Try.prog 37 #[.string s] W fun e w' => Below W.heap.size W w' ∧ e = .returned (.tuple #[.pointer none, .bool false]) := h.out W
theorem PS.use {s : ByteArray} {t : Fm} (h : Hid (PS s t)) (W : World) : Calls Try.prog 37 #[.string s] W fun e w' => Below W.heap.size W w' ∧ ∃ v, e = .returned (.tuple #[v, .bool true]) ∧ FAt w' t v := h.out W

set_option maxHeartbeats 1000000 in
theorem fv_none (bits : Int) (HP : Hid (PN s)) (w : World) :
    Calls Try.prog 21 #[.string s, .int .i64 bits] w fun e w' => e = .returned (.tuple #[.bool false, .bool false]) ∧ Below w.heap.size w w' := by
  go_enter Try.func21, Try.ntmps21
  go_wp2_with (go_at_call 37; (with_reducible refine (PN.use HP _).mono ?_); rintro e w1 ⟨hb, rfl⟩)
  go_ret2
  exact ⟨rfl, hb⟩
set_option maxHeartbeats 1000000 in
theorem fv_out (bits : Int) (t : Fm) (HP : Hid (PS s t)) (hi : Hid (impl_within.f bits 0 63 = some false)) (w : World) :
    Calls Try.prog 21 #[.string s, .int .i64 bits] w fun e w' => e = .returned (.tuple #[.bool false, .bool false]) ∧ Below w.heap.size w w' := by
  go_enter Try.func21, Try.ntmps21
  go_wp2_with (first | (go_at_call 37; (with_reducible refine (PS.use HP _).mono ?_); rintro e w1 ⟨hb, v, rfl, hv⟩; clear hv) | (go_at_call 45; (with_reducible refine (impl_within.calls _ _ _ false _ hi.out).mono ?_); rintro e w2 ⟨rfl, ⟨nd, rfl⟩⟩))
  go_ret2
  exact ⟨rfl, chain hb (drewNB _ _)⟩
set_option maxHeartbeats 1000000 in
theorem fv_in (bits : Int) (t : Fm) (hw : Hid t.wf) (HP : Hid (PS s t)) (hi : Hid (impl_within.f bits 0 63 = some true)) (w : World) :
    Calls Try.prog 21 #[.string s, .int .i64 bits] w fun e w' => e = .returned (.tuple #[.bool (t.val bits), .bool true]) ∧ Below w.heap.size w w' := by
  obtain ⟨p, hp⟩ : ∃ p, Hid (p = t.val) := ⟨_, Lib.hid rfl⟩
  obtain ⟨r, hr⟩ : ∃ r, Hid (p bits = r) := ⟨_, Lib.hid rfl⟩
  rw [show t.val bits = r by rw [← hr.out, hp.out]]
  go_enter Try.func21, Try.ntmps21
  go_wp2_with (first | (go_at_call 37; (with_reducible refine (PS.use HP _).mono ?_); rintro e w1 ⟨hb, v, rfl, hv⟩; have HV := Lib.hid (va_ t _ v hw.out hv); clear hv; rw [← hp.out] at HV) | (go_at_call 45; (with_reducible refine (impl_within.calls _ _ _ true _ hi.out).mono ?_); rintro e w2 ⟨rfl, ⟨nd, rfl⟩⟩) | (go_at_call 46; (with_reducible refine (VA.use HV _ (drewNB _ _) _ hr).mono ?_); rintro e w3 ⟨rfl, rfl⟩))
  go_ret2
  exact ⟨rfl, chain hb (drewNB _ _)⟩
set_option maxHeartbeats 1000000 in
theorem cm_none (HP : Hid (PN s)) (w : World) :
    Calls Try.prog 23 #[.string s] w fun e w' => e = .returned (.tuple #[.int .i64 0, .bool false]) ∧ Below w.heap.size w w' := by
  go_enter Try.func23, Try.ntmps23
  go_wp2_with (go_at_call 37; (with_reducible refine (PN.use HP _).mono ?_); rintro e w1 ⟨hb, rfl⟩)
  go_ret2
  exact ⟨rfl, hb⟩
set_option maxHeartbeats 2000000 in
theorem cm_some (t : Fm) (hw : Hid t.wf) (HP : Hid (PS s t)) (w : World) :
    Calls Try.prog 23 #[.string s] w fun e w' => e = .returned (.tuple #[.int .i64 (cnt t.val 64 : Nat), .bool true]) ∧ Below w.heap.size w w' := by
  obtain ⟨p, hp⟩ : ∃ p, Hid (p = t.val) := ⟨_, Lib.hid rfl⟩
  rw [← hp.out]
  go_enter Try.func23, Try.ntmps23
  go_wp2_with (first | (go_at_call 37; (with_reducible refine (PS.use HP _).mono ?_); rintro e w1 ⟨hb, v, rfl, hv⟩; have HV := Lib.hid (va_ t _ v hw.out hv); clear hv; rw [← hp.out] at HV))
  go_loopg [6, 15] 64 (fun kq v6 v15 w' => ∃ (i : Nat), v6 = .int .i64 (cnt p i : Nat) ∧ v15 = .int .i64 (i : Int) ∧ kq + i = 64 ∧ w' = w1)
  case atStart => exact ⟨0, rfl, rfl, rfl, rfl⟩
  case round =>
    obtain ⟨i, rfl, rfl, hk, rfl⟩ := hrel
    have hcl := cnt_le p i
    by_cases hlt : ((i : Nat) : Int) < 64
    · have hd : decide (((i : Nat) : Int) < 64) = true := decide_eq_true hlt
      cases hpi : p ((i : Nat) : Int) with
      | true =>
        have hr := Lib.hid hpi
        have hn := Lib.hid (cnt_hit hpi)
        clear hpi
        go_wp2_with (go_at_call 46; (with_reducible refine (VA.use HV _ (Below.refl _ _) _ hr).mono ?_); rintro e w3 ⟨rfl, rfl⟩)
        go_roundg (gk - 1)
        case measure => omega
        case rel => exact ⟨i + 1, by rw [hn.out]; simp, by simp, by omega, rfl⟩
      | false =>
        have hr := Lib.hid hpi
        have hn := Lib.hid (cnt_miss hpi)
        clear hpi
        go_wp2_with (go_at_call 46; (with_reducible refine (VA.use HV _ (Below.refl _ _) _ hr).mono ?_); rintro e w3 ⟨rfl, rfl⟩)
        go_roundg (gk - 1)
        case measure => omega
        case rel => exact ⟨i + 1, by rw [hn.out], by simp, by omega, rfl⟩
    · have hd : decide (((i : Nat) : Int) < 64) = false := decide_eq_false hlt
      obtain rfl : i = 64 := by omega
      go_wp2_with fail
      go_ret2
      exact ⟨rfl, hb⟩
end
/-- A call of firstFalse with the method value. -/
def FF (w : World) (v : Value) (r : Int) : Prop := ∀ (W : World), Below w.heap.size w W → Calls Try.prog 48 #[.func (.func 46) #[v] #[]] W fun e w' => e = .returned (.int .i64 r) ∧ w' = W
theorem FF.use {w : World} {v : Value} {r : Int} (h : Hid (FF w v r)) (W : World) (hW : Below w.heap.size w W) : Calls Try.prog 48 #[.func (.func 46) #[v] #[]] W fun e w' => e = .returned (.int .i64 r) ∧ w' = W := h.out W hW
set_option maxHeartbeats 2000000 in
theorem ff_value (w : World) (v : Value) (p : Int → Bool) (HV : Hid (VA w v p)) : FF w v (ff p 64 0) := by
  intro w1 hW
  have HW := Lib.hid hW
  clear hW
  obtain ⟨r, hr⟩ : ∃ r, Hid (ff p 64 0 = r) := ⟨_, Lib.hid rfl⟩
  rw [hr.out]
  go_enter Try.func48, Try.ntmps48
  go_wp2_with fail
  go_loopg [4] 64 (fun kq v4 w' => ∃ (i : Nat), v4 = .int .i64 (i : Int) ∧ kq + i = 64 ∧ Hid (ff p kq (i : Int) = r) ∧ w' = w1)
  case atStart => exact ⟨0, rfl, rfl, hr, rfl⟩
  case round =>
    obtain ⟨i, rfl, hk, hf, rfl⟩ := hrel
    by_cases hlt : ((i : Nat) : Int) < 64
    · have hd : decide (((i : Nat) : Int) < 64) = true := decide_eq_true hlt
      obtain ⟨g, rfl⟩ : ∃ g, gk = g + 1 := ⟨gk - 1, by omega⟩
      cases hpi : p ((i : Nat) : Int) with
      | true =>
        have hn := Lib.hid ((ff_hit (k := g) hpi).symm.trans hf.out)
        have hq := Lib.hid hpi
        clear hpi
        go_wp2_with (go_at_call 46; (with_reducible refine (VA.use HV _ HW.out _ hq).mono ?_); rintro e w3 ⟨rfl, rfl⟩)
        go_roundg g
        case measure => omega
        case rel => exact ⟨i + 1, by simp, by omega, by simpa using hn, rfl⟩
      | false =>
        have hn : r = (i : Int) := hf.out.symm.trans (ff_miss hpi)
        have hq := Lib.hid hpi
        clear hpi hf hr
        subst hn
        go_wp2_with (go_at_call 46; (with_reducible refine (VA.use HV _ HW.out _ hq).mono ?_); rintro e w3 ⟨rfl, rfl⟩)
        go_ret
        exact ⟨rfl, rfl⟩
    · have hd : decide (((i : Nat) : Int) < 64) = false := decide_eq_false hlt
      obtain rfl : gk = 0 := by omega
      have hn : r = -1 := hf.out.symm
      clear hf hr
      subst hn
      go_wp2_with fail
      go_ret
      exact ⟨rfl, rfl⟩
section
variable (s : ByteArray)
set_option maxHeartbeats 1000000 in
theorem ta_none (HP : Hid (PN s)) (w : World) :
    Calls Try.prog 25 #[.string s] w fun e w' => e = .returned (.tuple #[.bool false, .bool false]) ∧ Below w.heap.size w w' := by
  go_enter Try.func25, Try.ntmps25
  go_wp2_with (go_at_call 37; (with_reducible refine (PN.use HP _).mono ?_); rintro e w1 ⟨hb, rfl⟩)
  go_ret2
  exact ⟨rfl, hb⟩
set_option maxHeartbeats 2000000 in
theorem ta_some (t : Fm) (hw : Hid t.wf) (HP : Hid (PS s t)) (w : World) :
    Calls Try.prog 25 #[.string s] w fun e w' => e = .returned (.tuple #[.bool (decide (ff t.val 64 0 < 0)), .bool true]) ∧ Below w.heap.size w w' := by
  have hmf : ∀ (fn : Fn) (first cap : Array Value) (w : World), (Instr.makeFunc fn first cap).run Try.prog w = .ok (.func fn first cap) w := fun _ _ _ _ => rfl
  obtain ⟨r, hr⟩ : ∃ r, Hid (ff t.val 64 0 = r) := ⟨_, Lib.hid rfl⟩
  rw [hr.out]
  go_enter Try.func25, Try.ntmps25
  go_wp2_with (first | (go_at_call 37; (with_reducible refine (PS.use HP _).mono ?_); rintro e w1 ⟨hb, v, rfl, hv⟩; have HF := Lib.hid (ff_value _ _ _ (Lib.hid (va_ t _ v hw.out hv))); clear hv; rw [hr.out] at HF) | (go_at_call 48; (with_reducible refine (FF.use HF _ (Below.refl _ _)).mono ?_); rintro e w3 ⟨rfl, rfl⟩))
  go_ret2
  exact ⟨rfl, hb⟩
set_option maxHeartbeats 1000000 in
theorem fa_none (HP : Hid (PN s)) (w : World) :
    Calls Try.prog 27 #[.string s] w fun e w' => e = .returned (.tuple #[.int .i64 0, .bool false]) ∧ Below w.heap.size w w' := by
  go_enter Try.func27, Try.ntmps27
  go_wp2_with (go_at_call 37; (with_reducible refine (PN.use HP _).mono ?_); rintro e w1 ⟨hb, rfl⟩)
  go_ret2
  exact ⟨rfl, hb⟩
set_option maxHeartbeats 2000000 in
theorem fa_some (t : Fm) (hw : Hid t.wf) (HP : Hid (PS s t)) (w : World) :
    Calls Try.prog 27 #[.string s] w fun e w' => e = .returned (.tuple #[.int .i64 (if ff t.val 64 0 < 0 then 0 else ff t.val 64 0), .bool (!decide (ff t.val 64 0 < 0))]) ∧ Below w.heap.size w w' := by
  have hmf : ∀ (fn : Fn) (first cap : Array Value) (w : World), (Instr.makeFunc fn first cap).run Try.prog w = .ok (.func fn first cap) w := fun _ _ _ _ => rfl
  obtain ⟨r, hr⟩ : ∃ r, Hid (ff t.val 64 0 = r) := ⟨_, Lib.hid rfl⟩
  rw [hr.out]
  by_cases hneg : r < 0
  · rw [if_pos hneg, show decide (r < 0) = true from decide_eq_true hneg]
    go_enter Try.func27, Try.ntmps27
    go_wp2_with (first | (go_at_call 37; (with_reducible refine (PS.use HP _).mono ?_); rintro e w1 ⟨hb, v, rfl, hv⟩; have HF := Lib.hid (ff_value _ _ _ (Lib.hid (va_ t _ v hw.out hv))); clear hv; rw [hr.out] at HF) | (go_at_call 48; (with_reducible refine (FF.use HF _ (Below.refl _ _)).mono ?_); rintro e w3 ⟨rfl, rfl⟩))
    go_ret2
    exact ⟨rfl, hb⟩
  · rw [if_neg hneg, show decide (r < 0) = false from decide_eq_false hneg]
    go_enter Try.func27, Try.ntmps27
    go_wp2_with (first | (go_at_call 37; (with_reducible refine (PS.use HP _).mono ?_); rintro e w1 ⟨hb, v, rfl, hv⟩; have HF := Lib.hid (ff_value _ _ _ (Lib.hid (va_ t _ v hw.out hv))); clear hv; rw [hr.out] at HF) | (go_at_call 48; (with_reducible refine (FF.use HF _ (Below.refl _ _)).mono ?_); rintro e w3 ⟨rfl, rfl⟩))
    go_ret2
    exact ⟨rfl, hb⟩
end
end Go.Proofs.Ytlhencchonhleaa.Man
