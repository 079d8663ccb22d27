/- The program's formulas in memory: their value and their depth. -/
import Derived.Test.YtlhencchonhleaaManD
import Derived.Test.YtlhencchonhleaaFmS
import Derived.Test.YtlhencchonhleaaWLast
namespace Go.Proofs.Ytlhencchonhleaa.Man
open Go.RowKit Go.Proofs.YtlhencchonhleaaW.PrintWords Go.Proofs.YtlhencchonhleaaW.PrintLast Go.Proofs.YtlhencchonhleaaW.PrintMore Go.Proofs.Ytlhencchonhleaa.Fm Go.Proofs.Ytlhencchonhleaa.Print
set_option linter.unusedVariables false
set_option linter.unusedSimpArgs false

/-- A call of value. -/
def VC (w : World) (v : Value) (bits : Int) (r : Bool) : Prop := Calls Try.prog 46 #[v, .int .i64 bits] w fun e w' => e = .returned (.bool r) ∧ w' = w
theorem VC.use {w : World} {v : Value} {bits : Int} {r : Bool} (h : Hid (VC w v bits r)) : Calls Try.prog 46 #[v, .int .i64 bits] w fun e w' => e = .returned (.bool r) ∧ w' = w := h.out
section
variable (w : World) (b : Nat) (bits : Int)
set_option maxHeartbeats 1000000 in
theorem val_0 (h0 : w.cell? ⟨b, 0, none⟩ = some (.int .u8 48)) : VC w (.pointer (some ⟨b, 0, none⟩)) bits false := by
  unfold VC
  go_enter Try.func46, Try.ntmps46
  go_wp2_with fail
  go_ret
  exact ⟨rfl, rfl⟩
set_option maxHeartbeats 1000000 in
theorem val_1 (h0 : w.cell? ⟨b, 0, none⟩ = some (.int .u8 49)) : VC w (.pointer (some ⟨b, 0, none⟩)) bits true := by
  unfold VC
  go_enter Try.func46, Try.ntmps46
  go_wp2_with fail
  go_ret
  exact ⟨rfl, rfl⟩
set_option maxHeartbeats 1000000 in
theorem val_neg (va : Value) (r : Bool) (h0 : w.cell? ⟨b, 0, none⟩ = some (.int .u8 126)) (h1 : w.cell? ⟨b, 1, none⟩ = some va) (IH : Hid (VC w va bits r)) : VC w (.pointer (some ⟨b, 0, none⟩)) bits (!r) := by
  unfold VC
  go_enter Try.func46, Try.ntmps46
  go_wp2_with fail
  refine (VC.use IH).mono ?_
  rintro e w' ⟨rfl, rfl⟩
  go_wp2_with fail
  go_ret
  exact ⟨rfl, rfl⟩
variable (va vc : Value) (r q : Bool) (h1 : w.cell? ⟨b, 1, none⟩ = some va) (h2 : w.cell? ⟨b, 2, none⟩ = some vc) (IA : Hid (VC w va bits r)) (IC : Hid (VC w vc bits q))
include h1 h2 IA IC
set_option maxHeartbeats 1000000 in
theorem val_and (h0 : w.cell? ⟨b, 0, none⟩ = some (.int .u8 38)) : VC w (.pointer (some ⟨b, 0, none⟩)) bits (r && q) := by
  unfold VC
  cases r
  all_goals
    go_enter Try.func46, Try.ntmps46
    go_wp2_with (first | ((with_reducible refine gate_callee (f := 46) rfl ?_); refine goesL_ (some 33) rfl rfl Try.func46 (by kernel_rfl) rfl #[va, .int .i64 bits] rfl (by (try simp only [List.map_toArray, List.map_cons, List.map_nil]); first | done | rfl) ?_; (with_reducible refine (VC.use IA).mono ?_); rintro e w' ⟨rfl, rfl⟩; refine ⟨_, rfl, ?_⟩) | (go_at_call 46; (with_reducible refine (VC.use IC).mono ?_); rintro e w' ⟨rfl, rfl⟩))
    go_ret
    exact ⟨rfl, rfl⟩
set_option maxHeartbeats 1000000 in
theorem val_or (h0 : w.cell? ⟨b, 0, none⟩ = some (.int .u8 124)) : VC w (.pointer (some ⟨b, 0, none⟩)) bits (r || q) := by
  unfold VC
  cases r
  all_goals
    go_enter Try.func46, Try.ntmps46
    go_wp2_with (first | ((with_reducible refine gate_callee (f := 46) rfl ?_); refine goesL_ (some 49) rfl rfl Try.func46 (by kernel_rfl) rfl #[va, .int .i64 bits] rfl (by (try simp only [List.map_toArray, List.map_cons, List.map_nil]); first | done | rfl) ?_; (with_reducible refine (VC.use IA).mono ?_); rintro e w' ⟨rfl, rfl⟩; refine ⟨_, rfl, ?_⟩) | (go_at_call 46; (with_reducible refine (VC.use IC).mono ?_); rintro e w' ⟨rfl, rfl⟩))
    go_ret
    exact ⟨rfl, rfl⟩
set_option maxHeartbeats 1000000 in
theorem val_imp (h0 : w.cell? ⟨b, 0, none⟩ = some (.int .u8 62)) : VC w (.pointer (some ⟨b, 0, none⟩)) bits (!r || q) := by
  unfold VC
  cases r
  all_goals
    go_enter Try.func46, Try.ntmps46
    go_wp2_with (first | ((with_reducible refine gate_callee (f := 46) rfl ?_); refine goesL_ (some 65) rfl rfl Try.func46 (by kernel_rfl) rfl #[va, .int .i64 bits] rfl (by (try simp only [List.map_toArray, List.map_cons, List.map_nil]); first | done | rfl) ?_; (with_reducible refine (VC.use IA).mono ?_); rintro e w' ⟨rfl, rfl⟩; refine ⟨_, rfl, ?_⟩) | (go_at_call 46; (with_reducible refine (VC.use IC).mono ?_); rintro e w' ⟨rfl, rfl⟩))
    go_ret
    exact ⟨rfl, rfl⟩
end
set_option maxHeartbeats 1000000 in
theorem val_letter (w : World) (b : Nat) (bits : Int) (c : UInt8) (h0 : w.cell? ⟨b, 0, none⟩ = some (.int .u8 (c.toNat : Int))) (hc : 97 ≤ c.toNat) (hc2 : c.toNat < 103)
    (n1 : (((c.toNat : Nat) : Int) == 48) = false) (n2 : (((c.toNat : Nat) : Int) == 49) = false) (n3 : (((c.toNat : Nat) : Int) == 126) = false) (n4 : (((c.toNat : Nat) : Int) == 38) = false) (n5 : (((c.toNat : Nat) : Int) == 124) = false) (n6 : (((c.toNat : Nat) : Int) == 62) = false) :
    VC w (.pointer (some ⟨b, 0, none⟩)) bits (lval c bits) := by
  unfold VC
  go_enter Try.func46, Try.ntmps46
  go_wp2_with fail
  go_ret
  refine ⟨?_, rfl⟩
  have e : bits / 2 ^ (c.toNat - 97) = shr .i64 bits (((c.toNat : Nat) - 97 : Int) % 256) := by
    unfold shr
    rw [show (((c.toNat : Nat) - 97 : Int) % 256) = ((c.toNat - 97 : Nat) : Int) by omega, Int.toNat_natCast, Nat.min_eq_left (by show c.toNat - 97 ≤ 64; omega)]
  rw [e]
  rfl
end Go.Proofs.Ytlhencchonhleaa.Man
