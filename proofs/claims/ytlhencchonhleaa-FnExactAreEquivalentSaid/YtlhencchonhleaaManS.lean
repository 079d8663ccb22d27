/- The reference's value of a formula's text, by contract (the shift is one that the print does not take). -/
import Derived.Test.YtlhencchonhleaaPureFm
import Derived.Test.YtlhencchonhleaaWLast
namespace Go.Proofs.Ytlhencchonhleaa.Man
open Go.RowKit Go.Proofs.YtlhencchonhleaaW.PrintWords Go.Proofs.YtlhencchonhleaaW.PrintLast Go.Proofs.YtlhencchonhleaaW.PrintMore Go.Proofs.Ytlhencchonhleaa.Fm Go.Proofs.Ytlhencchonhleaa.Print Go.Proofs.Ytlhencchonhleaa.PFm
set_option linter.unusedVariables false
set_option linter.unusedSimpArgs false
/-- A call of l22Parts. -/
def PC (s : ByteArray) (c : Int) (x y : ByteArray) : Prop := ∀ w : World, Calls Try.prog 62 #[.string s] w fun e w' => e = .returned (.tuple #[.int .u8 c, .string x, .string y]) ∧ Drawn0 w w'
theorem PC.use {s : ByteArray} {c : Int} {x y : ByteArray} (h : Hid (PC s c x y)) (w : World) : Calls Try.prog 62 #[.string s] w fun e w' => e = .returned (.tuple #[.int .u8 c, .string x, .string y]) ∧ Drawn0 w w' := h.out w
theorem pc_ {s : ByteArray} {c : Int} {x y : ByteArray} (h : Ev (fun k => spec_l22Parts.f k s) (c, x, y)) : PC s c x y := fun w => by
  obtain ⟨k, hk⟩ := h.rounds
  exact spec_l22Parts.calls k s c x y w hk
/-- A call of l22Value. -/
def SV (s : ByteArray) (bits : Int) (r : Bool) : Prop := ∀ w : World, Calls Try.prog 44 #[.string s, .int .i64 bits] w fun e w' => e = .returned (.bool r) ∧ Drawn0 w w'
theorem SV.use {s : ByteArray} {bits : Int} {r : Bool} (h : Hid (SV s bits r)) (w : World) : Calls Try.prog 44 #[.string s, .int .i64 bits] w fun e w' => e = .returned (.bool r) ∧ Drawn0 w w' := h.out w
section
variable (s x y : ByteArray) (bits : Int)
set_option maxHeartbeats 1000000 in
theorem sv_0 (HP : Hid (PC s 48 x y)) : SV s bits false := by
  intro w
  go_enter Try.func44, Try.ntmps44
  go_wp2_with (first | (go_at_call 62; (with_reducible refine (PC.use HP _).mono ?_); rintro e w' ⟨rfl, ⟨nd, rfl⟩⟩))
  go_ret
  exact ⟨rfl, by repeat (first | exact Drawn0.refl _ | apply Drawn0.step | exact ⟨_, rfl⟩)⟩
set_option maxHeartbeats 1000000 in
theorem sv_1 (HP : Hid (PC s 49 x y)) : SV s bits true := by
  intro w
  go_enter Try.func44, Try.ntmps44
  go_wp2_with (first | (go_at_call 62; (with_reducible refine (PC.use HP _).mono ?_); rintro e w' ⟨rfl, ⟨nd, rfl⟩⟩))
  go_ret
  exact ⟨rfl, by repeat (first | exact Drawn0.refl _ | apply Drawn0.step | exact ⟨_, rfl⟩)⟩
set_option maxHeartbeats 1000000 in
theorem sv_neg (r : Bool) (HP : Hid (PC s 126 x y)) (IH : Hid (SV x bits r)) : SV s bits (!r) := by
  intro w
  go_enter Try.func44, Try.ntmps44
  go_wp2_with (first | (go_at_call 62; (with_reducible refine (PC.use HP _).mono ?_); rintro e w' ⟨rfl, ⟨nd, rfl⟩⟩) | (go_at_call 44; (with_reducible refine (SV.use IH _).mono ?_); rintro e w' ⟨rfl, ⟨nd, rfl⟩⟩))
  go_ret
  exact ⟨rfl, by repeat (first | exact Drawn0.refl _ | apply Drawn0.step | exact ⟨_, rfl⟩)⟩
set_option maxHeartbeats 1000000 in
theorem sv_and (r q : Bool) (HP : Hid (PC s 38 x y)) (IH : Hid (SV x bits r)) (IH2 : Hid (SV y bits q)) : SV s bits (r && q) := by
  cases r
  all_goals
    intro w
    go_enter Try.func44, Try.ntmps44
    go_wp2_with (first | (go_at_call 62; (with_reducible refine (PC.use HP _).mono ?_); rintro e w' ⟨rfl, ⟨nd, rfl⟩⟩) | ((with_reducible refine gate_callee (f := 44) rfl ?_); refine goesL_ (some 29) rfl rfl Try.func44 (by kernel_rfl) rfl #[.string x, .int .i64 bits] rfl (by (try simp only [List.map_toArray, List.map_cons, List.map_nil]); first | done | rfl) ?_; (with_reducible refine (SV.use IH _).mono ?_); rintro e w' ⟨rfl, ⟨nd, rfl⟩⟩; refine ⟨_, rfl, ?_⟩) | (go_at_call 44; (with_reducible refine (SV.use IH2 _).mono ?_); rintro e w' ⟨rfl, ⟨nd, rfl⟩⟩))
    go_ret
    exact ⟨rfl, by repeat (first | exact Drawn0.refl _ | apply Drawn0.step | exact ⟨_, rfl⟩)⟩
set_option maxHeartbeats 1000000 in
theorem sv_or (r q : Bool) (HP : Hid (PC s 124 x y)) (IH : Hid (SV x bits r)) (IH2 : Hid (SV y bits q)) : SV s bits (r || q) := by
  cases r
  all_goals
    intro w
    go_enter Try.func44, Try.ntmps44
    go_wp2_with (first | (go_at_call 62; (with_reducible refine (PC.use HP _).mono ?_); rintro e w' ⟨rfl, ⟨nd, rfl⟩⟩) | ((with_reducible refine gate_callee (f := 44) rfl ?_); refine goesL_ (some 39) rfl rfl Try.func44 (by kernel_rfl) rfl #[.string x, .int .i64 bits] rfl (by (try simp only [List.map_toArray, List.map_cons, List.map_nil]); first | done | rfl) ?_; (with_reducible refine (SV.use IH _).mono ?_); rintro e w' ⟨rfl, ⟨nd, rfl⟩⟩; refine ⟨_, rfl, ?_⟩) | (go_at_call 44; (with_reducible refine (SV.use IH2 _).mono ?_); rintro e w' ⟨rfl, ⟨nd, rfl⟩⟩))
    go_ret
    exact ⟨rfl, by repeat (first | exact Drawn0.refl _ | apply Drawn0.step | exact ⟨_, rfl⟩)⟩
set_option maxHeartbeats 1000000 in
theorem sv_imp (r q : Bool) (HP : Hid (PC s 62 x y)) (IH : Hid (SV x bits r)) (IH2 : Hid (SV y bits q)) : SV s bits (!r || q) := by
  cases r
  all_goals
    intro w
    go_enter Try.func44, Try.ntmps44
    go_wp2_with (first | (go_at_call 62; (with_reducible refine (PC.use HP _).mono ?_); rintro e w' ⟨rfl, ⟨nd, rfl⟩⟩) | ((with_reducible refine gate_callee (f := 44) rfl ?_); refine goesL_ (some 49) rfl rfl Try.func44 (by kernel_rfl) rfl #[.string x, .int .i64 bits] rfl (by (try simp only [List.map_toArray, List.map_cons, List.map_nil]); first | done | rfl) ?_; (with_reducible refine (SV.use IH _).mono ?_); rintro e w' ⟨rfl, ⟨nd, rfl⟩⟩; refine ⟨_, rfl, ?_⟩) | (go_at_call 44; (with_reducible refine (SV.use IH2 _).mono ?_); rintro e w' ⟨rfl, ⟨nd, rfl⟩⟩))
    go_ret
    exact ⟨rfl, by repeat (first | exact Drawn0.refl _ | apply Drawn0.step | exact ⟨_, rfl⟩)⟩
set_option maxHeartbeats 1000000 in
theorem sv_letter (c : UInt8) (hc : 97 ≤ c.toNat) (hc2 : c.toNat < 103) (HP : Hid (PC s (c.toNat : Int) x y))
    (n1 : (((c.toNat : Nat) : Int) == 48) = false) (n2 : (((c.toNat : Nat) : Int) == 49) = false) (n3 : (((c.toNat : Nat) : Int) == 126) = false) (n4 : (((c.toNat : Nat) : Int) == 38) = false) (n5 : (((c.toNat : Nat) : Int) == 124) = false) (n6 : (((c.toNat : Nat) : Int) == 62) = false) :
    SV s bits (lval c bits) := by
  intro w
  go_enter Try.func44, Try.ntmps44
  go_wp2_with ((go_at_call 62; (with_reducible refine (PC.use HP _).mono ?_); rintro e w' ⟨rfl, ⟨nd, rfl⟩⟩))
  go_ret
  refine ⟨?_, ⟨_, rfl⟩⟩
  have e : bits / 2 ^ (c.toNat - 97) = shr .i64 bits (((c.toNat : Nat) - 97 : Int) % 256) := by
    unfold shr
    rw [show (((c.toNat : Nat) - 97 : Int) % 256) = ((c.toNat - 97 : Nat) : Int) by omega, Int.toNat_natCast, Nat.min_eq_left (by show c.toNat - 97 ≤ 64; omega)]
  rw [e]
  rfl
end
theorem bNe {c : UInt8} {n : Nat} (h : c.toNat ≠ n) : ((((c.toNat : Nat) : Int)) == (n : Int)) = false := by
  simp
  omega
theorem sv_ : ∀ (t : Fm) (bits : Int), t.wf → t.text.length ≤ 1000 → SV (B8 t.text) bits (t.val bits)
  | .leaf c, bits, hw, hl => by
    have HP := pc_ (parts_leaf c hw)
    unfold Fm.val
    rcases leafc_cases hw with rfl | rfl | ⟨_, h1, h2⟩
    · exact sv_0 _ _ _ bits (Lib.hid HP)
    · exact sv_1 _ _ _ bits (Lib.hid HP)
    · rw [if_neg (by rintro rfl; exact absurd h1 (by decide)), if_neg (by rintro rfl; exact absurd h1 (by decide))]
      exact sv_letter _ _ _ bits c h1 h2 (Lib.hid HP) (bNe (n := 48) (by omega)) (bNe (n := 49) (by omega)) (bNe (n := 126) (by omega)) (bNe (n := 38) (by omega)) (bNe (n := 124) (by omega)) (bNe (n := 62) (by omega))
  | .neg a, bits, hw, hl => sv_neg _ _ _ bits _ (Lib.hid (pc_ (parts_neg a))) (Lib.hid (sv_ a bits hw (by simp [Fm.text] at hl; omega)))
  | .bin op a b, bits, hw, hl => by
    have HP := pc_ (parts_bin op a b hw (by omega))
    have ha := Lib.hid (sv_ a bits hw.2.1 (by simp [Fm.text] at hl; omega))
    have hb := Lib.hid (sv_ b bits hw.2.2 (by simp [Fm.text] at hl; omega))
    unfold Fm.val
    rcases binc_cases hw.1 with rfl | rfl | rfl
    · exact sv_and _ _ _ bits _ _ (Lib.hid HP) ha hb
    · exact sv_or _ _ _ bits _ _ (Lib.hid HP) ha hb
    · exact sv_imp _ _ _ bits _ _ (Lib.hid HP) ha hb
/-- What l22Value tells of a text: of a formula's alone, of at most 1000 bytes. -/
def sval (s : ByteArray) (bits : Int) : Option Bool := if s.size ≤ 1000 then (match pre s.data.toList with | some (t, []) => some (t.val bits) | _ => none) else none
theorem sval_calls (s : ByteArray) (bits : Int) (r : Bool) (w : World) (h : sval s bits = some r) : Calls Try.prog 44 #[.string s, .int .i64 bits] w fun e w' => e = .returned (.bool r) ∧ Drawn0 w w' := by
  unfold sval at h
  by_cases hs : s.size ≤ 1000
  case neg => rw [if_neg hs] at h; cases h
  rw [if_pos hs] at h
  have hsz : s.size = s.data.toList.length := by show s.data.size = _; rw [Array.length_toList]
  cases hp : pre s.data.toList with
  | none => rw [hp] at h; cases h
  | some q =>
    obtain ⟨t, rest⟩ := q
    rw [hp] at h
    cases rest with
    | cons c rest => cases h
    | nil =>
      cases h
      obtain ⟨hw, he⟩ := pf_sound _ _ _ _ hp
      rw [List.append_nil] at he
      have hst : s = B8 t.text := by rw [← he]; exact B8_data s
      rw [hst]
      exact sv_ t bits hw (by rw [← he]; omega) w
theorem sval_text (t : Fm) (bits : Int) (hw : t.wf) (hl : t.text.length ≤ 1000) : sval (B8 t.text) bits = some (t.val bits) := by
  unfold sval
  have hd : (B8 t.text).data.toList = t.text := by simp [B8]
  have hp : pre t.text = some (t, []) := by
    have := pf_complete t t.text.length [] hw (Nat.le_refl _)
    rw [List.append_nil] at this
    exact this
  rw [if_pos (by rw [size_B8]; exact hl), hd, hp]
end Go.Proofs.Ytlhencchonhleaa.Man
