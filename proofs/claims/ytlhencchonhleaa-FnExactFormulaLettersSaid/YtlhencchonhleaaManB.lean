/- The program's formulas in memory: what parseFrom reads off a text. -/
import Derived.Test.YtlhencchonhleaaManA
import Derived.Test.YtlhencchonhleaaFnimplisLetter
import Derived.Outline
namespace Go.Proofs.Ytlhencchonhleaa.Man
open Go.RowKit Go.Proofs.YtlhencchonhleaaW.PrintWords Go.Proofs.Ytlhencchonhleaa.Fm Go.Proofs.Ytlhencchonhleaa.Print
set_option linter.unusedVariables false
set_option linter.unusedSimpArgs false

/-- What parseFrom hands back. -/
def PRes (o : Option (Fm × List UInt8)) (e : Ending) (w' : World) : Prop :=
  match o with
  | none => e = .returned (.tuple #[.pointer none, .string ⟨#[]⟩, .bool false])
  | some (t, r) => ∃ v, e = .returned (.tuple #[v, .string (B8 r), .bool true]) ∧ FAt w' t v

set_option maxHeartbeats 1000000 in
theorem parse_nil (w : World) :
    Calls Try.prog 60 #[.string ⟨#[]⟩] w fun e w' => Below w.heap.size w w' ∧ PRes none e w' := by
  go_enter Try.func60, Try.ntmps60
  go_wp2_with fail
  go_ret3
  exact ⟨Below.refl _ _, rfl⟩
theorem isLetter_f (c : UInt8) : impl_isLetter.f ((c.toNat : Nat) : Int) = some (letter c) := by
  unfold impl_isLetter.f letter
  by_cases h : 97 ≤ c.toNat
  · rw [if_pos (by omega)]
    by_cases h2 : c.toNat < 103 <;> simp [h, h2] <;> omega
  · rw [if_neg (by omega)]
    simp [h]

set_option maxHeartbeats 1000000 in
theorem parse_letter (s : ByteArray) (c : UInt8) (s2 : ByteArray) (h0 : 0 < s.size) (hne : s.toList.isEmpty = false) (hs0 : s[0] = c) (he : s.extract 1 s.size = s2) (hl : letter c = true) (w : World) :
    Calls Try.prog 60 #[.string s] w fun e w' => Below w.heap.size w w' ∧ ∃ v, e = .returned (.tuple #[v, .string s2, .bool true]) ∧ FAt w' (.leaf c) v := by
  have h127 : c.toNat < 128 := by unfold letter at hl; simp at hl; omega
  have HL : Hid (impl_isLetter.f ((c.toNat : Nat) : Int) = some true) := Lib.hid (by rw [isLetter_f, hl])
  clear hl
  go_enter Try.func60, Try.ntmps60
  go_wp2_with fail
  go_region
  go_wp2_with (first | (go_at_call 39; refine (impl_isLetter.calls _ true _ HL.out).mono ?_; rintro e w' ⟨rfl, ⟨nd, rfl⟩⟩) | (go_at_call 66; refine (leaf c h127 _).mono ?_; rintro e w' ⟨hb, v, rfl, hv⟩))
  go_ret3
  exact ⟨(pw_below_drewN (Below.refl _ _) _).trans (by simpa using hb), v, rfl, hv⟩

/-- What is handed back where no formula begins. -/
def Nope (e : Ending) : Prop := e = .returned (.tuple #[.pointer none, .string ⟨#[]⟩, .bool false])
abbrev PF := 60

set_option maxHeartbeats 1000000 in
theorem parse_digit (s : ByteArray) (c : UInt8) (s2 : ByteArray) (h0 : 0 < s.size) (hne : s.toList.isEmpty = false) (hs0 : s[0] = c) (he : s.extract 1 s.size = s2) (hl : c = 48 ∨ c = 49) (w : World) :
    Calls Try.prog 60 #[.string s] w fun e w' => Below w.heap.size w w' ∧ ∃ v, e = .returned (.tuple #[v, .string s2, .bool true]) ∧ FAt w' (.leaf c) v := by
  have HL : Hid (impl_isLetter.f ((c.toNat : Nat) : Int) = some false) := Lib.hid (by rw [isLetter_f]; rcases hl with rfl | rfl <;> rfl)
  have h127 : c.toNat < 128 := by rcases hl with rfl | rfl <;> decide
  have HC : Hid (∀ W : World, Calls Try.prog 66 #[.int .u8 ((c.toNat : Nat) : Int)] W fun e w' => Below W.heap.size W w' ∧ ∃ v, e = .returned v ∧ FAt w' (.leaf c) v) := Lib.hid (leaf c h127)
  have hcase : (((c.toNat : Nat) : Int) == 48) = true ∨ ((((c.toNat : Nat) : Int) == 48) = false ∧ (((c.toNat : Nat) : Int) == 49) = true) := by
    rcases hl with rfl | rfl
    · exact .inl rfl
    · exact .inr ⟨rfl, rfl⟩
  clear hl
  rcases hcase with hb | ⟨hb, hb2⟩
  all_goals
    go_enter Try.func60, Try.ntmps60
    go_wp2_with fail
    go_region
    go_wp2_with (first | (go_at_call 39; refine (impl_isLetter.calls _ false _ HL.out).mono ?_; rintro e w' ⟨rfl, ⟨nd, rfl⟩⟩) | (go_at_call 66; refine (HC.out _).mono ?_; rintro e w' ⟨hbl, v, rfl, hv⟩))
    go_ret3
    exact ⟨(pw_below_drewN (Below.refl _ _) _).trans (by simpa using hbl), v, rfl, hv⟩

set_option maxHeartbeats 1000000 in
theorem parse_other (s : ByteArray) (c : UInt8) (s2 : ByteArray) (h0 : 0 < s.size) (hne : s.toList.isEmpty = false) (hs0 : s[0] = c) (he : s.extract 1 s.size = s2) (hl : letter c = false) (h48 : c ≠ 48) (h49 : c ≠ 49) (h126 : c ≠ 126) (h40 : c ≠ 40) (w : World) :
    Calls Try.prog 60 #[.string s] w fun e w' => Below w.heap.size w w' ∧ Nope e := by
  have HL : Hid (impl_isLetter.f ((c.toNat : Nat) : Int) = some false) := Lib.hid (by rw [isLetter_f, hl])
  have key : ∀ d : UInt8, c ≠ d → (((c.toNat : Nat) : Int) == ((d.toNat : Nat) : Int)) = false := by
    intro d hd
    rw [beq_eq_false_iff_ne]
    intro e
    exact hd (UInt8.toNat_inj.1 (by omega))
  have b48 : (((c.toNat : Nat) : Int) == 48) = false := key 48 h48
  have b49 : (((c.toNat : Nat) : Int) == 49) = false := key 49 h49
  have b126 : (((c.toNat : Nat) : Int) == 126) = false := key 126 h126
  have b40 : (((c.toNat : Nat) : Int) == 40) = false := key 40 h40
  have n40 : (((c.toNat : Nat) : Int) != 40) = true := by rw [bne, b40]; rfl
  clear hl key h48 h49 h126 h40
  go_enter Try.func60, Try.ntmps60
  go_wp2_with fail
  go_region
  go_wp2_with (first | (go_at_call 39; refine (impl_isLetter.calls _ false _ HL.out).mono ?_; rintro e w' ⟨rfl, ⟨nd, rfl⟩⟩))
  go_ret3
  exact ⟨pw_below_drewN (Below.refl _ _) _, rfl⟩

set_option maxHeartbeats 1000000 in
theorem parse_neg_none (s s2 : ByteArray) (h0 : 0 < s.size) (hne : s.toList.isEmpty = false) (hs0 : s[0] = 126) (he : s.extract 1 s.size = s2)
    (IH : Hid (∀ W : World, Calls Try.prog 60 #[.string s2] W fun e w' => Below W.heap.size W w' ∧ Nope e)) (w : World) :
    Calls Try.prog 60 #[.string s] w fun e w' => Below w.heap.size w w' ∧ Nope e := by
  have HL : Hid (impl_isLetter.f 126 = some false) := Lib.hid rfl
  go_enter Try.func60, Try.ntmps60
  go_wp2_with fail
  go_region
  go_wp2_with (first | (go_at_call 39; refine (impl_isLetter.calls _ false _ HL.out).mono ?_; rintro e w' ⟨rfl, ⟨nd, rfl⟩⟩) | (go_at_call 60; refine (IH.out _).mono ?_; rintro e w' ⟨hbl, rfl⟩))
  go_ret3
  exact ⟨(pw_below_drewN (Below.refl _ _) _).trans (by simpa using hbl), rfl⟩

set_option maxHeartbeats 1000000 in
theorem parse_neg_some (s s2 : ByteArray) (t : Fm) (ht : t.text.length ≤ 1048576) (s3 : ByteArray) (h0 : 0 < s.size) (hne : s.toList.isEmpty = false) (hs0 : s[0] = 126) (he : s.extract 1 s.size = s2)
    (IH : Hid (∀ W : World, Calls Try.prog 60 #[.string s2] W fun e w' => Below W.heap.size W w' ∧ ∃ v, e = .returned (.tuple #[v, .string s3, .bool true]) ∧ FAt w' t v)) (w : World) :
    Calls Try.prog 60 #[.string s] w fun e w' => Below w.heap.size w w' ∧ ∃ v, e = .returned (.tuple #[v, .string s3, .bool true]) ∧ FAt w' (.neg t) v := by
  have HL : Hid (impl_isLetter.f 126 = some false) := Lib.hid rfl
  go_enter Try.func60, Try.ntmps60
  go_wp2_with fail
  go_region
  go_wp2_with (first | (go_at_call 39; refine (impl_isLetter.calls _ false _ HL.out).mono ?_; rintro e w' ⟨rfl, ⟨nd, rfl⟩⟩) | (go_at_call 60; refine (IH.out _).mono ?_; rintro e w' ⟨hbl, v, rfl, hv0⟩; have HV := Aside0.mk hv0; clear hv0) | (go_at_call 68; refine (not_ t ht _ _ HV.out).mono ?_; rintro e w2 ⟨hbl2, u, rfl, hu⟩))
  go_ret3
  refine ⟨((pw_below_drewN (Below.refl _ _) _).trans (by simpa using hbl)).trans ?_, u, rfl, hu⟩
  exact hbl2.mono (by have := hbl.size; simpa using this)
end Go.Proofs.Ytlhencchonhleaa.Man
