/- The program's formulas in memory: what parseFrom reads off a text that begins with a bracket. -/
import Derived.Test.YtlhencchonhleaaManB
import Derived.Test.YtlhencchonhleaaShelf
import Derived.Deep.QuietTactic
import Derived.BigQuiet
import Derived.Deep.RegionWith
import Derived.Deep.DeepMust
namespace Go.Proofs.Ytlhencchonhleaa.Man
open Go.RowKit Go.Proofs.YtlhencchonhleaaW.PrintWords Go.Proofs.Ytlhencchonhleaa.Fm Go.Proofs.Ytlhencchonhleaa.Print
set_option linter.unusedVariables false
set_option linter.unusedSimpArgs false

/-- What a call of parseFrom with this text does, where no formula begins .. -/
def No (s : ByteArray) : Prop := ∀ W : World, Calls Try.prog 60 #[.string s] W fun e w' => Below W.heap.size W w' ∧ Nope e
/-- .. and where t does, and r behind it. -/
def Yes (s : ByteArray) (t : Fm) (r : ByteArray) : Prop := ∀ W : World, Calls Try.prog 60 #[.string s] W fun e w' => Below W.heap.size W w' ∧ ∃ v, e = .returned (.tuple #[v, .string r, .bool true]) ∧ FAt w' t v
theorem No.use {s : ByteArray} (h : Hid (No s)) (W : World) : Calls Try.prog 60 #[.string s] W fun e w' => Below W.heap.size W w' ∧ Nope e := h.out W
theorem Yes.use {s : ByteArray} {t : Fm} {r : ByteArray} (h : Hid (Yes s t r)) (W : World) : Calls Try.prog 60 #[.string s] W fun e w' => Below W.heap.size W w' ∧ ∃ v, e = .returned (.tuple #[v, .string r, .bool true]) ∧ FAt w' t v := h.out W

theorem sign_ (op : UInt8) : decide (0 ≤ Lib.indexByte [38, 124, 62] op) = binc op := by
  unfold binc
  by_cases h1 : op = 38
  · subst h1; decide
  by_cases h2 : op = 124
  · subst h2; decide
  by_cases h3 : op = 62
  · subst h3; decide
  have e : Lib.indexByte [38, 124, 62] op = -1 := by
    simp [Lib.indexByte, List.findIdx?_cons, Ne.symm h1, Ne.symm h2, Ne.symm h3]
  rw [e]
  simp [h1, h2, h3]
theorem contains_ (op : UInt8) (W : World) : Calls Try.prog 72 #[.string ⟨#[38, 124, 62]⟩, .string ⟨#[op]⟩] W fun e w' => e = .returned (.bool (binc op)) ∧ w' = W := by
  have := Try.strings_Contains_one ⟨#[38, 124, 62]⟩ op W
  rw [show (⟨#[38, 124, 62]⟩ : ByteArray).data.toList = [38, 124, 62] from rfl, sign_] at this
  exact this

section
variable (s s2 : ByteArray) (h0 : 0 < s.size) (hne : s.toList.isEmpty = false) (hs0 : s[0] = 40) (he : s.extract 1 s.size = s2)
include h0 hne hs0 he
set_option maxHeartbeats 1000000 in
theorem open_none (IH : Hid (No s2)) (w : World) :
    Calls Try.prog 60 #[.string s] w fun e w' => Below w.heap.size w w' ∧ Nope e := by
  have HL : Hid (impl_isLetter.f 40 = some false) := Lib.hid rfl
  go_enter Try.func60, Try.ntmps60
  go_wp2_with fail
  go_region
  go_wp2_with (first | (go_at_call 39; refine (impl_isLetter.calls _ false _ HL.out).mono ?_; rintro e w' ⟨rfl, ⟨nd, rfl⟩⟩) | (go_at_call 60; refine (No.use IH _).mono ?_; rintro e w' ⟨hbl, rfl⟩))
  go_ret3
  exact ⟨(pw_below_drewN (Below.refl _ _) _).trans (by simpa using hbl), rfl⟩
set_option maxHeartbeats 1000000 in
theorem open_end (t : Fm) (IH : Hid (Yes s2 t ⟨#[]⟩)) (w : World) :
    Calls Try.prog 60 #[.string s] w fun e w' => Below w.heap.size w w' ∧ Nope e := by
  have HL : Hid (impl_isLetter.f 40 = some false) := Lib.hid rfl
  go_enter Try.func60, Try.ntmps60
  go_wp2_with fail
  go_region
  go_wp2_with (first | (go_at_call 39; refine (impl_isLetter.calls _ false _ HL.out).mono ?_; rintro e w' ⟨rfl, ⟨nd, rfl⟩⟩) | (go_at_call 60; refine (Yes.use IH _).mono ?_; rintro e w' ⟨hbl, v, rfl, hv⟩; clear hv))
  go_ret3
  exact ⟨(pw_below_drewN (Below.refl _ _) _).trans (by simpa using hbl), rfl⟩
variable (t : Fm) (s3 : ByteArray) (op : UInt8) (IH : Hid (Yes s2 t s3)) (h3 : 0 < s3.size) (hne3 : s3.toList.isEmpty = false) (he3 : s3.extract 0 1 = ⟨#[op]⟩)
include IH h3 hne3 he3
set_option maxHeartbeats 1000000 in
theorem open_sign (hop : binc op = false) (w : World) :
    Calls Try.prog 60 #[.string s] w fun e w' => Below w.heap.size w w' ∧ Nope e := by
  have HL : Hid (impl_isLetter.f 40 = some false) := Lib.hid rfl
  have HC := Lib.hid (contains_ op)
  rw [hop] at HC
  go_enter Try.func60, Try.ntmps60
  go_wp2_with fail
  go_region
  go_wp2_with (first | (go_at_call 39; refine (impl_isLetter.calls _ false _ HL.out).mono ?_; rintro e w' ⟨rfl, ⟨nd, rfl⟩⟩) | (go_at_call 60; refine (Yes.use IH _).mono ?_; rintro e w' ⟨hbl, v, rfl, hv⟩; clear hv) | (go_at_call 72; refine (HC.out _).mono ?_; rintro e w2 ⟨rfl, rfl⟩))
  go_ret3
  exact ⟨(pw_below_drewN (Below.refl _ _) _).trans (by simpa using hbl), rfl⟩
variable (hop : binc op = true) (hs3 : s3[0] = op) (s4 : ByteArray) (he4 : s3.extract 1 s3.size = s4)
include hop hs3 he4
set_option maxHeartbeats 1000000 in
theorem open2_none (IH2 : Hid (No s4)) (w : World) :
    Calls Try.prog 60 #[.string s] w fun e w' => Below w.heap.size w w' ∧ Nope e := by
  have HL : Hid (impl_isLetter.f 40 = some false) := Lib.hid rfl
  have HC := Lib.hid (contains_ op)
  rw [hop] at HC
  go_enter Try.func60, Try.ntmps60
  go_wp2_with fail
  go_region
  go_wp2_with (first | (go_at_call 39; refine (impl_isLetter.calls _ false _ HL.out).mono ?_; rintro e w' ⟨rfl, ⟨nd, rfl⟩⟩) | (go_at_call 72; refine (HC.out _).mono ?_; rintro e w2 ⟨rfl, rfl⟩))
  refine (Yes.use IH _).mono ?_
  rintro e w1 ⟨hbl, v, rfl, hv0⟩
  have HV := Aside0.mk hv0
  clear hv0
  go_wp2_with (first | (go_at_call 72; refine (HC.out _).mono ?_; rintro e w2 ⟨rfl, rfl⟩))
  refine (No.use IH2 _).mono ?_
  rintro e w3 ⟨hbl2, rfl⟩
  go_wp2_with fail
  go_ret3
  exact ⟨((pw_below_drewN (Below.refl _ _) _).trans (by simpa using hbl)).trans (hbl2.mono (by have := hbl.size; simpa using this)), rfl⟩
set_option maxHeartbeats 1000000 in
theorem open2_end (u : Fm) (IH2 : Hid (Yes s4 u ⟨#[]⟩)) (w : World) :
    Calls Try.prog 60 #[.string s] w fun e w' => Below w.heap.size w w' ∧ Nope e := by
  have HL : Hid (impl_isLetter.f 40 = some false) := Lib.hid rfl
  have HC := Lib.hid (contains_ op)
  rw [hop] at HC
  go_enter Try.func60, Try.ntmps60
  go_wp2_with fail
  go_region
  go_wp2_with (first | (go_at_call 39; refine (impl_isLetter.calls _ false _ HL.out).mono ?_; rintro e w' ⟨rfl, ⟨nd, rfl⟩⟩) | (go_at_call 72; refine (HC.out _).mono ?_; rintro e w2 ⟨rfl, rfl⟩))
  refine (Yes.use IH _).mono ?_
  rintro e w1 ⟨hbl, v, rfl, hv0⟩
  have HV := Aside0.mk hv0
  clear hv0
  go_wp2_with (first | (go_at_call 72; refine (HC.out _).mono ?_; rintro e w2 ⟨rfl, rfl⟩))
  refine (Yes.use IH2 _).mono ?_
  rintro e w3 ⟨hbl2, v2, rfl, hv2⟩
  clear hv2
  go_wp2_with fail
  go_ret3
  exact ⟨((pw_below_drewN (Below.refl _ _) _).trans (by simpa using hbl)).trans (hbl2.mono (by have := hbl.size; simpa using this)), rfl⟩
set_option maxHeartbeats 1000000 in
theorem open2_close (u : Fm) (s5 : ByteArray) (IH2 : Hid (Yes s4 u s5)) (h5 : 0 < s5.size) (hne5 : s5.toList.isEmpty = false) (d : UInt8) (hs5 : s5[0] = d) (hd : (((d.toNat : Nat) : Int) != 41) = true) (w : World) :
    Calls Try.prog 60 #[.string s] w fun e w' => Below w.heap.size w w' ∧ Nope e := by
  have HL : Hid (impl_isLetter.f 40 = some false) := Lib.hid rfl
  have HC := Lib.hid (contains_ op)
  rw [hop] at HC
  go_enter Try.func60, Try.ntmps60
  go_wp2_with fail
  go_region
  go_wp2_with (first | (go_at_call 39; refine (impl_isLetter.calls _ false _ HL.out).mono ?_; rintro e w' ⟨rfl, ⟨nd, rfl⟩⟩) | (go_at_call 72; refine (HC.out _).mono ?_; rintro e w2 ⟨rfl, rfl⟩))
  refine (Yes.use IH _).mono ?_
  rintro e w1 ⟨hbl, v, rfl, hv0⟩
  have HV := Aside0.mk hv0
  clear hv0
  go_wp2_with (first | (go_at_call 72; refine (HC.out _).mono ?_; rintro e w2 ⟨rfl, rfl⟩))
  refine (Yes.use IH2 _).mono ?_
  rintro e w3 ⟨hbl2, v2, rfl, hv2⟩
  clear hv2
  go_wp2_with fail
  go_ret3
  exact ⟨((pw_below_drewN (Below.refl _ _) _).trans (by simpa using hbl)).trans (hbl2.mono (by have := hbl.size; simpa using this)), rfl⟩
set_option maxHeartbeats 1000000 in
theorem open2_ok (u : Fm) (s5 : ByteArray) (IH2 : Hid (Yes s4 u s5)) (h5 : 0 < s5.size) (hne5 : s5.toList.isEmpty = false) (hs5 : s5[0] = 41) (s6 : ByteArray) (he6 : s5.extract 1 s5.size = s6) (ht : t.text.length ≤ 1048576) (hu : u.text.length ≤ 1048576) (hop7 : op.toNat < 128) (w : World) :
    Calls Try.prog 60 #[.string s] w fun e w' => Below w.heap.size w w' ∧ ∃ y, e = .returned (.tuple #[y, .string s6, .bool true]) ∧ FAt w' (.bin op t u) y := by
  have HL : Hid (impl_isLetter.f 40 = some false) := Lib.hid rfl
  have HC := Lib.hid (contains_ op)
  rw [hop] at HC
  go_enter Try.func60, Try.ntmps60
  go_wp2_with fail
  go_region
  go_wp2_with (first | (go_at_call 39; refine (impl_isLetter.calls _ false _ HL.out).mono ?_; rintro e w' ⟨rfl, ⟨nd, rfl⟩⟩) | (go_at_call 72; refine (HC.out _).mono ?_; rintro e w2 ⟨rfl, rfl⟩))
  refine (Yes.use IH _).mono ?_
  rintro e w1 ⟨hbl, v, rfl, hv0⟩
  have HV := Aside0.mk hv0
  clear hv0
  go_wp2_with (first | (go_at_call 72; refine (HC.out _).mono ?_; rintro e w2 ⟨rfl, rfl⟩))
  refine (Yes.use IH2 _).mono ?_
  rintro e w3 ⟨hbl2, v2, rfl, hv2⟩
  have HV2 := Aside0.mk hv2
  clear hv2
  go_wp2_with fail
  have HJ : Hid (∀ W : World, Below w3.heap.size w3 W → Calls Try.prog 67 #[.int .u8 ((op.toNat : Nat) : Int), v, v2] W fun e w' => Below W.heap.size W w' ∧ ∃ y, e = .returned y ∧ FAt w' (.bin op t u) y) :=
    Lib.hid (fun W hW => join op hop7 t u ht hu v v2 W ((HV.out.below hbl2).below hW) (HV2.out.below hW))
  go_region_with (first | (go_at_call 67; refine (HJ.out _ ?hb).mono ?_; (case hb => exact pw_below_drewN (Below.refl _ _) 1); rintro e w4 ⟨hb3, y, rfl, hy0⟩; have HY := Aside0.mk hy0; clear hy0))
  all_goals
    go_wp2_with fail
    go_ret3
    exact ⟨chain (chain (chain (chain (drewNB w _) hbl) hbl2) (drewB w3)) hb3, y, rfl, HY.out⟩
end
end Go.Proofs.Ytlhencchonhleaa.Man
