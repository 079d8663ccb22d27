/- The letters of a formula. -/
import Derived.Test.YtlhencchonhleaaManD
import Derived.LoopTactic
namespace Go.Proofs.Ytlhencchonhleaa.Man
open Go.RowKit Go.Proofs.YtlhencchonhleaaW.PrintWords Go.Proofs.YtlhencchonhleaaW.PrintLast Go.Proofs.YtlhencchonhleaaW.PrintMore Go.Proofs.Ytlhencchonhleaa.Fm Go.Proofs.Ytlhencchonhleaa.Print
set_option linter.unusedVariables false
set_option linter.unusedSimpArgs false
/-- The nth letter. -/
def nth (n : Nat) : UInt8 := (97 + n).toUInt8
/-- Of the first n letters those that a text has. -/
def lets (l : List UInt8) : Nat → List UInt8
  | 0 => []
  | n + 1 => lets l n ++ (if 0 ≤ Lib.indexByte l (nth n) then [nth n] else [])
theorem lets_len (l : List UInt8) : ∀ n, (lets l n).length ≤ n
  | 0 => Nat.le_refl _
  | n + 1 => by have := lets_len l n; unfold lets; split <;> simp <;> omega
theorem nth_toNat {n : Nat} (h : n < 6) : (nth n).toNat = 97 + n := by
  unfold nth
  show (97 + n) % 256 = 97 + n
  omega
theorem isLet (i : Int) (n : Nat) (q : Bool) (hi : i = 97 + n) (h : q = decide (n < 6)) : impl_isLetter.f i = some q := by
  subst h
  unfold impl_isLetter.f
  rw [if_pos (by omega)]
  congr 1
  rw [decide_eq_decide]
  omega
theorem ib_ (s : ByteArray) (n : Nat) (i : Int) (hi : i = 97 + n) (r : Int) (hr : Lib.indexByte s.data.toList (nth n) = r) (W : World) : Calls Try.prog 40 #[.string s, .int .u8 i] W fun e w' => e = .returned (.int .i64 r) ∧ w' = W := by
  have := Try.strings_IndexByte s i W
  rw [show i.toNat = 97 + n by omega] at this
  rw [← hr]
  exact this
theorem fl_no (s : ByteArray) (h : whole s.data.toList = none) (w : World) :
    Calls Try.prog 17 #[.string s] w fun e w' => e = .returned (.tuple #[.string ⟨#[]⟩, .bool false]) ∧ Below w.heap.size w w' := by
  have HC := Lib.hid (isFormula s)
  rw [h] at HC
  clear h
  go_enter Try.func17, Try.ntmps17
  go_wp2_with (go_at_call 15; refine (HC.out _).mono ?_; rintro e w1 ⟨rfl, hb⟩)
  go_ret2
  exact ⟨rfl, hb⟩
set_option maxHeartbeats 4000000 in
set_option maxRecDepth 100000 in
theorem fl_yes (s : ByteArray) (t : Fm) (h : whole s.data.toList = some t) (w : World) :
    Calls Try.prog 17 #[.string s] w fun e w' => e = .returned (.tuple #[.string (B8 (lets s.data.toList 6)), .bool true]) ∧ Below w.heap.size w w' := by
  have HC := Lib.hid (isFormula s)
  rw [h] at HC
  clear h
  obtain ⟨z, hz⟩ : ∃ z, Hid (s.data.toList = z) := ⟨_, Lib.hid rfl⟩
  rw [hz.out]
  go_enter Try.func17, Try.ntmps17
  go_wp2_with (go_at_call 15; (with_reducible refine (HC.out _).mono ?_); rintro e w1 ⟨rfl, hb⟩)
  go_loopg [4, 5] 7 (fun kq v4 v5 w' => ∃ (n m : Nat) (x : ByteArray) (i : Int), v4 = .string x ∧ v5 = .int .u8 i ∧ Hid (i = 97 + (n : Int)) ∧ kq + n = 7 ∧ n ≤ 6 ∧ Hid (x = B8 (lets z n)) ∧ w' = w1.drewN m)
  case atStart => exact ⟨0, 0, _, _, rfl, rfl, Lib.hid rfl, rfl, by omega, Lib.hid rfl, rfl⟩
  case round =>
    obtain ⟨n, m, x, i, rfl, rfl, hi, hk, hn6, hx, rfl⟩ := hrel
    have hxs : x.size ≤ 6 := by rw [hx.out, size_B8]; have := lets_len z n; omega
    have hi0 : 97 ≤ i := by have := hi.out; omega
    have hi1 : i ≤ 103 := by have := hi.out; omega
    by_cases hlt : n < 6
    · have HL := Lib.hid (isLet i n true hi.out (by simp [hlt]))
      obtain ⟨r, hr⟩ : ∃ r, Hid (Lib.indexByte z (nth n) = r) := ⟨_, Lib.hid rfl⟩
      have HI := Lib.hid (ib_ s n i hi.out r (by rw [hz.out]; exact hr.out))
      have hen := enc1 (nth n) (by rw [nth_toNat hlt]; omega)
      rw [nth_toNat hlt, show ((97 + n : Nat) : Int) = i by have := hi.out; omega] at hen
      have hes : (Utf8.encode i).size ≤ 1 := by rw [hen, size_B8]; simp
      have HE := Lib.hid hen
      clear hen
      have hi2 : i < 103 := by have := hi.out; omega
      by_cases hr0 : r ≥ 0
      · have hd : decide (r ≥ 0) = true := decide_eq_true hr0
        go_wp2_with (first | (go_at_call 39; (with_reducible refine (impl_isLetter.calls _ true _ HL.out).mono ?_); rintro e w' ⟨rfl, ⟨nd, rfl⟩⟩) | (go_at_call 40; (with_reducible refine (HI.out _).mono ?_); rintro e w' ⟨rfl, rfl⟩))
        go_roundg (gk - 1)
        case measure => omega
        case rel =>
          refine ⟨n + 1, _, _, _, rfl, rfl, Lib.hid (by have := hi.out; omega), by omega, by omega, ?_, rfl⟩
          · exact Lib.hid (by rw [hx.out, HE.out, app_B8, lets, if_pos (by rw [hr.out]; exact hr0)])
      · have hd : decide (r ≥ 0) = false := decide_eq_false hr0
        go_wp2_with (first | (go_at_call 39; (with_reducible refine (impl_isLetter.calls _ true _ HL.out).mono ?_); rintro e w' ⟨rfl, ⟨nd, rfl⟩⟩) | (go_at_call 40; (with_reducible refine (HI.out _).mono ?_); rintro e w' ⟨rfl, rfl⟩))
        go_roundg (gk - 1)
        case measure => omega
        case rel =>
          refine ⟨n + 1, _, _, _, rfl, rfl, Lib.hid (by have := hi.out; omega), by omega, by omega, ?_, rfl⟩
          · exact Lib.hid (by rw [hx.out, lets, if_neg (by rw [hr.out]; omega), List.append_nil])
    · obtain rfl : n = 6 := by omega
      have HL := Lib.hid (isLet i 6 false hi.out (by simp))
      go_wp2_with (first | (go_at_call 39; (with_reducible refine (impl_isLetter.calls _ false _ HL.out).mono ?_); rintro e w' ⟨rfl, ⟨nd, rfl⟩⟩))
      go_ret2
      refine ⟨?_, chain hb (drewNB _ _)⟩
      rw [← hx.out]
      rfl
/-- What FormulaLetters answers. -/
def flet (s : ByteArray) : ByteArray × Bool := if (whole s.data.toList).isSome = true then (B8 (lets s.data.toList 6), true) else (⟨#[]⟩, false)
theorem flet_calls (s : ByteArray) (w : World) :
    Calls Try.prog 17 #[.string s] w fun e w' => e = .returned (.tuple #[.string (flet s).1, .bool (flet s).2]) ∧ Below w.heap.size w w' := by
  unfold flet
  cases h : whole s.data.toList with
  | none => exact fl_no s h w
  | some t => exact fl_yes s t h w
end Go.Proofs.Ytlhencchonhleaa.Man
