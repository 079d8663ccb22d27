/- What the program's functions over a formula's value answer, and their contracts. -/
import Derived.Test.YtlhencchonhleaaManI
namespace Go.Proofs.Ytlhencchonhleaa.Man
open Go.RowKit Go.Proofs.YtlhencchonhleaaW.PrintWords Go.Proofs.Ytlhencchonhleaa.Fm Go.Proofs.Ytlhencchonhleaa.Print
set_option linter.unusedVariables false
set_option linter.unusedSimpArgs false
theorem pn_ {s : ByteArray} (h : whole s.data.toList = none) : PN s := fun W => parse_none h W
theorem ps_ {s : ByteArray} {t : Fm} (h : whole s.data.toList = some t) : PS s t := fun W => parse_some h W
def onF {α : Type} (s : ByteArray) (d : α) (g : Fm → α) : α := match whole s.data.toList with | none => d | some t => g t
theorem onF_none {α : Type} {s : ByteArray} {d : α} {g : Fm → α} (h : whole s.data.toList = none) : onF s d g = d := by unfold onF; rw [h]
theorem onF_some {α : Type} {s : ByteArray} {d : α} {g : Fm → α} {t : Fm} (h : whole s.data.toList = some t) : onF s d g = g t := by unfold onF; rw [h]
def fval (s : ByteArray) (bits : Int) : Bool × Bool := onF s (false, false) fun t => if 0 ≤ bits ∧ bits ≤ 63 then (t.val bits, true) else (false, false)
def fcnt (s : ByteArray) : Int × Bool := onF s (0, false) fun t => ((cnt t.val 64 : Nat), true)
def ftau (s : ByteArray) : Bool × Bool := onF s (false, false) fun t => (decide (ff t.val 64 0 < 0), true)
def ffal (s : ByteArray) : Int × Bool := onF s (0, false) fun t => (if ff t.val 64 0 < 0 then 0 else ff t.val 64 0, !decide (ff t.val 64 0 < 0))
theorem within_ (b : Int) (q : Bool) (h : q = decide (0 ≤ b ∧ b ≤ 63)) : impl_within.f b 0 63 = some q := by
  subst h
  unfold impl_within.f
  by_cases h1 : 0 ≤ b <;> by_cases h2 : b ≤ 63 <;> simp [h1, h2] <;> omega
theorem fval_calls (s : ByteArray) (bits : Int) (w : World) :
    Calls Try.prog 21 #[.string s, .int .i64 bits] w fun e w' => e = .returned (.tuple #[.bool (fval s bits).1, .bool (fval s bits).2]) ∧ Below w.heap.size w w' := by
  unfold fval
  cases h : whole s.data.toList with
  | none => rw [onF_none h]; exact fv_none s bits (Lib.hid (pn_ h)) w
  | some t =>
    rw [onF_some h]
    by_cases hb : 0 ≤ bits ∧ bits ≤ 63
    · rw [if_pos hb]
      exact fv_in s bits t (Lib.hid (whole_some h).1) (Lib.hid (ps_ h)) (Lib.hid (within_ bits true (by simp [hb]))) w
    · rw [if_neg hb]
      exact fv_out s bits t (Lib.hid (ps_ h)) (Lib.hid (within_ bits false (by simp; omega))) w
theorem fcnt_calls (s : ByteArray) (w : World) :
    Calls Try.prog 23 #[.string s] w fun e w' => e = .returned (.tuple #[.int .i64 (fcnt s).1, .bool (fcnt s).2]) ∧ Below w.heap.size w w' := by
  unfold fcnt
  cases h : whole s.data.toList with
  | none => rw [onF_none h]; exact cm_none s (Lib.hid (pn_ h)) w
  | some t => rw [onF_some h]; exact cm_some s t (Lib.hid (whole_some h).1) (Lib.hid (ps_ h)) w
theorem ftau_calls (s : ByteArray) (w : World) :
    Calls Try.prog 25 #[.string s] w fun e w' => e = .returned (.tuple #[.bool (ftau s).1, .bool (ftau s).2]) ∧ Below w.heap.size w w' := by
  unfold ftau
  cases h : whole s.data.toList with
  | none => rw [onF_none h]; exact ta_none s (Lib.hid (pn_ h)) w
  | some t => rw [onF_some h]; exact ta_some s t (Lib.hid (whole_some h).1) (Lib.hid (ps_ h)) w
theorem ffal_calls (s : ByteArray) (w : World) :
    Calls Try.prog 27 #[.string s] w fun e w' => e = .returned (.tuple #[.int .i64 (ffal s).1, .bool (ffal s).2]) ∧ Below w.heap.size w w' := by
  unfold ffal
  cases h : whole s.data.toList with
  | none => rw [onF_none h]; exact fa_none s (Lib.hid (pn_ h)) w
  | some t => rw [onF_some h]; exact fa_some s t (Lib.hid (whole_some h).1) (Lib.hid (ps_ h)) w
end Go.Proofs.Ytlhencchonhleaa.Man
