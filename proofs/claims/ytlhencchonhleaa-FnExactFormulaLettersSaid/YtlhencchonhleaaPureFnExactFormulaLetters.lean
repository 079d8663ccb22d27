/- The plain half of FnExactFormulaLetters. No condition. -/
import Derived.Test.YtlhencchonhleaaFnlawsFnExactFormulaLetters
import Derived.Test.YtlhencchonhleaaPureFmH
namespace Go.Proofs.Ytlhencchonhleaa.Pure
open Go.RowKit Go.Proofs.YtlhencchonhleaaW.PrintWords Go.Proofs.Ytlhencchonhleaa.Fm Go.Proofs.Ytlhencchonhleaa.XEv Go.Proofs.Ytlhencchonhleaa.Print Go.Proofs.Ytlhencchonhleaa.Man Go.Proofs.Ytlhencchonhleaa.PFm
set_option linter.unusedVariables false
theorem fl_step (s : ByteArray) (hs : s.size ≤ 1000000000000) (n : Nat) (hn : n < 6) (r : ByteArray × Bool) (h : Ev (fun k => spec_FormulaLetters.l0 k s (B8 (lets s.data.toList (n + 1))) ((n + 1 : Nat) : Int)) r) : Ev (fun k => spec_FormulaLetters.l0 k s (B8 (lets s.data.toList n)) (n : Int)) r := by
  have hw : wrap64 ((n : Int) + 1) = ((n + 1 : Nat) : Int) := by rw [wrap_in (by omega) (by omega)]; rfl
  have he : (⟨#[97, 98, 99, 100, 101, 102]⟩ : ByteArray).extract ((n : Int)).toNat (((n + 1 : Nat) : Int)).toNat = B8 [nth n] := by
    rw [Int.toNat_natCast, Int.toNat_natCast, show (⟨#[97, 98, 99, 100, 101, 102]⟩ : ByteArray) = B8 [97, 98, 99, 100, 101, 102] from rfl, B8_extract]
    match n, hn with
    | 0, _ => rfl
    | 1, _ => rfl
    | 2, _ => rfl
    | 3, _ => rfl
    | 4, _ => rfl
    | 5, _ => rfl
  refine estep (fun k => spec_FormulaLetters.l0.eq_2 (k := k) ..) (epos (by omega) (epos (by omega) ?_))
  rw [hw, he]
  refine epos (by omega) (epos (by omega) (epos (by rw [size_B8]; simp) ?_))
  rw [show bt (B8 [nth n]) 0 = ((nth n).toNat : Int) from bt_mid [] (nth n) []]
  refine ebind (has_ s (nth n) hs) ?_
  rw [Lib.contains_iff_indexByte]
  by_cases hi : 0 ≤ Lib.indexByte s.data.toList (nth n)
  · refine epos (by simp [hi]) (epos (by rw [size_B8, size_B8]; have := lets_len s.data.toList n; simp; omega) ?_)
    rw [app_B8]
    rw [lets, if_pos hi] at h
    exact h
  · refine eneg (by simp; omega) ?_
    rw [lets, if_neg hi, List.append_nil] at h
    exact h
theorem FnExactFormulaLetters : laws_FnExactFormulaLetters.Pure := by
  intro s hs
  refine Ev.rounds ?_
  unfold laws_FnExactFormulaLetters.f
  by_cases h : (s.size : Int) > 1048576
  · exact epos h (eok rfl)
  refine eneg h (ebind (a := flet s) ?_ ?_)
  · unfold spec_FormulaLetters.f flet
    refine ebind (good_ s (by omega)) ?_
    cases hw : (whole s.data.toList).isSome with
    | false => exact eneg (by simp) (eok rfl)
    | true =>
      refine epos rfl ?_
      refine fl_step s (by omega) 0 (by omega) _ (fl_step s (by omega) 1 (by omega) _ (fl_step s (by omega) 2 (by omega) _ (fl_step s (by omega) 3 (by omega) _ (fl_step s (by omega) 4 (by omega) _ (fl_step s (by omega) 5 (by omega) _ ?_)))))
      exact estep (fun k => spec_FormulaLetters.l0.eq_2 (k := k) ..) (eneg (by decide) (eok rfl))
  · refine ebind1 (a := flet s) rfl ?_
    exact epos rfl (eneg (by simp) (eok rfl))
end Go.Proofs.Ytlhencchonhleaa.Pure
