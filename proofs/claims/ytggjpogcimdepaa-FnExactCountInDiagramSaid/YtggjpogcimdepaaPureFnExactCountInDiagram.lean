/- The plain half of FnExactCountInDiagram: both sides answer alike, and nothing is written. No condition but the numbers' ranges. -/
import Derived.Test.YtggjpogcimdepaaSaidFnExactCountInDiagram
import Derived.Test.YtggjpogcimdepaaPureDiagC
namespace Go.Proofs.Ytggjpogcimdepaa.Pure
open Go.RowKit Go.Proofs.YtggjpogcimdepaaW.PrintWords Go.Proofs.YtggjpogcimdepaaW.PrintMore Go.Proofs.Ytggjpogcimdepaa.XEv Go.Proofs.Ytggjpogcimdepaa.Print Go.Proofs.Ytggjpogcimdepaa.DiagA
set_option linter.unusedVariables false
/-- How many of the values from i on are true. -/
def cnt (xs : List Bool) (i : Nat) : Int := ((xs.drop i).filter (· = true)).length
theorem cnt_le (xs : List Bool) (i : Nat) : 0 ≤ cnt xs i ∧ cnt xs i ≤ xs.length := by
  unfold cnt
  have h1 := List.length_filter_le (· = true) (xs.drop i)
  have h2 : (xs.drop i).length ≤ xs.length := by simp
  omega
theorem cnt_step (xs : List Bool) (i : Nat) (b : Bool) (h : xs[i]? = some b) : cnt xs i = (if b = true then 1 else 0) + cnt xs (i + 1) := by
  obtain ⟨hi, hb⟩ := List.getElem?_eq_some_iff.1 h
  unfold cnt
  rw [List.drop_eq_getElem_cons hi, hb]
  cases b <;> simp <;> omega
theorem cnt_end (xs : List Bool) : cnt xs xs.length = 0 := by simp [cnt]
theorem specCount (xs : List Bool) (hx : xs.length ≤ 64) : ∀ (d : Nat) (i : Nat) (c : Int), i + d = xs.length → 0 ≤ c → c ≤ i →
    Ev (fun k => spec_CountInDiagram.l0 k c xs (i : Int)) (c + cnt xs i, true) := by
  intro d
  induction d with
  | zero =>
    intro i c hi h0 h1
    refine estep (fun k => spec_CountInDiagram.l0.eq_2 (k := k) ..) (eneg (by omega) (eok ?_))
    rw [show i = xs.length from by omega, cnt_end]
    simp
  | succ d ih =>
    intro i c hi h0 h1
    have hlt : i < xs.length := by omega
    have hb : xs[i]? = some xs[i] := List.getElem?_eq_getElem hlt
    have hs := cnt_step xs i _ hb
    have hrd : rdOf false xs (i : Int) = xs[i] := by simp [rdOf, hlt]
    have wi : wrap64 ((i : Int) + 1) = ((i + 1 : Nat) : Int) := by rw [wrap_in (by omega) (by omega)]; omega
    refine estep (fun k => spec_CountInDiagram.l0.eq_2 (k := k) ..) (epos (by omega) (epos (by omega) ?_))
    rw [hrd]
    by_cases hx1 : xs[i] = true
    · refine epos hx1 ?_
      rw [hx1, if_pos rfl] at hs
      rw [wi, wrap_in (by omega) (by omega)]
      exact ecast (ih (i + 1) (c + 1) (by omega) (by omega) (by omega)) (by rw [hs]; congr 1; omega)
    · refine eneg hx1 ?_
      rw [if_neg hx1] at hs
      rw [wi]
      exact ecast (ih (i + 1) c (by omega) h0 (by omega)) (by rw [hs]; congr 1; omega)
theorem implCount (vars root : Int) (ns : List S97) (hg : DiagA.Good vars root ns) : ∀ (d : Nat) (i : Nat) (c : Int), i + d = 2 ^ vars.toNat → 0 ≤ c → c ≤ i →
    Ev (fun k => impl_CountInDiagram.l0 k c ((2 ^ vars.toNat : Nat) : Int) (i : Int) root ns) (c + cnt (values vars root ns) i, true) := by
  have hp := pow6 hg.1 hg.2.1
  have hl := values_length vars root ns
  intro d
  induction d with
  | zero =>
    intro i c hi h0 h1
    refine estep (fun k => impl_CountInDiagram.l0.eq_2 (k := k) ..) (eneg (by omega) (eok ?_))
    rw [show i = (values vars root ns).length from by omega, cnt_end]
    simp
  | succ d ih =>
    intro i c hi h0 h1
    have hs := cnt_step _ i _ (values_at vars root ns i (by omega))
    have wi : wrap64 ((i : Int) + 1) = ((i + 1 : Nat) : Int) := by rw [wrap_in (by omega) (by omega)]; omega
    refine estep (fun k => impl_CountInDiagram.l0.eq_2 (k := k) ..) (epos (by omega) (ebind (implVal vars root ns i hg) ?_))
    by_cases hx1 : dval ns root i = true
    · refine epos hx1 ?_
      rw [if_pos hx1] at hs
      rw [wi, wrap_in (by omega) (by omega)]
      exact ecast (ih (i + 1) (c + 1) (by omega) (by omega) (by omega)) (by rw [hs]; congr 1; omega)
    · refine eneg hx1 ?_
      rw [if_neg hx1] at hs
      rw [wi]
      exact ecast (ih (i + 1) c (by omega) h0 (by omega)) (by rw [hs]; congr 1; omega)

theorem FnExactCountInDiagram : laws_FnExactCountInDiagram.Pure := by
  intro vars root l _ h
  obtain ⟨_, hl, _⟩ := h
  refine Ev.rounds ?_
  unfold laws_FnExactCountInDiagram.f
  refine ebind1 (sz root l 1048576 hl (by omega)) ?_
  by_cases hs : (l.length : Int) ≤ 1048576
  case neg => exact epos (by rw [if_neg hs]; omega) (eok rfl)
  refine eneg (by rw [if_pos hs]; omega) ?_
  have hl2 : l.length ≤ 1048576 := by omega
  have hc : (l.map conv).length ≤ 1048576 := by rw [List.length_map]; exact hl2
  have hboth : ∃ r, Ev (fun k => spec_CountInDiagram.f k vars root (l.map conv)) r ∧ Ev (fun k => impl_CountInDiagram.f k vars root (l.map conv)) r := by
    unfold spec_CountInDiagram.f impl_CountInDiagram.f
    obtain ⟨r, h1, h2, hr⟩ := good_both vars root (l.map conv) hc
    cases r with
    | false => exact ⟨(0, false), ebind h1 (eneg (by simp) (eok rfl)), ebind h2 (eneg (by simp) (eok rfl))⟩
    | true =>
      have hg := hr.1 rfl
      have hp := pow6 hg.1 hg.2.1
      have hvl := values_length vars root (l.map conv)
      refine ⟨(0 + cnt (values vars root (l.map conv)) 0, true), ebind h1 (epos rfl (ebind (specVals vars root _ hg) (specCount _ (by omega) _ 0 0 (Nat.zero_add _) (by omega) (by omega)))), ebind h2 (epos rfl (epos hg.1 ?_))⟩
      rw [shl1 hg.1 hg.2.1]
      exact implCount vars root _ hg _ 0 0 (Nat.zero_add _) (by omega) (by omega)
  obtain ⟨r, hs1, hs2⟩ := hboth
  refine ebind (toD root l hl2) (ebind hs1 (ebind (toD root l hl2) (ebind hs2 (epos rfl ?_))))
  refine estep (fun k => laws_FnExactCountInDiagram.j0.eq_2 (k := k) ..) (eneg (by simp) (ebind (toD root l hl2) (ebind (eqD _ _ _ _ hc) (epos (by simp) (eok rfl)))))
end Go.Proofs.Ytggjpogcimdepaa.Pure
