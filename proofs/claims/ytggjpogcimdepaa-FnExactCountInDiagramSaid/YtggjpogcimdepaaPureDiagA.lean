/- Diagrams, plainly: what a copy of a Diagram is, when two are the same, and that both sides say alike what a Diagram is. No program; no condition but the numbers' ranges. -/
import Derived.Test.YtggjpogcimdepaaXEv
import Derived.Test.YtggjpogcimdepaaFnspecl26Good
import Derived.Test.YtggjpogcimdepaaFnimplIsDiagram
import Derived.Test.YtggjpogcimdepaaFnlawstoDiagram
import Derived.Test.YtggjpogcimdepaaFnlawseqDiagram
import Derived.Test.YtggjpogcimdepaaFnlawsszDiagram
namespace Go.Proofs.Ytggjpogcimdepaa.DiagA
open Go.RowKit Go.Proofs.YtggjpogcimdepaaW.PrintWords Go.Proofs.Ytggjpogcimdepaa.XEv Go.Proofs.Ytggjpogcimdepaa.Print
set_option linter.unusedVariables false
set_option linter.unusedSimpArgs false

instance : DecidableEq S97 := fun x y =>
  if h : x.f0 = y.f0 ∧ x.f1 = y.f1 ∧ x.f2 = y.f2 then .isTrue (by cases x; cases y; simp_all) else .isFalse (fun e => h (by subst e; simp))
def conv (x : S99) : S97 := ⟨x.f0, x.f1, x.f2⟩

/-! ### copies -/
theorem toS_l (l : List S99) (hl : l.length ≤ 1048576) : ∀ (d : Nat) (xs : List S97) (i : Int), 0 ≤ i → i + d = l.length → xs.length = l.length →
    (∀ j : Nat, (j : Int) < i → xs[j]? = (l.map conv)[j]?) → Ev (fun k => laws_toBddNodeS.l0 k l xs i) (l.map conv) := by
  intro d
  induction d with
  | zero =>
    intro xs i h0 hd hx hp
    refine estep (fun k => laws_toBddNodeS.l0.eq_2 (k := k) ..) ?_
    refine eneg (by omega) (eok ?_)
    apply List.ext_getElem?
    intro j
    by_cases hj : (j : Int) < i
    · exact hp j hj
    · rw [List.getElem?_eq_none (by omega), List.getElem?_eq_none (by rw [List.length_map]; omega)]
  | succ d ih =>
    intro xs i h0 hd hx hp
    obtain ⟨n, rfl⟩ := Int.eq_ofNat_of_zero_le h0
    refine estep (fun k => laws_toBddNodeS.l0.eq_2 (k := k) ..) ?_
    refine epos (by omega) (epos (by omega) ?_)
    refine ebind1 (a := ((rd_T99 l n).f0, (rd_T99 l n).f1, (rd_T99 l n).f2)) rfl (epos (by omega) ?_)
    rw [wrap_in (by omega) (by omega)]
    refine ih _ _ (by omega) (by omega) (by simpa using hx) (fun j hj => ?_)
    have hn : n < l.length := by omega
    by_cases hjn : j = n
    · subst hjn
      simp [hn, hx, rd_T99, conv]
    · rw [← hp j (by omega)]
      simp only [Int.toNat_natCast]
      rw [List.getElem?_set_ne (by omega)]
theorem toD (a : Int) (l : List S99) (hl : l.length ≤ 1048576) : Ev (fun k => laws_toDiagram.f k a l) (a, l.map conv) := by
  unfold laws_toDiagram.f laws_toBddNodeS.f
  refine ebind (a := l.map conv) ?_ (eok rfl)
  refine epos (by omega) (epos (by omega) ?_)
  exact toS_l l hl l.length _ 0 (by omega) (by omega) (by simp) (fun j hj => by omega)

/-! ### the same -/
theorem eqN (x y : S97) : laws_eqBddNode.f x.f0 x.f1 x.f2 y.f0 y.f1 y.f2 = some (decide (x = y)) := by
  unfold laws_eqBddNode.f
  obtain ⟨x0, x1, x2⟩ := x
  obtain ⟨y0, y1, y2⟩ := y
  by_cases h0 : x0 = y0 <;> by_cases h1 : x1 = y1 <;> by_cases h2 : x2 = y2 <;> simp [h0, h1, h2]
theorem eqS_l (l m : List S97) (hl : l.length ≤ 1048576) (hm : l.length = m.length) : ∀ (d : Nat) (i : Int), 0 ≤ i → i + d = l.length →
    Ev (fun k => laws_eqBddNodeS.l0 k l m i) (decide (l.drop i.toNat = m.drop i.toNat)) := by
  intro d
  induction d with
  | zero =>
    intro i h0 hd
    refine estep (fun k => laws_eqBddNodeS.l0.eq_2 (k := k) ..) ?_
    refine eneg (by omega) (eok ?_)
    rw [List.drop_of_length_le (by omega), List.drop_of_length_le (by omega)]
    rfl
  | succ d ih =>
    intro i h0 hd
    obtain ⟨n, rfl⟩ := Int.eq_ofNat_of_zero_le h0
    have hn : n < l.length := by omega
    have hn2 : n < m.length := by omega
    refine estep (fun k => laws_eqBddNodeS.l0.eq_2 (k := k) ..) ?_
    refine epos (by omega) (epos (by omega) (epos (by omega) ?_))
    refine ebind1 (eqN _ _) ?_
    have e1 : rd_T97 l n = l[n] := by simp [rd_T97, rd_T97, hn]
    have e2 : rd_T97 m n = m[n] := by simp [rd_T97, rd_T97, hn2]
    have hdl : l.drop n = l[n] :: l.drop (n + 1) := List.drop_eq_getElem_cons hn
    have hdm : m.drop n = m[n] :: m.drop (n + 1) := List.drop_eq_getElem_cons hn2
    refine eite (fun h => ?_) (fun h => eok ?_)
    · have h' : l[n] = m[n] := by rw [← e1, ← e2]; simpa using h
      rw [wrap_in (by omega) (by omega)]
      refine ecast (ih (n + 1) (by omega) (by omega)) ?_
      rw [Int.toNat_natCast, hdl, hdm, h', show ((n : Int) + 1).toNat = n + 1 from by omega]
      simp only [List.cons.injEq, true_and]
    · have h' : ¬ l[n] = m[n] := by rw [← e1, ← e2]; simpa using h
      rw [Int.toNat_natCast, hdl, hdm]
      simp only [List.cons.injEq, h', false_and, decide_false]
theorem eqD (a : Int) (l : List S97) (b : Int) (m : List S97) (hl : l.length ≤ 1048576) : Ev (fun k => laws_eqDiagram.f k a l b m) (decide (a = b ∧ l = m)) := by
  unfold laws_eqDiagram.f laws_eqBddNodeS.f
  refine eite (fun h => ?_) (fun h => eok (by simp [h]))
  subst h
  by_cases hlm : l.length = m.length
  · refine ebind (epos (by omega) (eqS_l l m hl hlm l.length 0 (by omega) (by omega))) ?_
    refine eite (fun h => eok ?_) (fun h => eok ?_) <;> simpa using h
  · refine ebind (eneg (by omega) (eok rfl)) (eneg (by simp) (eok ?_))
    have : l ≠ m := fun h => hlm (by rw [h])
    simp [this]
end Go.Proofs.Ytggjpogcimdepaa.DiagA
