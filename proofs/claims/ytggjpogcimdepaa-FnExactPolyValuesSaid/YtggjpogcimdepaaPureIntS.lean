/- Lists of numbers, plainly: the law's own words that compare two, mark one and read the marks. No program; no condition but the numbers' ranges. -/
import Derived.Test.YtggjpogcimdepaaXEv
import Derived.Test.YtggjpogcimdepaaFnlawsmarkIntS
import Derived.Test.YtggjpogcimdepaaFnlawsheldIntS
import Derived.Test.YtggjpogcimdepaaFnlawseqIntS
namespace Go.Proofs.Ytggjpogcimdepaa.IntS
open Go.RowKit Go.Proofs.YtggjpogcimdepaaW.PrintWords Go.Proofs.Ytggjpogcimdepaa.XEv Go.Proofs.Ytggjpogcimdepaa.Print
set_option linter.unusedVariables false
set_option linter.unusedSimpArgs false
theorem rd_at (l : List Int) (n : Nat) (h : n < l.length) : rd l (n : Int) = l[n] := by simp [rd, h]
theorem eq_l (l m : List Int) (hl : l.length ≤ 140737488355328) (hm : l.length = m.length) : ∀ (d : Nat) (i : Int), 0 ≤ i → i + d = l.length →
    Ev (fun k => laws_eqIntS.l0 k l m i) (decide (l.drop i.toNat = m.drop i.toNat)) := by
  intro d
  induction d with
  | zero =>
    intro i h0 hd
    refine estep (fun k => laws_eqIntS.l0.eq_2 (k := k) ..) (eneg (by omega) (eok ?_))
    rw [List.drop_of_length_le (by omega), List.drop_of_length_le (by omega)]
    rfl
  | succ d ih =>
    intro i h0 hd
    obtain ⟨n, rfl⟩ := Int.eq_ofNat_of_zero_le h0
    have hn : n < l.length := by omega
    have hn2 : n < m.length := by omega
    refine estep (fun k => laws_eqIntS.l0.eq_2 (k := k) ..) (epos (by omega) (epos (by omega) (epos (by omega) ?_)))
    rw [rd_at l n hn, rd_at m n hn2]
    have hdl : l.drop n = l[n] :: l.drop (n + 1) := List.drop_eq_getElem_cons hn
    have hdm : m.drop n = m[n] :: m.drop (n + 1) := List.drop_eq_getElem_cons hn2
    refine eite (fun h' => ?_) (fun h' => eok ?_)
    · rw [wrap_in (by omega) (by omega)]
      refine ecast (ih (n + 1) (by omega) (by omega)) ?_
      rw [Int.toNat_natCast, hdl, hdm, h', show ((n : Int) + 1).toNat = n + 1 from by omega]
      simp only [List.cons.injEq, true_and]
    · rw [Int.toNat_natCast, hdl, hdm]
      simp only [List.cons.injEq, h', false_and, decide_false]
theorem eqI (l m : List Int) (hl : l.length ≤ 140737488355328) : Ev (fun k => laws_eqIntS.f k l m) (decide (l = m)) := by
  unfold laws_eqIntS.f
  by_cases hlm : l.length = m.length
  · exact epos (by omega) (eq_l l m hl hlm l.length 0 (by omega) (by omega))
  · refine eneg (by omega) (eok ?_)
    have : l ≠ m := fun h => hlm (by rw [h])
    simp [this]
/-- The marks from a on. -/
def marks (a : Int) (n : Nat) : List Int := (List.range n).map fun j : Nat => a + (j : Int)
theorem mark_l (n : Nat) (hn : n ≤ 140737488355328) (a : Int) (ha : 0 ≤ a) (ha2 : a ≤ 4611686018427387904) : ∀ (d : Nat) (i : Nat) (xs : List Int), i + d = n → xs.length = n → (∀ j, j < i → xs[j]? = (marks a n)[j]?) →
    Ev (fun k => laws_markIntS.l0 k xs (a + (i : Int)) (i : Int)) (a + n, marks a n) := by
  intro d
  induction d with
  | zero =>
    intro i xs hi hx hp
    refine estep (fun k => laws_markIntS.l0.eq_2 (k := k) ..) (eneg (by omega) (eok ?_))
    have : xs = marks a n := by
      apply List.ext_getElem?
      intro j
      by_cases hj : j < i
      · exact hp j hj
      · rw [List.getElem?_eq_none (by omega), List.getElem?_eq_none (by simp [marks]; omega)]
    rw [this, show i = n from by omega]
  | succ d ih =>
    intro i xs hi hx hp
    refine estep (fun k => laws_markIntS.l0.eq_2 (k := k) ..) (epos (by omega) (epos (by omega) ?_))
    rw [wrap_in (n := a + (i : Int) + 1) (by omega) (by omega), wrap_in (n := (i : Int) + 1) (by omega) (by omega)]
    have e : a + (i : Int) + 1 = a + ((i + 1 : Nat) : Int) := by omega
    rw [e]
    refine ih (i + 1) _ (by omega) (by simpa using hx) (fun j hj => ?_)
    by_cases hji : j = i
    · subst hji
      simp [marks, hx, show j < n from by omega]
    · rw [Int.toNat_natCast, List.getElem?_set_ne (by omega)]
      exact hp j (by omega)
theorem markI (xs : List Int) (a : Int) (ha : 0 ≤ a) (ha2 : a ≤ 4611686018427387904) (hl : xs.length ≤ 140737488355328) : Ev (fun k => laws_markIntS.f k xs a) (a + xs.length, marks a xs.length) := by
  unfold laws_markIntS.f
  have := mark_l xs.length hl a ha ha2 xs.length 0 xs (Nat.zero_add _) rfl (fun j hj => by omega)
  simpa using this
theorem held_l (n : Nat) (hn : n ≤ 140737488355328) (a : Int) (ha : 0 ≤ a) (ha2 : a ≤ 4611686018427387904) : ∀ (d : Nat) (i : Nat), i + d = n →
    Ev (fun k => laws_heldIntS.l0 k (marks a n) (a + (i : Int)) (i : Int)) (a + n) := by
  have hml : (marks a n).length = n := by simp [marks]
  intro d
  induction d with
  | zero =>
    intro i hi
    refine estep (fun k => laws_heldIntS.l0.eq_2 (k := k) ..) (eneg (by omega) (eok ?_))
    rw [show i = n from by omega]
  | succ d ih =>
    intro i hi
    have hr : rd (marks a n) (i : Int) = a + (i : Int) := by
      rw [rd_at _ _ (by omega)]
      simp [marks]
    refine estep (fun k => laws_heldIntS.l0.eq_2 (k := k) ..) (epos (by omega) (epos (by omega) (epos hr ?_)))
    rw [wrap_in (n := a + (i : Int) + 1) (by omega) (by omega), wrap_in (n := (i : Int) + 1) (by omega) (by omega)]
    have e : a + (i : Int) + 1 = a + ((i + 1 : Nat) : Int) := by omega
    rw [e]
    exact ih (i + 1) (by omega)
theorem heldI (n : Nat) (a : Int) (ha : 0 ≤ a) (ha2 : a ≤ 4611686018427387904) (hl : n ≤ 140737488355328) : Ev (fun k => laws_heldIntS.f k (marks a n) a) (a + n) := by
  unfold laws_heldIntS.f
  have := held_l n hl a ha ha2 n 0 (Nat.zero_add _)
  simpa using this
end Go.Proofs.Ytggjpogcimdepaa.IntS
