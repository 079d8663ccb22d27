/- Diagrams, plainly: the value of a number for bits, on both sides; the values for all bits. No program; no condition but the numbers' ranges. -/
import Derived.Test.YtggjpogcimdepaaPureDiagB
import Derived.Test.YtggjpogcimdepaaFnspecl26Values
import Derived.Test.YtggjpogcimdepaaFnimplDiagramvalueAt
import Derived.Test.YtggjpogcimdepaaFnimplbitsOk
namespace Go.Proofs.Ytggjpogcimdepaa.DiagA
open Go.RowKit Go.Proofs.YtggjpogcimdepaaW.PrintWords Go.Proofs.YtggjpogcimdepaaW.PrintMore Go.Proofs.Ytggjpogcimdepaa.XEv Go.Proofs.Ytggjpogcimdepaa.Print
set_option linter.unusedVariables false
set_option linter.unusedSimpArgs false

theorem upto6 {v : Int} (h0 : 0 ≤ v) (h6 : v ≤ 6) : v = 0 ∨ v = 1 ∨ v = 2 ∨ v = 3 ∨ v = 4 ∨ v = 5 ∨ v = 6 := by omega
theorem shl1 {v : Int} (h0 : 0 ≤ v) (h6 : v ≤ 6) : shl .i64 1 v = ((2 ^ v.toNat : Nat) : Int) := by
  rcases upto6 h0 h6 with rfl | rfl | rfl | rfl | rfl | rfl | rfl <;> decide
theorem pow6 {v : Int} (h0 : 0 ≤ v) (h6 : v ≤ 6) : 1 ≤ 2 ^ v.toNat ∧ 2 ^ v.toNat ≤ 64 := by
  rcases upto6 h0 h6 with rfl | rfl | rfl | rfl | rfl | rfl | rfl <;> decide

/-- Is the variable v true for bits? -/
def tst (bits v : Int) : Bool := decide ((Go.bits .and .i64 (shr .i64 bits (v - 1)) 1) = 1)
/-- The value of the number x for bits, in at most n steps. -/
def dv (ns : List S97) (bits : Int) : Nat → Int → Bool
  | 0, x => x == 1
  | n + 1, x => if x > 1 then dv ns bits n (if tst bits (rd_T97 ns (x - 2)).f0 = true then (rd_T97 ns (x - 2)).f2 else (rd_T97 ns (x - 2)).f1) else x == 1
/-- The value of a Diagram for bits. -/
def dval (ns : List S97) (root bits : Int) : Bool := dv ns bits root.toNat root

theorem dv_both (vars root : Int) (ns : List S97) (bits root' : Int) (hg : Good vars root' ns) : ∀ (n : Nat) (x : Int), 0 ≤ x → x ≤ n → x ≤ ns.length + 1 →
    Ev (fun k => spec_l26Value.l0 k bits x root ns) (dv ns bits n x) ∧ Ev (fun k => impl_Diagram_value.l0 k x bits root ns) (dv ns bits n x) := by
  obtain ⟨hv0, hv6, hl, _, _, hok⟩ := hg
  intro n
  induction n with
  | zero =>
    intro x h0 hn hx
    refine ⟨estep (fun k => spec_l26Value.l0.eq_2 (k := k) ..) (eneg (by omega) (eok rfl)), estep (fun k => impl_Diagram_value.l0.eq_2 (k := k) ..) (eneg (by omega) (eok rfl))⟩
  | succ n ih =>
    intro x h0 hn hx
    by_cases hx1 : x > 1
    case neg =>
      have e : dv ns bits (n + 1) x = (x == 1) := by simp only [dv, if_neg hx1]
      rw [e]
      exact ⟨estep (fun k => spec_l26Value.l0.eq_2 (k := k) ..) (eneg (by omega) (eok rfl)), estep (fun k => impl_Diagram_value.l0.eq_2 (k := k) ..) (eneg (by omega) (eok rfl))⟩
    have w1 : wrap64 (x - 2) = x - 2 := wrap_in (by omega) (by omega)
    obtain ⟨a1, a2, a3, a4, a5, a6, _, _⟩ := hok (x - 2) (by omega) (by omega)
    have w2 : wrap64 ((rd_T97 ns (x - 2)).f0 - 1) = (rd_T97 ns (x - 2)).f0 - 1 := wrap_in (by omega) (by omega)
    have e : dv ns bits (n + 1) x = dv ns bits n (if tst bits (rd_T97 ns (x - 2)).f0 = true then (rd_T97 ns (x - 2)).f2 else (rd_T97 ns (x - 2)).f1) := by
      show (if x > 1 then _ else _) = _
      rw [if_pos hx1]
    rw [e]
    by_cases ht : tst bits (rd_T97 ns (x - 2)).f0 = true
    · rw [if_pos ht]
      have ht' : (Go.bits .and .i64 (shr .i64 bits ((rd_T97 ns (x - 2)).f0 - 1)) 1) = 1 := by simpa [tst] using ht
      obtain ⟨i1, i2⟩ := ih (rd_T97 ns (x - 2)).f2 (by omega) (by omega) (by omega)
      exact ⟨estep (fun k => spec_l26Value.l0.eq_2 (k := k) ..) (epos hx1 (epos (by omega) (epos (by omega) (epos (by rw [w1, w2]; omega) (epos (by rw [w1, w2]; exact ht') (by rw [w1]; exact i1)))))),
        estep (fun k => impl_Diagram_value.l0.eq_2 (k := k) ..) (epos (by omega) (epos (by omega) (epos (by omega) (epos (by rw [w1, w2]; omega) (epos (by rw [w1, w2]; exact ht') (by rw [w1]; exact i2))))))⟩
    · rw [if_neg ht]
      have ht' : ¬ (Go.bits .and .i64 (shr .i64 bits ((rd_T97 ns (x - 2)).f0 - 1)) 1) = 1 := by simpa [tst] using ht
      obtain ⟨i1, i2⟩ := ih (rd_T97 ns (x - 2)).f1 (by omega) (by omega) (by omega)
      exact ⟨estep (fun k => spec_l26Value.l0.eq_2 (k := k) ..) (epos hx1 (epos (by omega) (epos (by omega) (epos (by rw [w1, w2]; omega) (eneg (by rw [w1, w2]; exact ht') (by rw [w1]; exact i1)))))),
        estep (fun k => impl_Diagram_value.l0.eq_2 (k := k) ..) (epos (by omega) (epos (by omega) (epos (by omega) (epos (by rw [w1, w2]; omega) (eneg (by rw [w1, w2]; exact ht') (by rw [w1]; exact i2))))))⟩

theorem specVal (vars root : Int) (ns : List S97) (bits : Int) (hg : Good vars root ns) : Ev (fun k => spec_l26Value.f k root ns bits) (dval ns root bits) := by
  unfold spec_l26Value.f
  exact (dv_both vars root ns bits root hg root.toNat root hg.2.2.2.1 (by have := hg.2.2.2.1; omega) hg.2.2.2.2.1).1
theorem implVal (vars root : Int) (ns : List S97) (bits : Int) (hg : Good vars root ns) : Ev (fun k => impl_Diagram_valueAt.f k root ns bits) (dval ns root bits) := by
  unfold impl_Diagram_valueAt.f impl_Diagram_value.f
  exact ebind (dv_both vars root ns bits root hg root.toNat root hg.2.2.2.1 (by have := hg.2.2.2.1; omega) hg.2.2.2.2.1).2 (eok rfl)

theorem bitsOk (vars bits : Int) (h0 : 0 ≤ vars) (h6 : vars ≤ 6) : impl_bitsOk.f vars bits = some (decide (0 ≤ bits ∧ bits ≤ ((2 ^ vars.toNat : Nat) : Int) - 1)) := by
  have hp := pow6 h0 h6
  unfold impl_bitsOk.f
  rw [if_pos h0, shl1 h0 h6, wrap_in (by omega) (by omega), within]
  rfl

/-- The values for all bits, in order. -/
def values (vars root : Int) (ns : List S97) : List Bool := (List.range (2 ^ vars.toNat)).map fun b : Nat => dval ns root (b : Int)
theorem specVals_l (vars root : Int) (ns : List S97) (hg : Good vars root ns) : ∀ (d : Nat) (xs : List Bool) (i : Nat), i + d = 2 ^ vars.toNat → xs = (List.range i).map (fun b : Nat => dval ns root (b : Int)) →
    Ev (fun k => spec_l26Values.l0 k vars xs (i : Int) root ns) (values vars root ns) := by
  have hp := pow6 hg.1 hg.2.1
  intro d
  induction d with
  | zero =>
    rintro xs i hi rfl
    refine estep (fun k => spec_l26Values.l0.eq_2 (k := k) ..) (epos hg.1 (eneg (by rw [shl1 hg.1 hg.2.1]; omega) (eok ?_)))
    rw [show i = 2 ^ vars.toNat from by omega]
    rfl
  | succ d ih =>
    rintro xs i hi rfl
    refine estep (fun k => spec_l26Values.l0.eq_2 (k := k) ..) (epos hg.1 (epos (by rw [shl1 hg.1 hg.2.1]; omega) (ebind (specVal vars root ns i hg) (epos (by simp; omega) ?_))))
    rw [wrap_in (by omega) (by omega)]
    exact ih _ (i + 1) (by omega) (by rw [List.range_succ, List.map_append]; rfl)
theorem specVals (vars root : Int) (ns : List S97) (hg : Good vars root ns) : Ev (fun k => spec_l26Values.f k vars root ns) (values vars root ns) := by
  unfold spec_l26Values.f
  exact specVals_l vars root ns hg (2 ^ vars.toNat) [] 0 (by omega) rfl
theorem values_length (vars root : Int) (ns : List S97) : (values vars root ns).length = 2 ^ vars.toNat := by simp [values]
theorem values_at (vars root : Int) (ns : List S97) (b : Nat) (h : b < 2 ^ vars.toNat) : (values vars root ns)[b]? = some (dval ns root b) := by
  simp [values, h]
end Go.Proofs.Ytggjpogcimdepaa.DiagA
