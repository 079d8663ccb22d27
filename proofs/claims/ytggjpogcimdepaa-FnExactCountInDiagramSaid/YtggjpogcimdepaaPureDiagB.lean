/- Diagrams, plainly: both sides say alike what a Diagram is. No program; no condition but the numbers' ranges. -/
import Derived.Test.YtggjpogcimdepaaPureDiagA
namespace Go.Proofs.Ytggjpogcimdepaa.DiagA
open Go.RowKit Go.Proofs.YtggjpogcimdepaaW.PrintWords Go.Proofs.Ytggjpogcimdepaa.XEv Go.Proofs.Ytggjpogcimdepaa.Print
set_option linter.unusedVariables false
set_option linter.unusedSimpArgs false

/-- The node with an index is valid. -/
def okN (vars : Int) (ns : List S97) (i : Int) : Prop :=
  1 ≤ (rd_T97 ns i).f0 ∧ (rd_T97 ns i).f0 ≤ vars ∧ 0 ≤ (rd_T97 ns i).f1 ∧ (rd_T97 ns i).f1 ≤ i + 1 ∧ 0 ≤ (rd_T97 ns i).f2 ∧ (rd_T97 ns i).f2 ≤ i + 1 ∧
  ((rd_T97 ns i).f1 > 1 → (rd_T97 ns i).f0 < (rd_T97 ns ((rd_T97 ns i).f1 - 2)).f0) ∧ ((rd_T97 ns i).f2 > 1 → (rd_T97 ns i).f0 < (rd_T97 ns ((rd_T97 ns i).f2 - 2)).f0)
/-- What a Diagram is. -/
def Good (vars root : Int) (ns : List S97) : Prop := 0 ≤ vars ∧ vars ≤ 6 ∧ ns.length ≤ 63 ∧ 0 ≤ root ∧ root ≤ ns.length + 1 ∧ ∀ j : Int, 0 ≤ j → j < ns.length → okN vars ns j

theorem l1In (a b c : Int) : spec_l1In.f a b c = some (decide (b ≤ a ∧ a ≤ c)) := by
  unfold spec_l1In.f
  by_cases h : a ≥ b <;> simp [h] <;> omega
theorem within (a b c : Int) : impl_within.f a b c = some (decide (b ≤ a ∧ a ≤ c)) := by
  unfold impl_within.f
  by_cases h : a ≥ b <;> simp [h] <;> omega
theorem all_step {p : Int → Prop} {i n : Int} (hi : i < n) : (∀ j, i ≤ j → j < n → p j) ↔ p i ∧ ∀ j, i + 1 ≤ j → j < n → p j := by
  constructor
  · intro h
    exact ⟨h i (Int.le_refl _) hi, fun j h1 h2 => h j (by omega) h2⟩
  · rintro ⟨h0, h⟩ j h1 h2
    by_cases e : j = i
    · subst e; exact h0
    · exact h j (by omega) h2

theorem specGood_l (vars root : Int) (ns : List S97) (hn : ns.length ≤ 63) : ∀ (d : Nat) (i : Int), 0 ≤ i → i + d = ns.length →
    ∃ r, Ev (fun k => spec_l26Good.l0 k vars i root ns) r ∧ (r = true ↔ ∀ j, i ≤ j → j < ns.length → okN vars ns j) := by
  intro d
  induction d with
  | zero =>
    intro i h0 hd
    refine ⟨true, estep (fun k => spec_l26Good.l0.eq_2 (k := k) ..) (eneg (by omega) (eok rfl)), ?_⟩
    simp only [true_iff]
    intro j h1 h2
    omega
  | succ d ih =>
    intro i h0 hd
    obtain ⟨r, hr, hiff⟩ := ih (i + 1) (by omega) (by omega)
    have hi : i < ns.length := by omega
    rw [all_step hi]
    have w1 : wrap64 (i + 1) = i + 1 := wrap_in (by omega) (by omega)
    have hno : ∀ b x0 x1 x2, b = true → Ev (fun k => spec_l26Good.j2 k vars i b root ns x0 x1 x2) false := by
      rintro b x0 x1 x2 rfl
      exact estep (fun k => spec_l26Good.j2.eq_2 (k := k) ..) (epos rfl (eok rfl))
    have hfirst : ∀ b, ¬ okN vars ns i → ∃ r', Ev (fun k => spec_l26Good.j2 k vars i true root ns b b b) r' ∧ (r' = true ↔ okN vars ns i ∧ ∀ j, i + 1 ≤ j → j < ns.length → okN vars ns j) :=
      fun b hb => ⟨false, hno _ _ _ _ rfl, by simp [hb]⟩
    by_cases c0 : 1 ≤ (rd_T97 ns i).f0 ∧ (rd_T97 ns i).f0 ≤ vars
    case neg =>
      refine ⟨false, estep (fun k => spec_l26Good.l0.eq_2 (k := k) ..) (epos hi (epos h0 (ebind1 (l1In _ _ _) (eneg (df c0) (hno _ _ _ _ rfl))))), ?_⟩
      have : ¬ okN vars ns i := fun h => c0 ⟨h.1, h.2.1⟩
      simp [this]
    by_cases c1 : 0 ≤ (rd_T97 ns i).f1 ∧ (rd_T97 ns i).f1 ≤ i + 1
    case neg =>
      refine ⟨false, estep (fun k => spec_l26Good.l0.eq_2 (k := k) ..) (epos hi (epos h0 (ebind1 (l1In _ _ _) (epos (dt c0) (ebind1 (l1In _ _ _) (eneg (by rw [w1]; exact df c1) (hno _ _ _ _ rfl))))))), ?_⟩
      have : ¬ okN vars ns i := fun h => c1 ⟨h.2.2.1, h.2.2.2.1⟩
      simp [this]
    by_cases c2 : 0 ≤ (rd_T97 ns i).f2 ∧ (rd_T97 ns i).f2 ≤ i + 1
    case neg =>
      refine ⟨false, estep (fun k => spec_l26Good.l0.eq_2 (k := k) ..) (epos hi (epos h0 (ebind1 (l1In _ _ _) (epos (dt c0) (ebind1 (l1In _ _ _) (epos (by rw [w1]; exact dt c1) (ebind1 (l1In _ _ _) (hno _ _ _ _ (by rw [w1]; exact ndt c2))))))))), ?_⟩
      have : ¬ okN vars ns i := fun h => c2 ⟨h.2.2.2.2.1, h.2.2.2.2.2.1⟩
      simp [this]
    have hj : ∀ r', (Ev (fun k => spec_l26Good.j2 k vars i false root ns (rd_T97 ns i).f0 (rd_T97 ns i).f1 (rd_T97 ns i).f2) r') →
        Ev (fun k => spec_l26Good.l0 k vars i root ns) r' := fun r' h =>
      estep (fun k => spec_l26Good.l0.eq_2 (k := k) ..) (epos hi (epos h0 (ebind1 (l1In _ _ _) (epos (dt c0) (ebind1 (l1In _ _ _) (epos (by rw [w1]; exact dt c1) (ebind1 (l1In _ _ _) (by
        have e : (!decide (0 ≤ (rd_T97 ns i).f2 ∧ (rd_T97 ns i).f2 ≤ wrap64 (i + 1))) = false := by rw [w1]; exact ndf c2
        rw [e]; exact h))))))))
    have hw1 : (rd_T97 ns i).f1 > 1 → wrap64 ((rd_T97 ns i).f1 - 2) = (rd_T97 ns i).f1 - 2 := fun _ => wrap_in (by omega) (by omega)
    have hw2 : (rd_T97 ns i).f2 > 1 → wrap64 ((rd_T97 ns i).f2 - 2) = (rd_T97 ns i).f2 - 2 := fun _ => wrap_in (by omega) (by omega)
    by_cases c3 : (rd_T97 ns i).f1 > 1 → (rd_T97 ns i).f0 < (rd_T97 ns ((rd_T97 ns i).f1 - 2)).f0
    case neg =>
      have c3' := Classical.not_imp.1 c3
      refine ⟨false, hj _ (estep (fun k => spec_l26Good.j2.eq_2 (k := k) ..) (eneg (by simp) (epos c3'.1 (epos (by rw [hw1 c3'.1]; omega) (epos (by rw [hw1 c3'.1]; omega) (epos (by rw [hw1 c3'.1]; exact Int.not_lt.1 c3'.2) (eok rfl))))))), ?_⟩
      have : ¬ okN vars ns i := fun h => c3 h.2.2.2.2.2.2.1
      simp [this]
    by_cases c4 : (rd_T97 ns i).f2 > 1 → (rd_T97 ns i).f0 < (rd_T97 ns ((rd_T97 ns i).f2 - 2)).f0
    case neg =>
      have c4' := Classical.not_imp.1 c4
      have hs2 : Ev (fun k => if (rd_T97 ns i).f2 > 1 then (if 0 ≤ (wrap64 ((rd_T97 ns i).f2 - 2)) then (if (wrap64 ((rd_T97 ns i).f2 - 2)) < (ns.length : Int) then (if ((rd_T97 ns (wrap64 ((rd_T97 ns i).f2 - 2))).f0) ≤ (rd_T97 ns i).f0 then (some false) else (spec_l26Good.l0 k vars (wrap64 (i + 1)) root ns)) else (none)) else (none)) else (spec_l26Good.l0 k vars (wrap64 (i + 1)) root ns)) false :=
        epos c4'.1 (epos (by rw [hw2 c4'.1]; omega) (epos (by rw [hw2 c4'.1]; omega) (epos (by rw [hw2 c4'.1]; exact Int.not_lt.1 c4'.2) (eok rfl))))
      refine ⟨false, hj _ (estep (fun k => spec_l26Good.j2.eq_2 (k := k) ..) (eneg (by simp) (eite (fun g1 => epos (by rw [hw1 g1]; omega) (epos (by rw [hw1 g1]; omega) (eneg (by rw [hw1 g1]; have := c3 g1; omega) hs2))) (fun _ => hs2)))), ?_⟩
      have : ¬ okN vars ns i := fun h => c4 h.2.2.2.2.2.2.2
      simp [this]
    have hok : okN vars ns i := ⟨c0.1, c0.2, c1.1, c1.2, c2.1, c2.2, c3, c4⟩
    refine ⟨r, hj _ (estep (fun k => spec_l26Good.j2.eq_2 (k := k) ..) (eneg (by simp) ?_)), by simp only [hok, true_and]; exact hiff⟩
    have hnext : Ev (fun k => spec_l26Good.l0 k vars (wrap64 (i + 1)) root ns) r := by rw [w1]; exact hr
    have hsnd : Ev (fun k => if (rd_T97 ns i).f2 > 1 then (if 0 ≤ (wrap64 ((rd_T97 ns i).f2 - 2)) then (if (wrap64 ((rd_T97 ns i).f2 - 2)) < (ns.length : Int) then (if ((rd_T97 ns (wrap64 ((rd_T97 ns i).f2 - 2))).f0) ≤ (rd_T97 ns i).f0 then (some false) else (spec_l26Good.l0 k vars (wrap64 (i + 1)) root ns)) else (none)) else (none)) else (spec_l26Good.l0 k vars (wrap64 (i + 1)) root ns)) r :=
      eite (fun g2 => epos (by rw [hw2 g2]; omega) (epos (by rw [hw2 g2]; omega) (eneg (by rw [hw2 g2]; have := c4 g2; omega) hnext))) (fun _ => hnext)
    exact eite (fun g1 => epos (by rw [hw1 g1]; omega) (epos (by rw [hw1 g1]; omega) (eneg (by rw [hw1 g1]; have := c3 g1; omega) hsnd))) (fun _ => hsnd)

theorem specGood (vars root : Int) (ns : List S97) (hl : ns.length ≤ 1048576) : ∃ r, Ev (fun k => spec_l26Good.f k vars root ns) r ∧ (r = true ↔ Good vars root ns) := by
  have hv : spec_l26Vars.f vars = some (decide (0 ≤ vars ∧ vars ≤ 6)) := by
    unfold spec_l26Vars.f
    rw [l1In]
    rfl
  have hno : Ev (fun k => spec_l26Good.j0 k vars true root ns) false := estep (fun k => spec_l26Good.j0.eq_2 (k := k) ..) (epos rfl (eok rfl))
  unfold spec_l26Good.f
  by_cases c0 : 0 ≤ vars ∧ vars ≤ 6
  case neg =>
    refine ⟨false, ebind1 hv (eneg (df c0) hno), ?_⟩
    have : ¬ Good vars root ns := fun h => c0 ⟨h.1, h.2.1⟩
    simp [this]
  by_cases c1 : ns.length ≤ 63
  case neg =>
    refine ⟨false, ebind1 hv (epos (dt c0) (epos (by omega) hno)), ?_⟩
    have : ¬ Good vars root ns := fun h => c1 h.2.2.1
    simp [this]
  have w : wrap64 ((ns.length : Int) + 1) = ns.length + 1 := wrap_in (by omega) (by omega)
  by_cases c2 : 0 ≤ root ∧ root ≤ ns.length + 1
  case neg =>
    refine ⟨false, ebind1 hv (epos (dt c0) (eneg (by omega) (ebind1 (l1In _ _ _) (by
      have e : (!decide (0 ≤ root ∧ root ≤ wrap64 ((ns.length : Int) + 1))) = true := by rw [w]; exact ndt c2
      rw [e]; exact hno)))), ?_⟩
    have : ¬ Good vars root ns := fun h => c2 ⟨h.2.2.2.1, h.2.2.2.2.1⟩
    simp [this]
  obtain ⟨r, hr, hiff⟩ := specGood_l vars root ns c1 ns.length 0 (by omega) (by omega)
  refine ⟨r, ebind1 hv (epos (dt c0) (eneg (by omega) (ebind1 (l1In _ _ _) (by
      have e : (!decide (0 ≤ root ∧ root ≤ wrap64 ((ns.length : Int) + 1))) = false := by rw [w]; exact ndf c2
      rw [e]; exact estep (fun k => spec_l26Good.j0.eq_2 (k := k) ..) (eneg (by simp) hr))))), ?_⟩
  rw [hiff]
  exact ⟨fun h => ⟨c0.1, c0.2, c1, c2.1, c2.2, h⟩, fun h => h.2.2.2.2.2⟩

/-! ### the program's own -/
theorem bddOk (vars root : Int) (ns : List S97) (i : Int) (hn : ns.length ≤ 63) (h0 : 0 ≤ i) (hi : i < ns.length) : ∃ r, Ev (fun k => impl_bddOk.f k vars root ns i) r ∧ (r = true ↔ okN vars ns i) := by
  unfold impl_bddOk.f
  have w1 : wrap64 (i + 1) = i + 1 := wrap_in (by omega) (by omega)
  have hend : ∀ (y : List Int), y.length = 2 → ∀ n, (n : Int) = 2 → Ev (fun k => impl_bddOk.l0 k vars i y (y.length : Int) n root ns (rd_T97 ns i).f0 (rd_T97 ns i).f1 (rd_T97 ns i).f2) (decide (1 ≤ (rd_T97 ns i).f0 ∧ (rd_T97 ns i).f0 ≤ vars)) := by
    intro y hy n hn2
    refine estep (fun k => impl_bddOk.l0.eq_2 (k := k) ..) (eneg (by omega) (ebind1 (a := decide (1 ≤ (rd_T97 ns i).f0 ∧ (rd_T97 ns i).f0 ≤ vars)) ?_ (eok rfl)))
    unfold impl_isVar.f
    rw [within]
    rfl
  -- one round
  have hround : ∀ (y : List Int) (n : Int) (x : Int), y.length = 2 → 0 ≤ n → n < 2 → rd y n = x → ∀ rn, Ev (fun k => impl_bddOk.l0 k vars i y (y.length : Int) (n + 1) root ns (rd_T97 ns i).f0 (rd_T97 ns i).f1 (rd_T97 ns i).f2) rn →
      ∃ r, Ev (fun k => impl_bddOk.l0 k vars i y (y.length : Int) n root ns (rd_T97 ns i).f0 (rd_T97 ns i).f1 (rd_T97 ns i).f2) r ∧ (r = true ↔ (0 ≤ x ∧ x ≤ i + 1 ∧ (x > 1 → (rd_T97 ns i).f0 < (rd_T97 ns (x - 2)).f0)) ∧ rn = true) := by
    rintro y n x hy h0n h2n rfl rn hrn
    have wn : wrap64 (n + 1) = n + 1 := wrap_in (by omega) (by omega)
    by_cases c1 : 0 ≤ rd y n ∧ rd y n ≤ i + 1
    case neg =>
      refine ⟨false, estep (fun k => impl_bddOk.l0.eq_2 (k := k) ..) (epos (by omega) (epos h0n (epos (by omega) (ebind1 (within _ _ _) (eneg (by rw [w1]; exact df c1) (eok rfl)))))), ?_⟩
      simp only [Bool.false_eq_true, false_iff]
      rintro ⟨⟨ha, hb, _⟩, _⟩
      exact c1 ⟨ha, hb⟩
    by_cases c2 : rd y n > 1
    case neg =>
      refine ⟨rn, estep (fun k => impl_bddOk.l0.eq_2 (k := k) ..) (epos (by omega) (epos h0n (epos (by omega) (ebind1 (within _ _ _) (epos (by rw [w1]; exact dt c1) (eneg (by omega) (by rw [wn]; exact hrn))))))), ?_⟩
      exact ⟨fun h => ⟨⟨c1.1, c1.2, fun h => absurd h c2⟩, h⟩, fun h => h.2⟩
    have w2 : wrap64 (rd y n - 2) = rd y n - 2 := wrap_in (by omega) (by omega)
    by_cases c3 : (rd_T97 ns i).f0 < (rd_T97 ns (rd y n - 2)).f0
    · refine ⟨rn, estep (fun k => impl_bddOk.l0.eq_2 (k := k) ..) (epos (by omega) (epos h0n (epos (by omega) (ebind1 (within _ _ _) (epos (by rw [w1]; exact dt c1) (epos (by omega) (epos (by rw [w2]; omega) (epos (by rw [w2]; omega) (eneg (by rw [w2]; omega) (by rw [wn]; exact hrn)))))))))), ?_⟩
      exact ⟨fun h => ⟨⟨c1.1, c1.2, fun _ => c3⟩, h⟩, fun h => h.2⟩
    · refine ⟨false, estep (fun k => impl_bddOk.l0.eq_2 (k := k) ..) (epos (by omega) (epos h0n (epos (by omega) (ebind1 (within _ _ _) (epos (by rw [w1]; exact dt c1) (epos (by omega) (epos (by rw [w2]; omega) (epos (by rw [w2]; omega) (epos (by rw [w2]; exact Int.not_lt.1 c3) (eok rfl)))))))))), ?_⟩
      simp only [Bool.false_eq_true, false_iff]
      rintro ⟨⟨_, _, h⟩, _⟩
      exact c3 (h c2)
  obtain ⟨r1, hr1, e1⟩ := hround [(rd_T97 ns i).f1, (rd_T97 ns i).f2] 1 _ rfl (by omega) (by omega) rfl _ (hend [(rd_T97 ns i).f1, (rd_T97 ns i).f2] rfl _ rfl)
  obtain ⟨r0, hr0, e0⟩ := hround [(rd_T97 ns i).f1, (rd_T97 ns i).f2] 0 _ rfl (by omega) (by omega) rfl r1 hr1
  refine ⟨r0, epos h0 (epos hi (ebind1 rfl hr0)), ?_⟩
  rw [e0, e1]
  have f1 : rd [(rd_T97 ns i).f1, (rd_T97 ns i).f2] 0 = (rd_T97 ns i).f1 := rfl
  have f2 : rd [(rd_T97 ns i).f1, (rd_T97 ns i).f2] 1 = (rd_T97 ns i).f2 := rfl
  rw [f1, f2]
  unfold okN
  simp only [decide_eq_true_eq]
  constructor
  · rintro ⟨⟨a1, a2, a3⟩, ⟨b1, b2, b3⟩, c1, c2⟩
    exact ⟨c1, c2, a1, a2, b1, b2, a3, b3⟩
  · rintro ⟨c1, c2, a1, a2, b1, b2, a3, b3⟩
    exact ⟨⟨a1, a2, a3⟩, ⟨b1, b2, b3⟩, c1, c2⟩

theorem implGood_l (vars root : Int) (ns : List S97) (hn : ns.length ≤ 63) : ∀ (d : Nat) (i : Int), 0 ≤ i → i + d = ns.length →
    ∃ r, Ev (fun k => impl_IsDiagram.l0 k vars (ns.length : Int) i root ns) r ∧ (r = true ↔ ∀ j, i ≤ j → j < ns.length → okN vars ns j) := by
  intro d
  induction d with
  | zero =>
    intro i h0 hd
    refine ⟨true, estep (fun k => impl_IsDiagram.l0.eq_2 (k := k) ..) (eneg (by omega) (eok rfl)), ?_⟩
    simp only [true_iff]
    intro j h1 h2
    omega
  | succ d ih =>
    intro i h0 hd
    obtain ⟨r, hr, hiff⟩ := ih (i + 1) (by omega) (by omega)
    have hi : i < ns.length := by omega
    rw [all_step hi]
    have w1 : wrap64 (i + 1) = i + 1 := wrap_in (by omega) (by omega)
    obtain ⟨b, hb, eb⟩ := bddOk vars root ns i hn h0 hi
    cases b with
    | true =>
      refine ⟨r, estep (fun k => impl_IsDiagram.l0.eq_2 (k := k) ..) (epos hi (ebind hb (epos rfl (by rw [w1]; exact hr)))), ?_⟩
      rw [hiff]
      simp only [eb.1 rfl, true_and]
    | false =>
      refine ⟨false, estep (fun k => impl_IsDiagram.l0.eq_2 (k := k) ..) (epos hi (ebind hb (eneg (by simp) (eok rfl)))), ?_⟩
      have : ¬ okN vars ns i := fun h => by have := eb.2 h; simp at this
      simp [this]
theorem implGood (vars root : Int) (ns : List S97) (hl : ns.length ≤ 1048576) : ∃ r, Ev (fun k => impl_IsDiagram.f k vars root ns) r ∧ (r = true ↔ Good vars root ns) := by
  have hno : Ev (fun k => impl_IsDiagram.j0 k vars true root ns) false := estep (fun k => impl_IsDiagram.j0.eq_2 (k := k) ..) (epos rfl (eok rfl))
  unfold impl_IsDiagram.f
  by_cases c0 : 0 ≤ vars ∧ vars ≤ 6
  case neg =>
    refine ⟨false, ebind1 (within _ _ _) (eneg (df c0) hno), ?_⟩
    have : ¬ Good vars root ns := fun h => c0 ⟨h.1, h.2.1⟩
    simp [this]
  by_cases c1 : ns.length ≤ 63
  case neg =>
    refine ⟨false, ebind1 (within _ _ _) (epos (dt c0) (epos (by omega) hno)), ?_⟩
    have : ¬ Good vars root ns := fun h => c1 h.2.2.1
    simp [this]
  have w : wrap64 ((ns.length : Int) + 1) = ns.length + 1 := wrap_in (by omega) (by omega)
  by_cases c2 : 0 ≤ root ∧ root ≤ ns.length + 1
  case neg =>
    refine ⟨false, ebind1 (within _ _ _) (epos (dt c0) (eneg (by omega) (ebind1 (within _ _ _) (by
      have e : (!decide (0 ≤ root ∧ root ≤ wrap64 ((ns.length : Int) + 1))) = true := by rw [w]; exact ndt c2
      rw [e]; exact hno)))), ?_⟩
    have : ¬ Good vars root ns := fun h => c2 ⟨h.2.2.2.1, h.2.2.2.2.1⟩
    simp [this]
  obtain ⟨r, hr, hiff⟩ := implGood_l vars root ns c1 ns.length 0 (by omega) (by omega)
  refine ⟨r, ebind1 (within _ _ _) (epos (dt c0) (eneg (by omega) (ebind1 (within _ _ _) (by
      have e : (!decide (0 ≤ root ∧ root ≤ wrap64 ((ns.length : Int) + 1))) = false := by rw [w]; exact ndf c2
      rw [e]; exact estep (fun k => impl_IsDiagram.j0.eq_2 (k := k) ..) (eneg (by simp) hr))))), ?_⟩
  rw [hiff]
  exact ⟨fun h => ⟨c0.1, c0.2, c1, c2.1, c2.2, h⟩, fun h => h.2.2.2.2.2⟩

/-- Both say alike. -/
theorem good_both (vars root : Int) (ns : List S97) (hl : ns.length ≤ 1048576) : ∃ r, Ev (fun k => spec_l26Good.f k vars root ns) r ∧ Ev (fun k => impl_IsDiagram.f k vars root ns) r ∧ (r = true ↔ Good vars root ns) := by
  obtain ⟨r, h1, e1⟩ := specGood vars root ns hl
  obtain ⟨s, h2, e2⟩ := implGood vars root ns hl
  have : s = r := by
    cases r <;> cases s <;> simp_all
  subst this
  exact ⟨_, h1, h2, e1⟩

/-- The law's guard: Diagrams that are not too long. -/
theorem sz (a : Int) (l : List S99) (n : Int) (hl : l.length ≤ maxLen) (hn : 0 ≤ n ∧ n ≤ 1048576) : laws_szDiagram.f a l n = some (if (l.length : Int) ≤ n then n - l.length else -1) := by
  have hm : maxLen = 9223372036854775807 := rfl
  have w : wrap64 (n - (l.length : Int)) = n - l.length := wrap_in (by omega) (by omega)
  unfold laws_szDiagram.f laws_szBddNodeS.f
  rw [w]
  by_cases h : (l.length : Int) ≤ n
  · rw [if_neg (by omega), Option.bind_some, if_neg (by omega), if_pos h]
  · rw [if_pos (by omega), Option.bind_some, if_pos (by omega), if_neg h]
end Go.Proofs.Ytggjpogcimdepaa.DiagA
