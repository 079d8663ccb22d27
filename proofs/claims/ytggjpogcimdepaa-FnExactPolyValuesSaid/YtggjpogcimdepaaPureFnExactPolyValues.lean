/- The plain half of FnExactPolyValues: both sides answer alike, nothing is written, and what is handed back is new. No condition but the numbers' ranges. -/
import Derived.Test.YtggjpogcimdepaaSaidFnExactPolyValues
import Derived.Test.YtggjpogcimdepaaPurePolyB
import Derived.Test.YtggjpogcimdepaaPureIntS
namespace Go.Proofs.Ytggjpogcimdepaa.Pure
open Go.RowKit Go.Proofs.YtggjpogcimdepaaW.PrintWords Go.Proofs.YtggjpogcimdepaaW.PrintMore Go.Proofs.Ytggjpogcimdepaa.XEv Go.Proofs.Ytggjpogcimdepaa.Print Go.Proofs.Ytggjpogcimdepaa.PolyA
set_option linter.unusedVariables false
theorem markT_l (n : Nat) (hn : n ≤ 1048576) : ∀ (d : Nat) (i : Nat) (xs : List S69) (a : Int), i + d = n → xs.length = n → 0 ≤ a → a ≤ 2 * i + 1 →
    ∃ b ys, 0 ≤ b ∧ Ev (fun k => laws_markTermS.l0 k xs a (i : Int)) (b, ys) := by
  intro d
  induction d with
  | zero =>
    intro i xs a hi hx h0 h1
    exact ⟨a, xs, h0, estep (fun k => laws_markTermS.l0.eq_2 (k := k) ..) (eneg (by omega) (eok rfl))⟩
  | succ d ih =>
    intro i xs a hi hx h0 h1
    have w1 : wrap64 (a + 1) = a + 1 := wrap_in (by omega) (by omega)
    have w2 : wrap64 (a + 1 + 1) = a + 1 + 1 := wrap_in (by omega) (by omega)
    have w3 : wrap64 ((i : Int) + 1) = ((i + 1 : Nat) : Int) := by rw [wrap_in (by omega) (by omega)]; omega
    obtain ⟨b, ys, hb, he⟩ := ih (i + 1) ((xs.set (i : Int).toNat (⟨a, (rd_T69 xs (i : Int)).f1⟩ : S69)).set (i : Int).toNat (⟨(rd_T69 (xs.set (i : Int).toNat (⟨a, (rd_T69 xs (i : Int)).f1⟩ : S69)) (i : Int)).f0, a + 1⟩ : S69)) (a + 1 + 1) (by omega) (by rw [List.length_set, List.length_set]; exact hx) (by omega) (by omega)
    refine ⟨b, ys, hb, estep (fun k => laws_markTermS.l0.eq_2 (k := k) ..) (epos (by omega) (epos (by omega) (ebind1 rfl ?_)))⟩
    rw [w1, w2, w3]
    exact he
theorem markT (xs : List S69) (hl : xs.length ≤ 1048576) : ∃ b ys, 0 ≤ b ∧ Ev (fun k => laws_markTermS.f k xs 1) (b, ys) := by
  unfold laws_markTermS.f
  exact markT_l xs.length hl xs.length 0 xs 1 (Nat.zero_add _) rfl (by omega) (by omega)

/-- The values for all bits, in order. -/
def pvals (p vars : Int) (ts : List S69) : List Int := (List.range (2 ^ vars.toNat)).map fun b : Nat => pval p ts (b : Int)
section
variable {p vars : Int} (hP : Prime p vars) (ts : List S69) (hl : ts.length ≤ 1048576) (hg : PT p ((2 ^ vars.toNat : Nat) : Int) ts)
include hP hl hg
theorem specVals_l : ∀ (d : Nat) (xs : List Int) (i : Nat), i + d = 2 ^ vars.toNat → xs = (List.range i).map (fun b : Nat => pval p ts (b : Int)) →
    Ev (fun k => spec_PolyValues.l0 k p vars ts xs (i : Int)) (pvals p vars ts, true) := by
  have hp := pow6 hP.2.1 hP.2.2
  intro d
  induction d with
  | zero =>
    rintro xs i hi rfl
    refine estep (fun k => spec_PolyValues.l0.eq_2 (k := k) ..) (epos hP.2.1 (eneg (by rw [shl1 hP.2.1 hP.2.2]; omega) (eok ?_)))
    rw [show i = 2 ^ vars.toNat from by omega]
    rfl
  | succ d ih =>
    rintro xs i hi rfl
    refine estep (fun k => spec_PolyValues.l0.eq_2 (k := k) ..) (epos hP.2.1 (epos (by rw [shl1 hP.2.1 hP.2.2]; omega) (ebind (specVal hP ts hl hg i) (epos (by simp; omega) ?_))))
    rw [wrap_in (by omega) (by omega)]
    exact ih _ (i + 1) (by omega) (by rw [List.range_succ, List.map_append]; rfl)
theorem implVals_l : ∀ (d : Nat) (xs : List Int) (i : Nat), i + d = 2 ^ vars.toNat → xs = (List.range i).map (fun b : Nat => pval p ts (b : Int)) →
    Ev (fun k => impl_PolyValues.l0 k [dense (2 ^ vars.toNat) ts] xs ((2 ^ vars.toNat : Nat) : Int) (i : Int) p vars) (pvals p vars ts, true) := by
  have hp := pow6 hP.2.1 hP.2.2
  intro d
  induction d with
  | zero =>
    rintro xs i hi rfl
    refine estep (fun k => impl_PolyValues.l0.eq_2 (k := k) ..) (eneg (by omega) (eok ?_))
    rw [show i = 2 ^ vars.toNat from by omega]
    rfl
  | succ d ih =>
    rintro xs i hi rfl
    refine estep (fun k => impl_PolyValues.l0.eq_2 (k := k) ..) (epos (by omega) (epos (by simp) (ebind (implVal hP ts hl hg i) (epos (by simp; omega) ?_))))
    rw [wrap_in (by omega) (by omega)]
    exact ih _ (i + 1) (by omega) (by rw [List.range_succ, List.map_append]; rfl)
end
theorem values_both (p vars : Int) (ts : List S69) (hl : ts.length ≤ 1048576) : ∃ r b, r.length ≤ 64 ∧ Ev (fun k => spec_PolyValues.f k p vars ts) (r, b) ∧ Ev (fun k => impl_PolyValues.f k p vars ts) (r, b) := by
  unfold spec_PolyValues.f impl_PolyValues.f spec_l18Good.f
  rcases polys_one p vars ts hl with ⟨_, h1, h2⟩ | ⟨hP, h1, r, h2, hiff, h3⟩
  · exact ⟨[], false, by simp, ebind1 rfl (ebind (ebind1 h1 (eneg (by simp) (eok rfl))) (eneg (by simp) (eok rfl))), ebind h2 (eneg (by simp) (eok rfl))⟩
  · have hpw := pow6 hP.2.1 hP.2.2
    cases r with
    | false => exact ⟨[], false, by simp, ebind1 rfl (ebind (ebind1 h1 (epos rfl h2)) (eneg (by simp) (eok rfl))), ebind h3 (eneg (by simp) (eok rfl))⟩
    | true =>
      have hg := hiff.1 rfl
      refine ⟨pvals p vars ts, true, by simp [pvals]; omega, ebind1 rfl (ebind (ebind1 h1 (epos rfl h2)) (epos rfl (specVals_l hP ts hl hg _ [] 0 (Nat.zero_add _) rfl))), ebind h3 (epos rfl (epos hP.2.1 ?_))⟩
      rw [shl1 hP.2.1 hP.2.2]
      exact implVals_l hP ts hl hg _ [] 0 (Nat.zero_add _) rfl
theorem FnExactPolyValues : laws_FnExactPolyValues.Pure := by
  intro p vars l _ _ h
  obtain ⟨hl, _⟩ := h
  refine Ev.rounds ?_
  unfold laws_FnExactPolyValues.f
  refine ebind1 (sz l 1048576 hl (by omega)) ?_
  by_cases hs : (l.length : Int) ≤ 1048576
  case neg => exact epos (by rw [if_neg hs]; omega) (eok rfl)
  refine eneg (by rw [if_pos hs]; omega) ?_
  have hl2 : l.length ≤ 1048576 := by omega
  have hc : (l.map conv).length ≤ 1048576 := by rw [List.length_map]; exact hl2
  obtain ⟨r, b, hr, hs1, hs2⟩ := values_both p vars (l.map conv) hc
  obtain ⟨mk, ys, hmk, hmt⟩ := markT (l.map conv) hc
  have hm := IntS.markI r 1 (by omega) (by omega) (by omega)
  have hh := IntS.heldI r.length 1 (by omega) (by omega) (by omega)
  have he := IntS.eqI r r (by omega)
  refine ebind (toT l hl2) (ebind hs1 (ebind (toT l hl2) (ebind hs2 (ebind he (epos (by simp) ?_)))))
  refine estep (fun k => laws_FnExactPolyValues.j0.eq_2 (k := k) ..) (eneg (by simp) (ebind (toT l hl2) (ebind (eqT _ _ hc) (epos (by simp) (ebind hmt (eneg (by omega) (ebind he (epos (by simp) ?_))))))))
  refine estep (fun k => laws_FnExactPolyValues.j1.eq_2 (k := k) ..) (eneg (by simp) (ebind hm (ebind hh (eneg (by omega) (epos rfl (ebind (toT l hl2) (ebind hs2 (ebind he (epos (by simp) ?_)))))))))
  exact estep (fun k => laws_FnExactPolyValues.j2.eq_2 (k := k) ..) (eneg (by simp) (ebind hh (eneg (by omega) (epos rfl (eok rfl)))))
end Go.Proofs.Ytggjpogcimdepaa.Pure
