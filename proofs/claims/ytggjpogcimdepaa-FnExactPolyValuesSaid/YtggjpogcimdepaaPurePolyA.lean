/- Polynomials, plainly: what a copy of terms is, when two are the same, that both sides say alike what a polynomial is; its coefficients by monomial; its value for bits. No program; no condition but the numbers' ranges. -/
import Derived.Test.YtggjpogcimdepaaXEv
import Derived.Test.YtggjpogcimdepaaFnspecl18Good
import Derived.Test.YtggjpogcimdepaaFnspecl18Value
import Derived.Test.YtggjpogcimdepaaFnimplpolys
import Derived.Test.YtggjpogcimdepaaFnimplringvalue
import Derived.Test.YtggjpogcimdepaaFnimplbitsOk
import Derived.Test.YtggjpogcimdepaaFnlawstoTermS
import Derived.Test.YtggjpogcimdepaaFnlawseqTermS
import Derived.Test.YtggjpogcimdepaaFnlawsszTermS
namespace Go.Proofs.Ytggjpogcimdepaa.PolyA
open Go.RowKit Go.Proofs.YtggjpogcimdepaaW.PrintWords Go.Proofs.YtggjpogcimdepaaW.PrintMore Go.Proofs.Ytggjpogcimdepaa.XEv Go.Proofs.Ytggjpogcimdepaa.Print
set_option linter.unusedVariables false
set_option linter.unusedSimpArgs false

theorem upto6 {v : Int} (h0 : 0 ≤ v) (h6 : v ≤ 6) : v = 0 ∨ v = 1 ∨ v = 2 ∨ v = 3 ∨ v = 4 ∨ v = 5 ∨ v = 6 := by omega
theorem shl1 {v : Int} (h0 : 0 ≤ v) (h6 : v ≤ 6) : shl .i64 1 v = ((2 ^ v.toNat : Nat) : Int) := by
  rcases upto6 h0 h6 with rfl | rfl | rfl | rfl | rfl | rfl | rfl <;> decide
theorem pow6 {v : Int} (h0 : 0 ≤ v) (h6 : v ≤ 6) : 1 ≤ 2 ^ v.toNat ∧ 2 ^ v.toNat ≤ 64 := by
  rcases upto6 h0 h6 with rfl | rfl | rfl | rfl | rfl | rfl | rfl <;> decide
theorem l1In (a b c : Int) : spec_l1In.f a b c = some (decide (b ≤ a ∧ a ≤ c)) := by
  unfold spec_l1In.f
  by_cases h : a ≥ b <;> simp [h] <;> omega
theorem within (a b c : Int) : impl_within.f a b c = some (decide (b ≤ a ∧ a ≤ c)) := by
  unfold impl_within.f
  by_cases h : a ≥ b <;> simp [h] <;> omega
theorem bitsOk (vars bits : Int) (h0 : 0 ≤ vars) (h6 : vars ≤ 6) : impl_bitsOk.f vars bits = some (decide (0 ≤ bits ∧ bits ≤ ((2 ^ vars.toNat : Nat) : Int) - 1)) := by
  have hp := pow6 h0 h6
  unfold impl_bitsOk.f
  rw [if_pos h0, shl1 h0 h6, wrap_in (by omega) (by omega), within]
  rfl

instance : DecidableEq S69 := fun x y =>
  if h : x.f0 = y.f0 ∧ x.f1 = y.f1 then .isTrue (by cases x; cases y; simp_all) else .isFalse (fun e => h (by subst e; simp))
def conv (x : S71) : S69 := ⟨x.f0, x.f1⟩

/-! ### copies, the same, the law's guard -/
theorem toS_l (l : List S71) (hl : l.length ≤ 1048576) : ∀ (d : Nat) (xs : List S69) (i : Int), 0 ≤ i → i + d = l.length → xs.length = l.length →
    (∀ j : Nat, (j : Int) < i → xs[j]? = (l.map conv)[j]?) → Ev (fun k => laws_toTermS.l0 k l xs i) (l.map conv) := by
  intro d
  induction d with
  | zero =>
    intro xs i h0 hd hx hp
    refine estep (fun k => laws_toTermS.l0.eq_2 (k := k) ..) (eneg (by omega) (eok ?_))
    apply List.ext_getElem?
    intro j
    by_cases hj : (j : Int) < i
    · exact hp j hj
    · rw [List.getElem?_eq_none (by omega), List.getElem?_eq_none (by rw [List.length_map]; omega)]
  | succ d ih =>
    intro xs i h0 hd hx hp
    obtain ⟨n, rfl⟩ := Int.eq_ofNat_of_zero_le h0
    refine estep (fun k => laws_toTermS.l0.eq_2 (k := k) ..) (epos (by omega) (epos (by omega) ?_))
    refine ebind1 (a := ((rd_T71 l n).f0, (rd_T71 l n).f1)) rfl (epos (by omega) ?_)
    rw [wrap_in (by omega) (by omega)]
    refine ih _ _ (by omega) (by omega) (by simpa using hx) (fun j hj => ?_)
    have hn : n < l.length := by omega
    by_cases hjn : j = n
    · subst hjn
      simp [hn, hx, rd_T71, conv]
    · rw [← hp j (by omega)]
      simp only [Int.toNat_natCast]
      rw [List.getElem?_set_ne (by omega)]
theorem toT (l : List S71) (hl : l.length ≤ 1048576) : Ev (fun k => laws_toTermS.f k l) (l.map conv) := by
  unfold laws_toTermS.f
  refine epos (by omega) (epos (by omega) ?_)
  exact toS_l l hl l.length _ 0 (by omega) (by omega) (by simp) (fun j hj => by omega)
theorem eqN (x y : S69) : laws_eqTerm.f x.f0 x.f1 y.f0 y.f1 = some (decide (x = y)) := by
  unfold laws_eqTerm.f
  obtain ⟨x0, x1⟩ := x
  obtain ⟨y0, y1⟩ := y
  by_cases h0 : x0 = y0 <;> by_cases h1 : x1 = y1 <;> simp [h0, h1]
theorem eqS_l (l m : List S69) (hl : l.length ≤ 1048576) (hm : l.length = m.length) : ∀ (d : Nat) (i : Int), 0 ≤ i → i + d = l.length →
    Ev (fun k => laws_eqTermS.l0 k l m i) (decide (l.drop i.toNat = m.drop i.toNat)) := by
  intro d
  induction d with
  | zero =>
    intro i h0 hd
    refine estep (fun k => laws_eqTermS.l0.eq_2 (k := k) ..) (eneg (by omega) (eok ?_))
    rw [List.drop_of_length_le (by omega), List.drop_of_length_le (by omega)]
    rfl
  | succ d ih =>
    intro i h0 hd
    obtain ⟨n, rfl⟩ := Int.eq_ofNat_of_zero_le h0
    have hn : n < l.length := by omega
    have hn2 : n < m.length := by omega
    refine estep (fun k => laws_eqTermS.l0.eq_2 (k := k) ..) (epos (by omega) (epos (by omega) (epos (by omega) ?_)))
    refine ebind1 (eqN _ _) ?_
    have e1 : rd_T69 l n = l[n] := by simp [rd_T69, hn]
    have e2 : rd_T69 m n = m[n] := by simp [rd_T69, hn2]
    have hdl : l.drop n = l[n] :: l.drop (n + 1) := List.drop_eq_getElem_cons hn
    have hdm : m.drop n = m[n] :: m.drop (n + 1) := List.drop_eq_getElem_cons hn2
    refine eite (fun h => ?_) (fun h => eok ?_)
    · have h' : l[n] = m[n] := by rw [← e1, ← e2]; simpa using h
      rw [wrap_in (by omega) (by omega)]
      refine ecast (ih (n + 1) (by omega) (by omega)) ?_
      rw [Int.toNat_natCast, hdl, hdm, h', show ((n : Int) + 1).toNat = n + 1 from by omega]
      simp only [List.cons.injEq, true_and]
    · have h' : ¬ l[n] = m[n] := by rw [← e1, ← e2]; simpa using h
      rw [Int.toNat_natCast, hdl, hdm]
      simp only [List.cons.injEq, h', false_and, decide_false]
theorem eqT (l m : List S69) (hl : l.length ≤ 1048576) : Ev (fun k => laws_eqTermS.f k l m) (decide (l = m)) := by
  unfold laws_eqTermS.f
  by_cases hlm : l.length = m.length
  · exact epos (by omega) (eqS_l l m hl hlm l.length 0 (by omega) (by omega))
  · refine eneg (by omega) (eok ?_)
    have : l ≠ m := fun h => hlm (by rw [h])
    simp [this]
theorem sz (l : List S71) (n : Int) (hl : l.length ≤ maxLen) (hn : 0 ≤ n ∧ n ≤ 1048576) : laws_szTermS.f l n = some (if (l.length : Int) ≤ n then n - l.length else -1) := by
  have hm : maxLen = 9223372036854775807 := rfl
  have w : wrap64 (n - (l.length : Int)) = n - l.length := wrap_in (by omega) (by omega)
  unfold laws_szTermS.f
  rw [w]
  by_cases h : (l.length : Int) ≤ n
  · rw [if_neg (by omega), if_pos h]
  · rw [if_pos (by omega), if_neg h]

/-! ### what a polynomial is -/
def okT (p n : Int) (t : S69) : Prop := 0 ≤ t.f0 ∧ t.f0 ≤ n - 1 ∧ 1 ≤ t.f1 ∧ t.f1 ≤ p - 1
/-- Terms in order, each in its range. -/
def PT (p n : Int) (ts : List S69) : Prop := ts.Pairwise (fun a b => a.f0 < b.f0) ∧ ∀ t ∈ ts, okT p n t
def Prime (p vars : Int) : Prop := (p = 2 ∨ p = 3 ∨ p = 5) ∧ 0 ≤ vars ∧ vars ≤ 6
theorem PT_pre {p n : Int} {ts : List S69} (h : PT p n ts) (i : Nat) : PT p n (ts.take i) :=
  ⟨h.1.sublist (List.take_sublist i ts), fun t ht => h.2 t (List.mem_of_mem_take ht)⟩
theorem PT_snoc {p n : Int} {ts : List S69} {i : Nat} (hi : i < ts.length) (h : PT p n (ts.take i)) :
    PT p n (ts.take (i + 1)) ↔ okT p n ts[i] ∧ (0 < i → (rd_T69 ts ((i : Int) - 1)).f0 < ts[i].f0) := by
  have e : ts.take (i + 1) = ts.take i ++ [ts[i]] := List.take_succ_eq_append_getElem hi
  have hlastm : ∀ (l : List S69) (x : S69), x ∈ l ++ [x] := fun l x => List.mem_append_right _ (List.mem_singleton.2 rfl)
  have hprev : ∀ (k : Nat) (hk : k < ts.length), i = k + 1 → rd_T69 ts ((i : Int) - 1) = ts[k] ∧ ts.take i = ts.take k ++ [ts[k]] := by
    rintro k hk rfl
    refine ⟨?_, List.take_succ_eq_append_getElem hk⟩
    rw [show ((k + 1 : Nat) : Int) - 1 = (k : Int) from by omega]
    simp [rd_T69, hk]
  rw [e]
  constructor
  · intro ⟨h1, h2⟩
    refine ⟨h2 _ (hlastm _ _), fun hi0 => ?_⟩
    obtain ⟨k, rfl⟩ : ∃ k, i = k + 1 := ⟨i - 1, by omega⟩
    obtain ⟨e1, e2⟩ := hprev k (by omega) rfl
    rw [e1]
    have h1' := List.pairwise_append.1 h1
    exact h1'.2.2 _ (by rw [e2]; exact hlastm _ _) _ (List.mem_singleton.2 rfl)
  · intro ⟨h1, h2⟩
    refine ⟨?_, fun t ht => ?_⟩
    · refine List.pairwise_append.2 ⟨h.1, List.pairwise_singleton _ _, fun a ha b hb => ?_⟩
      have hb' := List.mem_singleton.1 hb
      subst hb'
      rcases Nat.eq_zero_or_pos i with rfl | hi0
      · simp at ha
      obtain ⟨k, rfl⟩ : ∃ k, i = k + 1 := ⟨i - 1, by omega⟩
      obtain ⟨e1, e2⟩ := hprev k (by omega) rfl
      have hlast := h2 hi0
      rw [e1] at hlast
      rw [e2] at ha
      have h1' := h.1
      rw [e2] at h1'
      have h1'' := List.pairwise_append.1 h1'
      rcases List.mem_append.1 ha with ha | ha
      · have := h1''.2.2 a ha _ (List.mem_singleton.2 rfl)
        omega
      · have := List.mem_singleton.1 ha
        subst this
        exact hlast
    · rcases List.mem_append.1 ht with ht | ht
      · exact h.2 t ht
      · have := List.mem_singleton.1 ht
        subst this
        exact h1

theorem prime_dec (p vars : Int) : (spec_l18Prime.f p vars = some true ∧ Prime p vars) ∨ (spec_l18Prime.f p vars = some false ∧ ¬ Prime p vars) := by
  unfold spec_l18Prime.f Prime
  rw [l1In]
  by_cases h : 0 ≤ vars ∧ vars ≤ 6
  · by_cases h2 : p = 2
    · exact .inl ⟨by simp [h, h2], .inl h2, h⟩
    by_cases h3 : p = 3
    · exact .inl ⟨by simp [h, h3], .inr (.inl h3), h⟩
    by_cases h5 : p = 5
    · exact .inl ⟨by simp [h, h5], .inr (.inr h5), h⟩
    · exact .inr ⟨by simp [h2, h3, h5], fun e => by omega⟩
  · refine .inr ⟨?_, fun e => h e.2⟩
    by_cases h2 : p = 2
    · simp only [h2, if_true, Option.bind_some]
      exact congrArg some (decide_eq_false h)
    by_cases h3 : p = 3
    · subst h3
      simp only [if_neg h2, if_true, Option.bind_some]
      exact congrArg some (decide_eq_false h)
    by_cases h5 : p = 5
    · subst h5
      simp only [if_neg h2, if_neg h3, if_true, Option.bind_some]
      exact congrArg some (decide_eq_false h)
    · simp [h2, h3, h5]
theorem ringOf_dec (p vars : Int) : (impl_ringOf.f p vars = some (p, vars, true) ∧ Prime p vars) ∨ (impl_ringOf.f p vars = some (p, vars, false) ∧ ¬ Prime p vars) := by
  unfold impl_ringOf.f Prime
  rw [within]
  by_cases h : 0 ≤ vars ∧ vars ≤ 6
  · by_cases h2 : p = 2
    · exact .inl ⟨by simp [h, h2], .inl h2, h⟩
    by_cases h3 : p = 3
    · exact .inl ⟨by simp [h, h3], .inr (.inl h3), h⟩
    by_cases h5 : p = 5
    · exact .inl ⟨by simp [h, h5], .inr (.inr h5), h⟩
    · exact .inr ⟨by simp [h2, h3, h5], fun e => by omega⟩
  · refine .inr ⟨?_, fun e => h e.2⟩
    by_cases h2 : p = 2
    · subst h2
      simp only [if_true, Option.bind_some]
      rw [decide_eq_false h]
    by_cases h3 : p = 3
    · subst h3
      simp only [if_neg h2, if_true, Option.bind_some]
      rw [decide_eq_false h]
    by_cases h5 : p = 5
    · subst h5
      simp only [if_neg h2, if_neg h3, if_true, Option.bind_some]
      rw [decide_eq_false h]
    · simp [h2, h3, h5]

section
variable {p vars : Int} (hP : Prime p vars)
include hP
theorem p_bd : 2 ≤ p ∧ p ≤ 5 := by
  obtain ⟨h, _⟩ := hP
  omega
theorem specGood_l (ts : List S69) (hl : ts.length ≤ 1048576) : ∀ (d : Nat) (i : Nat), i + d = ts.length → PT p ((2 ^ vars.toNat : Nat) : Int) (ts.take i) →
    ∃ r, Ev (fun k => spec_l18Good.l0 k p vars ts (i : Int)) r ∧ (r = true ↔ PT p ((2 ^ vars.toNat : Nat) : Int) ts) := by
  have hpw := pow6 hP.2.1 hP.2.2
  have hb := p_bd hP
  intro d
  induction d with
  | zero =>
    intro i hi h
    rw [List.take_of_length_le (by omega)] at h
    exact ⟨true, estep (fun k => spec_l18Good.l0.eq_2 (k := k) ..) (eneg (by omega) (eok rfl)), iff_t h⟩
  | succ d ih =>
    intro i hi h
    have hlt : i < ts.length := by omega
    have hrd : rd_T69 ts (i : Int) = ts[i] := by simp [rd_T69, hlt]
    have hsn := PT_snoc hlt h
    have hno : ¬ PT p ((2 ^ vars.toNat : Nat) : Int) (ts.take (i + 1)) → ¬ PT p ((2 ^ vars.toNat : Nat) : Int) ts := fun h1 h2 => h1 (PT_pre h2 _)
    have w0 : wrap64 (shl .i64 1 vars - 1) = ((2 ^ vars.toNat : Nat) : Int) - 1 := by rw [shl1 hP.2.1 hP.2.2, wrap_in (by omega) (by omega)]
    have w1 : wrap64 (p - 1) = p - 1 := wrap_in (by omega) (by omega)
    have w2 : wrap64 ((i : Int) + 1) = ((i + 1 : Nat) : Int) := by rw [wrap_in (by omega) (by omega)]; omega
    have hin : ∀ {r}, Ev (fun k => (spec_l1In.f (rd_T69 ts (i : Int)).f0 0 (wrap64 (shl .i64 1 vars - 1))).bind fun t103 => (if t103 = true then ((spec_l1In.f ((rd_T69 ts (i : Int)).f1) 1 (wrap64 (p - 1))).bind fun t105 => (if t105 = true then (if (i : Int) > 0 then (if 0 ≤ (wrap64 ((i : Int) - 1)) then (if (wrap64 ((i : Int) - 1)) < (ts.length : Int) then (if ((rd_T69 ts (wrap64 ((i : Int) - 1))).f0) ≥ ((rd_T69 ts (i : Int)).f0) then (some false) else (spec_l18Good.l0 k p vars ts (wrap64 ((i : Int) + 1)))) else (none)) else (none)) else (spec_l18Good.l0 k p vars ts (wrap64 ((i : Int) + 1)))) else (some false))) else (some false))) r → Ev (fun k => spec_l18Good.l0 k p vars ts (i : Int)) r :=
      fun h => estep (fun k => spec_l18Good.l0.eq_2 (k := k) ..) (epos (by omega) (epos (by omega) (epos hP.2.1 h)))
    by_cases c0 : 0 ≤ ts[i].f0 ∧ ts[i].f0 ≤ ((2 ^ vars.toNat : Nat) : Int) - 1
    case neg =>
      refine ⟨false, hin (ebind1 (l1In _ _ _) (eneg (by rw [hrd, w0]; exact df c0) (eok rfl))), ?_⟩
      have := hno (fun e => c0 ⟨(hsn.1 e).1.1, (hsn.1 e).1.2.1⟩)
      exact iff_f this
    by_cases c1 : 1 ≤ ts[i].f1 ∧ ts[i].f1 ≤ p - 1
    case neg =>
      refine ⟨false, hin (ebind1 (l1In _ _ _) (epos (by rw [hrd, w0]; exact dt c0) (ebind1 (l1In _ _ _) (eneg (by rw [hrd, w1]; exact df c1) (eok rfl))))), ?_⟩
      have := hno (fun e => c1 ⟨(hsn.1 e).1.2.2.1, (hsn.1 e).1.2.2.2⟩)
      exact iff_f this
    have hmid : ∀ {r}, Ev (fun k => (if (i : Int) > 0 then (if 0 ≤ (wrap64 ((i : Int) - 1)) then (if (wrap64 ((i : Int) - 1)) < (ts.length : Int) then (if ((rd_T69 ts (wrap64 ((i : Int) - 1))).f0) ≥ ((rd_T69 ts (i : Int)).f0) then (some false) else (spec_l18Good.l0 k p vars ts (wrap64 ((i : Int) + 1)))) else (none)) else (none)) else (spec_l18Good.l0 k p vars ts (wrap64 ((i : Int) + 1))))) r → Ev (fun k => spec_l18Good.l0 k p vars ts (i : Int)) r :=
      fun h => hin (ebind1 (l1In _ _ _) (epos (by rw [hrd, w0]; exact dt c0) (ebind1 (l1In _ _ _) (epos (by rw [hrd, w1]; exact dt c1) h))))
    by_cases c2 : 0 < i → (rd_T69 ts ((i : Int) - 1)).f0 < ts[i].f0
    case neg =>
      have c2' := Classical.not_imp.1 c2
      have w3 : wrap64 ((i : Int) - 1) = (i : Int) - 1 := wrap_in (by omega) (by omega)
      refine ⟨false, hmid (epos (by omega) (epos (by omega) (epos (by omega) (epos (by rw [w3, hrd]; omega) (eok rfl))))), ?_⟩
      have := hno (fun e => c2 (hsn.1 e).2)
      exact iff_f this
    obtain ⟨r, hr, hiff⟩ := ih (i + 1) (by omega) (hsn.2 ⟨⟨c0.1, c0.2, c1.1, c1.2⟩, c2⟩)
    refine ⟨r, hmid ?_, hiff⟩
    rw [w2]
    refine eite (fun g => ?_) (fun _ => hr)
    have w3 : wrap64 ((i : Int) - 1) = (i : Int) - 1 := wrap_in (by omega) (by omega)
    have := c2 (by omega)
    exact epos (by omega) (epos (by omega) (eneg (by rw [w3, hrd]; omega) hr))
theorem implIs_l (ts : List S69) (hl : ts.length ≤ 1048576) : ∀ (d : Nat) (i : Nat), i + d = ts.length → PT p ((2 ^ vars.toNat : Nat) : Int) (ts.take i) →
    ∃ r, Ev (fun k => impl_ring_is.l0 k ts ts (ts.length : Int) (i : Int) p vars) r ∧ (r = true ↔ PT p ((2 ^ vars.toNat : Nat) : Int) ts) := by
  have hpw := pow6 hP.2.1 hP.2.2
  have hb := p_bd hP
  intro d
  induction d with
  | zero =>
    intro i hi h
    rw [List.take_of_length_le (by omega)] at h
    exact ⟨true, estep (fun k => impl_ring_is.l0.eq_2 (k := k) ..) (eneg (by omega) (eok rfl)), iff_t h⟩
  | succ d ih =>
    intro i hi h
    have hlt : i < ts.length := by omega
    have hrd : rd_T69 ts (i : Int) = ts[i] := by simp [rd_T69, hlt]
    have hsn := PT_snoc hlt h
    have hno : ¬ PT p ((2 ^ vars.toNat : Nat) : Int) (ts.take (i + 1)) → ¬ PT p ((2 ^ vars.toNat : Nat) : Int) ts := fun h1 h2 => h1 (PT_pre h2 _)
    have w1 : wrap64 (p - 1) = p - 1 := wrap_in (by omega) (by omega)
    have w2 : wrap64 ((i : Int) + 1) = ((i + 1 : Nat) : Int) := by rw [wrap_in (by omega) (by omega)]; omega
    have hin : ∀ {r}, Ev (fun k => (impl_bitsOk.f vars (rd_T69 ts (i : Int)).f0).bind fun t104 => (if t104 = true then ((impl_within.f ((rd_T69 ts (i : Int)).f1) 1 (wrap64 (p - 1))).bind fun t105 => (if t105 = true then (if (i : Int) > 0 then (if 0 ≤ (wrap64 ((i : Int) - 1)) then (if (wrap64 ((i : Int) - 1)) < (ts.length : Int) then (if ((rd_T69 ts (i : Int)).f0) ≤ ((rd_T69 ts (wrap64 ((i : Int) - 1))).f0) then (some false) else (impl_ring_is.l0 k ts ts (ts.length : Int) (wrap64 ((i : Int) + 1)) p vars)) else (none)) else (none)) else (impl_ring_is.l0 k ts ts (ts.length : Int) (wrap64 ((i : Int) + 1)) p vars)) else (some false))) else (some false))) r → Ev (fun k => impl_ring_is.l0 k ts ts (ts.length : Int) (i : Int) p vars) r :=
      fun h => estep (fun k => impl_ring_is.l0.eq_2 (k := k) ..) (epos (by omega) (epos (by omega) (epos (by omega) h)))
    by_cases c0 : 0 ≤ ts[i].f0 ∧ ts[i].f0 ≤ ((2 ^ vars.toNat : Nat) : Int) - 1
    case neg =>
      refine ⟨false, hin (ebind1 (bitsOk _ _ hP.2.1 hP.2.2) (eneg (by rw [hrd]; exact df c0) (eok rfl))), ?_⟩
      have := hno (fun e => c0 ⟨(hsn.1 e).1.1, (hsn.1 e).1.2.1⟩)
      exact iff_f this
    by_cases c1 : 1 ≤ ts[i].f1 ∧ ts[i].f1 ≤ p - 1
    case neg =>
      refine ⟨false, hin (ebind1 (bitsOk _ _ hP.2.1 hP.2.2) (epos (by rw [hrd]; exact dt c0) (ebind1 (within _ _ _) (eneg (by rw [hrd, w1]; exact df c1) (eok rfl))))), ?_⟩
      have := hno (fun e => c1 ⟨(hsn.1 e).1.2.2.1, (hsn.1 e).1.2.2.2⟩)
      exact iff_f this
    have hmid : ∀ {r}, Ev (fun k => (if (i : Int) > 0 then (if 0 ≤ (wrap64 ((i : Int) - 1)) then (if (wrap64 ((i : Int) - 1)) < (ts.length : Int) then (if ((rd_T69 ts (i : Int)).f0) ≤ ((rd_T69 ts (wrap64 ((i : Int) - 1))).f0) then (some false) else (impl_ring_is.l0 k ts ts (ts.length : Int) (wrap64 ((i : Int) + 1)) p vars)) else (none)) else (none)) else (impl_ring_is.l0 k ts ts (ts.length : Int) (wrap64 ((i : Int) + 1)) p vars))) r → Ev (fun k => impl_ring_is.l0 k ts ts (ts.length : Int) (i : Int) p vars) r :=
      fun h => hin (ebind1 (bitsOk _ _ hP.2.1 hP.2.2) (epos (by rw [hrd]; exact dt c0) (ebind1 (within _ _ _) (epos (by rw [hrd, w1]; exact dt c1) h))))
    by_cases c2 : 0 < i → (rd_T69 ts ((i : Int) - 1)).f0 < ts[i].f0
    case neg =>
      have c2' := Classical.not_imp.1 c2
      have w3 : wrap64 ((i : Int) - 1) = (i : Int) - 1 := wrap_in (by omega) (by omega)
      refine ⟨false, hmid (epos (by omega) (epos (by omega) (epos (by omega) (epos (by rw [w3, hrd]; omega) (eok rfl))))), ?_⟩
      have := hno (fun e => c2 (hsn.1 e).2)
      exact iff_f this
    obtain ⟨r, hr, hiff⟩ := ih (i + 1) (by omega) (hsn.2 ⟨⟨c0.1, c0.2, c1.1, c1.2⟩, c2⟩)
    refine ⟨r, hmid ?_, hiff⟩
    rw [w2]
    refine eite (fun g => ?_) (fun _ => hr)
    have w3 : wrap64 ((i : Int) - 1) = (i : Int) - 1 := wrap_in (by omega) (by omega)
    have := c2 (by omega)
    exact epos (by omega) (epos (by omega) (eneg (by rw [w3, hrd]; omega) hr))
omit hP in
theorem PT_nil : PT p ((2 ^ vars.toNat : Nat) : Int) ([] : List S69) := ⟨List.Pairwise.nil, by simp⟩
/-- Both sides say alike whether terms are a polynomial, once the numbers are valid. -/
theorem is_both (ts : List S69) (hl : ts.length ≤ 1048576) : ∃ r, Ev (fun k => spec_l18Good.l0 k p vars ts 0) r ∧ Ev (fun k => impl_ring_is.f k p vars ts) r ∧ (r = true ↔ PT p ((2 ^ vars.toNat : Nat) : Int) ts) := by
  obtain ⟨r, h1, e1⟩ := specGood_l hP ts hl ts.length 0 (Nat.zero_add _) PT_nil
  obtain ⟨s, h2, e2⟩ := implIs_l hP ts hl ts.length 0 (Nat.zero_add _) PT_nil
  have : s = r := by cases r <;> cases s <;> simp_all
  subst this
  exact ⟨_, h1, h2, e1⟩
end
end Go.Proofs.Ytggjpogcimdepaa.PolyA
