/- Polynomials, plainly: the coefficients by monomial and the value for bits, on both sides. No program; no condition but the numbers' ranges. -/
import Derived.Test.YtggjpogcimdepaaPurePolyA
namespace Go.Proofs.Ytggjpogcimdepaa.PolyA
open Go.RowKit Go.Proofs.YtggjpogcimdepaaW.PrintWords Go.Proofs.YtggjpogcimdepaaW.PrintMore Go.Proofs.Ytggjpogcimdepaa.XEv Go.Proofs.Ytggjpogcimdepaa.Print
set_option linter.unusedVariables false
set_option linter.unusedSimpArgs false

/-! ### sums -/
def sumN (f : Nat → Int) : Nat → Int
  | 0 => 0
  | n + 1 => sumN f n + f n
theorem sumN_congr {f g : Nat → Int} : ∀ {n : Nat}, (∀ m, m < n → f m = g m) → sumN f n = sumN g n
  | 0, _ => rfl
  | n + 1, h => by
    show sumN f n + f n = sumN g n + g n
    rw [sumN_congr (n := n) (fun m hm => h m (by omega)), h n (by omega)]
theorem sumN_add (f g : Nat → Int) : ∀ n : Nat, sumN (fun m => f m + g m) n = sumN f n + sumN g n
  | 0 => rfl
  | n + 1 => by
    show sumN (fun m => f m + g m) n + (f n + g n) = (sumN f n + f n) + (sumN g n + g n)
    rw [sumN_add f g n]
    omega
theorem sumN_zero : ∀ n : Nat, sumN (fun _ => 0) n = 0
  | 0 => rfl
  | n + 1 => by
    show sumN (fun _ => 0) n + 0 = 0
    rw [sumN_zero n]
    rfl
theorem sumN_one (a : Nat) (x : Int) : ∀ n : Nat, sumN (fun m => if m = a then x else 0) n = if a < n then x else 0
  | 0 => by simp [sumN]
  | n + 1 => by
    show sumN (fun m => if m = a then x else 0) n + (if n = a then x else 0) = _
    rw [sumN_one a x n]
    by_cases h : n = a
    · subst h
      rw [if_neg (by omega), if_pos rfl, if_pos (by omega)]
      omega
    · by_cases h2 : a < n
      · rw [if_pos h2, if_neg h, if_pos (by omega)]
        omega
      · rw [if_neg h2, if_neg h, if_neg (by omega)]
        rfl
theorem sumN_bd {f : Nat → Int} {b : Int} : ∀ {n : Nat}, (∀ m, m < n → 0 ≤ f m ∧ f m ≤ b) → 0 ≤ sumN f n ∧ sumN f n ≤ b * n
  | 0, _ => by simp [sumN]
  | n + 1, h => by
    have h1 := sumN_bd (n := n) (fun m hm => h m (by omega))
    have h2 := h n (by omega)
    show 0 ≤ sumN f n + f n ∧ sumN f n + f n ≤ b * ((n + 1 : Nat) : Int)
    rw [show ((n + 1 : Nat) : Int) = (n : Int) + 1 from by omega, Int.mul_add, Int.mul_one]
    omega

/-- The sum of the coefficients of the terms whose monomials are as asked. -/
def vsum (c : Int → Bool) : List S69 → Int
  | [] => 0
  | t :: r => (if c t.f0 = true then t.f1 else 0) + vsum c r
theorem vsum_snoc (c : Int → Bool) (t : S69) : ∀ l : List S69, vsum c (l ++ [t]) = vsum c l + if c t.f0 = true then t.f1 else 0
  | [] => by simp [vsum]
  | s :: r => by
    show (if c s.f0 = true then s.f1 else 0) + vsum c (r ++ [t]) = _
    rw [vsum_snoc c t r]
    show _ = (if c s.f0 = true then s.f1 else 0) + vsum c r + _
    omega
/-- The coefficient of a monomial. -/
def den (ts : List S69) (m : Int) : Int := vsum (fun x => decide (x = m)) ts
theorem den_snoc (l : List S69) (t : S69) (m : Int) : den (l ++ [t]) m = den l m + if t.f0 = m then t.f1 else 0 := by
  unfold den
  rw [vsum_snoc]
  simp
theorem vsum_bd {p n : Int} (hp : 1 ≤ p) (c : Int → Bool) : ∀ {ts : List S69}, (∀ t ∈ ts, okT p n t) → 0 ≤ vsum c ts ∧ vsum c ts ≤ (p - 1) * ts.length
  | [], _ => by simp [vsum]
  | t :: r, h => by
    have h1 := vsum_bd hp c (ts := r) (fun s hs => h s (by simp [hs]))
    obtain ⟨_, _, h2, h3⟩ := h t (by simp)
    show 0 ≤ (if c t.f0 = true then t.f1 else 0) + vsum c r ∧ (if c t.f0 = true then t.f1 else 0) + vsum c r ≤ _
    rw [show ((t :: r).length : Int) = (r.length : Int) + 1 from by simp, Int.mul_add, Int.mul_one]
    split <;> omega
/-- No term has the monomial: its coefficient is 0. -/
theorem den_none {m : Int} : ∀ {ts : List S69}, (∀ t ∈ ts, t.f0 ≠ m) → den ts m = 0
  | [], _ => rfl
  | t :: r, h => by
    show (if decide (t.f0 = m) = true then t.f1 else 0) + den r m = 0
    rw [if_neg (by simpa using h t (by simp)), den_none (fun s hs => h s (by simp [hs]))]
    rfl
theorem den_bd {p n : Int} (hp : 1 ≤ p) {m : Int} : ∀ {ts : List S69}, PT p n ts → 0 ≤ den ts m ∧ den ts m ≤ p - 1
  | [], _ => by show (0 : Int) ≤ 0 ∧ (0 : Int) ≤ p - 1; omega
  | t :: r, h => by
    have hr : PT p n r := ⟨h.1.tail, fun s hs => h.2 s (by simp [hs])⟩
    have h1 := den_bd hp (m := m) hr
    obtain ⟨_, _, h2, h3⟩ := h.2 t (by simp)
    show 0 ≤ (if decide (t.f0 = m) = true then t.f1 else 0) + den r m ∧ (if decide (t.f0 = m) = true then t.f1 else 0) + den r m ≤ p - 1
    by_cases e : t.f0 = m
    · rw [if_pos (by simpa using e), den_none (fun s hs => ?_)]
      · omega
      · have := (List.pairwise_cons.1 h.1).1 s hs
        omega
    · rw [if_neg (by simpa using e)]
      omega
/-- The value over the terms is the value over the coefficients. -/
theorem vsum_den (c : Int → Bool) (N : Nat) : ∀ {ts : List S69}, (∀ t ∈ ts, 0 ≤ t.f0 ∧ t.f0 < N) → sumN (fun m => if c (m : Int) = true then den ts m else 0) N = vsum c ts
  | [], _ => by
    show sumN (fun m => if c (m : Int) = true then (0 : Int) else 0) N = 0
    rw [sumN_congr (g := fun _ => 0) (fun m _ => by split <;> rfl), sumN_zero]
  | t :: r, h => by
    obtain ⟨h0, h1⟩ := h t (by simp)
    have ih := vsum_den c N (ts := r) (fun s hs => h s (by simp [hs]))
    have e : ∀ m : Nat, m < N → (if c (m : Int) = true then den (t :: r) m else 0) = (if m = t.f0.toNat then (if c t.f0 = true then t.f1 else 0) else 0) + (if c (m : Int) = true then den r m else 0) := by
      intro m hm
      have hd : den (t :: r) (m : Int) = (if decide (t.f0 = (m : Int)) = true then t.f1 else 0) + den r m := rfl
      rw [hd]
      by_cases hm2 : m = t.f0.toNat
      · have hm3 : t.f0 = (m : Int) := by omega
        rw [if_pos hm2]
        simp only [hm3, decide_true, if_true]
        split <;> simp
      · have hm3 : ¬ t.f0 = (m : Int) := by omega
        rw [if_neg hm2]
        simp only [hm3, decide_false, Bool.false_eq_true, if_false, Int.zero_add]
    rw [sumN_congr e, sumN_add, ih, sumN_one, if_pos (by omega)]
    rfl
/-- All the coefficients, in order. -/
def dense (N : Nat) (ts : List S69) : List Int := (List.range N).map fun m : Nat => den ts (m : Int)
theorem dense_at (N : Nat) (ts : List S69) (m : Nat) (h : m < N) : (dense N ts)[m]? = some (den ts m) := by simp [dense, h]
theorem dense_length (N : Nat) (ts : List S69) : (dense N ts).length = N := by simp [dense]
theorem dense_rd (N : Nat) (ts : List S69) (m : Nat) (h : m < N) : rd (dense N ts) (m : Int) = den ts m := by
  unfold rd
  rw [Int.toNat_natCast, List.getD_eq_getElem?_getD, dense_at N ts m h]
  rfl

section
variable {p vars : Int} (hP : Prime p vars)
include hP
theorem mod_small {c : Int} (h1 : 1 ≤ c) (h2 : c ≤ p - 1) : Int.tmod (wrap64 (0 + c)) p = c := by
  have hb := p_bd hP
  rw [wrap_in (by omega) (by omega), Int.zero_add, Int.tmod_eq_emod_of_nonneg (by omega)]
  exact Int.emod_eq_of_lt (by omega) (by omega)
theorem dense_l (ts : List S69) (hl : ts.length ≤ 1048576) (hg : PT p ((2 ^ vars.toNat : Nat) : Int) ts) : ∀ (d : Nat) (i : Nat) (xs : List Int), i + d = ts.length → xs = dense (2 ^ vars.toNat) (ts.take i) →
    Ev (fun k => impl_ring_dense.l0 k xs ts (ts.length : Int) (i : Int) p vars) (dense (2 ^ vars.toNat) ts) := by
  have hpw := pow6 hP.2.1 hP.2.2
  have hb := p_bd hP
  intro d
  induction d with
  | zero =>
    rintro i xs hi rfl
    rw [List.take_of_length_le (by omega)]
    exact estep (fun k => impl_ring_dense.l0.eq_2 (k := k) ..) (eneg (by omega) (eok rfl))
  | succ d ih =>
    rintro i xs hi rfl
    have hlt : i < ts.length := by omega
    have hrd : rd_T69 ts (i : Int) = ts[i] := by simp [rd_T69, hlt]
    have hpre := PT_pre hg (i + 1)
    have htake : ts.take (i + 1) = ts.take i ++ [ts[i]] := List.take_succ_eq_append_getElem hlt
    have hgi := hg.2 ts[i] (List.getElem_mem hlt)
    have hnone : den (ts.take i) ts[i].f0 = 0 := by
      refine den_none (fun s hs => ?_)
      have h1 := hpre.1
      rw [htake] at h1
      have := (List.pairwise_append.1 h1).2.2 s hs ts[i] (List.mem_singleton.2 rfl)
      omega
    have hm : ts[i].f0 = ((ts[i].f0.toNat : Nat) : Int) := by have := hgi.1; omega
    have hmlt : ts[i].f0.toNat < 2 ^ vars.toNat := by have := hgi.1; have := hgi.2.1; omega
    have hold : rd (dense (2 ^ vars.toNat) (ts.take i)) ts[i].f0 = 0 := by
      have := dense_rd (2 ^ vars.toNat) (ts.take i) ts[i].f0.toNat hmlt
      rw [← hm] at this
      rw [this, hnone]
    refine estep (fun k => impl_ring_dense.l0.eq_2 (k := k) ..) (epos (by omega) (epos (by omega) (epos (by omega) (epos (by rw [hrd]; exact hgi.1) (epos (by rw [hrd, dense_length]; have := hgi.2.1; omega) (eneg (by omega) ?_))))))
    rw [hrd, hold, mod_small hP hgi.2.2.1 hgi.2.2.2, wrap_in (by omega) (by omega)]
    refine ih (i + 1) _ (by omega) ?_
    apply List.ext_getElem?
    intro j
    by_cases hj : j < 2 ^ vars.toNat
    · rw [dense_at _ _ _ hj, htake, den_snoc]
      by_cases hjm : ts[i].f0.toNat = j
      · subst hjm
        rw [List.getElem?_set_self (by rw [dense_length]; exact hmlt), ← hm, hnone, if_pos rfl]
        simp
      · rw [List.getElem?_set_ne hjm, dense_at _ _ _ hj, if_neg (by omega)]
        simp
    · rw [List.getElem?_eq_none (by rw [List.length_set, dense_length]; omega), List.getElem?_eq_none (by rw [dense_length]; omega)]
theorem zero_f : impl_ring_zero.f p vars = some (List.replicate (2 ^ vars.toNat) 0) := by
  have hpw := pow6 hP.2.1 hP.2.2
  unfold impl_ring_zero.f
  rw [if_pos hP.2.1, shl1 hP.2.1 hP.2.2, if_pos (by omega), Int.toNat_natCast, if_pos (by omega)]
omit hP in
theorem dense_nil (N : Nat) : dense N [] = List.replicate N 0 := by
  apply List.ext_getElem?
  intro j
  by_cases hj : j < N
  · rw [dense_at N [] j hj]
    simp [hj, den, vsum]
  · rw [List.getElem?_eq_none (by rw [dense_length]; omega), List.getElem?_eq_none (by simpa using hj)]
theorem dense_f (ts : List S69) (hl : ts.length ≤ 1048576) (hg : PT p ((2 ^ vars.toNat : Nat) : Int) ts) : Ev (fun k => impl_ring_dense.f k p vars ts) (dense (2 ^ vars.toNat) ts) := by
  unfold impl_ring_dense.f
  refine ebind1 (zero_f hP) ?_
  exact dense_l hP ts hl hg ts.length 0 _ (Nat.zero_add _) (by rw [List.take_zero, dense_nil])

/-- Is the monomial m true for bits? -/
def ask (bits m : Int) : Bool := decide (Go.bits .and .i64 m bits = m)
/-- The value for bits. -/
def pval (p : Int) (ts : List S69) (bits : Int) : Int := Int.tmod (vsum (ask bits) ts) p
omit hP in
theorem ask_iff (bits m : Int) : ask bits m = true ↔ Go.bits .and .i64 m bits = m := by simp [ask]
theorem specVal_l (ts : List S69) (hl : ts.length ≤ 1048576) (hg : PT p ((2 ^ vars.toNat : Nat) : Int) ts) (bits : Int) : ∀ (d : Nat) (i : Nat) (s : Int), i + d = ts.length → s = vsum (ask bits) (ts.take i) →
    Ev (fun k => spec_l18Value.l0 k p ts bits s (i : Int)) (pval p ts bits) := by
  have hb := p_bd hP
  intro d
  induction d with
  | zero =>
    rintro i s hi rfl
    rw [List.take_of_length_le (by omega)]
    exact estep (fun k => spec_l18Value.l0.eq_2 (k := k) ..) (eneg (by omega) (eneg (by omega) (eok rfl)))
  | succ d ih =>
    rintro i s hi rfl
    have hlt : i < ts.length := by omega
    have hrd : rd_T69 ts (i : Int) = ts[i] := by simp [rd_T69, hlt]
    have htake : ts.take (i + 1) = ts.take i ++ [ts[i]] := List.take_succ_eq_append_getElem hlt
    have hbd := vsum_bd (p := p) (n := ((2 ^ vars.toNat : Nat) : Int)) (by omega) (ask bits) (ts := ts.take i) (PT_pre hg i).2
    have hti : (ts.take i).length = i := by rw [List.length_take]; omega
    have hgi := hg.2 ts[i] (List.getElem_mem hlt)
    have hmul : (p - 1) * ((ts.take i).length : Int) ≤ 4 * 1048576 := by
      rw [hti]
      have h1 : (p - 1) * (i : Int) ≤ 4 * (i : Int) := Int.mul_le_mul_of_nonneg_right (by omega) (by omega)
      omega
    have w2 : wrap64 ((i : Int) + 1) = ((i + 1 : Nat) : Int) := by rw [wrap_in (by omega) (by omega)]; omega
    refine estep (fun k => spec_l18Value.l0.eq_2 (k := k) ..) (epos (by omega) (epos (by omega) ?_))
    rw [hrd, w2]
    refine eite (fun h => ?_) (fun h => ?_)
    · refine ih (i + 1) _ (by omega) ?_
      rw [htake, vsum_snoc, if_pos ((ask_iff _ _).2 h)]
      have := hgi.2.2
      exact wrap_in (by omega) (by omega)
    · refine ih (i + 1) _ (by omega) ?_
      rw [htake, vsum_snoc, if_neg (fun e => h ((ask_iff _ _).1 e))]
      omega
theorem specVal (ts : List S69) (hl : ts.length ≤ 1048576) (hg : PT p ((2 ^ vars.toNat : Nat) : Int) ts) (bits : Int) : Ev (fun k => spec_l18Value.f k p ts bits) (pval p ts bits) := by
  unfold spec_l18Value.f
  exact specVal_l hP ts hl hg bits ts.length 0 0 (Nat.zero_add _) rfl
theorem implVal_l (ts : List S69) (hl : ts.length ≤ 1048576) (hg : PT p ((2 ^ vars.toNat : Nat) : Int) ts) (bits : Int) : ∀ (d : Nat) (i : Nat) (s : Int), i + d = 2 ^ vars.toNat → s = sumN (fun m => if ask bits (m : Int) = true then den ts m else 0) i →
    Ev (fun k => impl_ring_value.l0 k bits s (dense (2 ^ vars.toNat) ts) ((dense (2 ^ vars.toNat) ts).length : Int) (i : Int) p vars) (pval p ts bits) := by
  have hpw := pow6 hP.2.1 hP.2.2
  have hb := p_bd hP
  have hdl := dense_length (2 ^ vars.toNat) ts
  intro d
  induction d with
  | zero =>
    rintro i s hi rfl
    refine estep (fun k => impl_ring_value.l0.eq_2 (k := k) ..) (eneg (by omega) (eneg (by omega) (eok ?_)))
    rw [show i = 2 ^ vars.toNat from by omega, vsum_den (ask bits) _ (fun t ht => by have := hg.2 t ht; unfold okT at this; omega)]
    rfl
  | succ d ih =>
    rintro i s hi rfl
    have hbd := sumN_bd (b := 4) (f := fun m => if ask bits (m : Int) = true then den ts m else 0) (n := i) (fun m _ => by
      have := den_bd (p := p) (n := ((2 ^ vars.toNat : Nat) : Int)) (by omega) (m := (m : Int)) hg
      show 0 ≤ (if ask bits (m : Int) = true then den ts m else 0) ∧ (if ask bits (m : Int) = true then den ts m else 0) ≤ 4
      split <;> omega)
    have hdi := den_bd (p := p) (n := ((2 ^ vars.toNat : Nat) : Int)) (by omega) (m := (i : Int)) hg
    have w2 : wrap64 ((i : Int) + 1) = ((i + 1 : Nat) : Int) := by rw [wrap_in (by omega) (by omega)]; omega
    refine estep (fun k => impl_ring_value.l0.eq_2 (k := k) ..) (epos (by omega) (epos (by omega) (epos (by omega) ?_)))
    rw [w2, dense_rd _ _ _ (by omega)]
    refine eite (fun h => ?_) (fun h => ?_)
    · refine ih (i + 1) _ (by omega) ?_
      show _ = sumN _ i + (if ask bits (i : Int) = true then den ts i else 0)
      rw [if_pos ((ask_iff _ _).2 h)]
      exact wrap_in (by omega) (by omega)
    · refine ih (i + 1) _ (by omega) ?_
      show _ = sumN _ i + (if ask bits (i : Int) = true then den ts i else 0)
      rw [if_neg (fun e => h ((ask_iff _ _).1 e))]
      omega
theorem implVal (ts : List S69) (hl : ts.length ≤ 1048576) (hg : PT p ((2 ^ vars.toNat : Nat) : Int) ts) (bits : Int) : Ev (fun k => impl_ring_value.f k p vars (dense (2 ^ vars.toNat) ts) bits) (pval p ts bits) := by
  unfold impl_ring_value.f
  exact implVal_l hP ts hl hg bits _ 0 0 (Nat.zero_add _) rfl
theorem pval_bd (ts : List S69) (hg : PT p ((2 ^ vars.toNat : Nat) : Int) ts) (bits : Int) : 0 ≤ pval p ts bits ∧ pval p ts bits ≤ 4 := by
  have hb := p_bd hP
  have hbd := vsum_bd (p := p) (n := ((2 ^ vars.toNat : Nat) : Int)) (by omega) (ask bits) (ts := ts) hg.2
  unfold pval
  rw [Int.tmod_eq_emod_of_nonneg hbd.1]
  have h1 := Int.emod_nonneg (vsum (ask bits) ts) (b := p) (by omega)
  have h2 := Int.emod_lt_of_pos (vsum (ask bits) ts) (b := p) (by omega)
  omega
end

/-- What polys makes of one list of terms. -/
theorem polys_one (p vars : Int) (ts : List S69) (hl : ts.length ≤ 1048576) :
    (¬ Prime p vars ∧ spec_l18Prime.f p vars = some false ∧ Ev (fun k => impl_polys.f k p vars [ts]) (p, vars, [], false)) ∨
    (Prime p vars ∧ spec_l18Prime.f p vars = some true ∧ ∃ r, Ev (fun k => spec_l18Good.l0 k p vars ts 0) r ∧ (r = true ↔ PT p ((2 ^ vars.toNat : Nat) : Int) ts) ∧
      Ev (fun k => impl_polys.f k p vars [ts]) (p, vars, if r = true then [dense (2 ^ vars.toNat) ts] else [], r)) := by
  rcases prime_dec p vars with ⟨h1, h2⟩ | ⟨h1, h2⟩
  · rcases ringOf_dec p vars with ⟨h3, _⟩ | ⟨_, h4⟩
    · obtain ⟨r, hs, hi, hiff⟩ := is_both h2 ts hl
      refine .inr ⟨h2, h1, r, hs, hiff, ?_⟩
      unfold impl_polys.f
      refine ebind1 h3 (epos rfl (estep (fun k => impl_polys.l0.eq_2 (k := k) ..) (epos (by simp) (epos (by omega) (epos (by simp) (ebind hi ?_))))))
      cases r with
      | false => exact eneg (by simp) (eok rfl)
      | true =>
        refine epos rfl (ebind (dense_f h2 ts hl (hiff.1 rfl)) (epos (by simp) (estep (fun k => impl_polys.l0.eq_2 (k := k) ..) (eneg ?_ (eok rfl)))))
        rw [wrap_in (by omega) (by omega)]
        simp
    · exact absurd h2 h4
  · rcases ringOf_dec p vars with ⟨_, h4⟩ | ⟨h3, _⟩
    · exact absurd h4 h2
    · refine .inl ⟨h2, h1, ?_⟩
      unfold impl_polys.f
      exact ebind1 h3 (eneg (by simp) (eok rfl))
end Go.Proofs.Ytggjpogcimdepaa.PolyA
