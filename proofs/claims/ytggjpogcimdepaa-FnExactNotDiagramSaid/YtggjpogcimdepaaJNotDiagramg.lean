/- The law FnExactNotDiagram holds: called with any arguments of its types it returns true and leaves them as they were. No conditions. (Written by xprint.py, a program of this session, out of the law's Pure and the printed contract; Lean checks it.) -/
import Derived.Test.YtggjpogcimdepaaJNotDiagramf
import Derived.Test.YtggjpogcimdepaaJNotDiagrame
import Derived.Test.YtggjpogcimdepaaJNotDiagramc
import Derived.Test.YtggjpogcimdepaaJNotDiagramd
import Derived.Test.YtggjpogcimdepaaJNotDiagramb
import Derived.Test.YtggjpogcimdepaaWWords
import Derived.Deep.Slices
import Derived.WideShapes
import Derived.Test.YtggjpogcimdepaaRows
import Derived.WalkKit
import Derived.ProofKit
import Derived.OpenShut
import Derived.ShutString
import Derived.ChangeOld
import Derived.Below
import Derived.SizedLaws
namespace Go.Proofs.Ytggjpogcimdepaa.Print
def laws_FnExactNotDiagram.Pure : Prop := ∀ (a0 : Int) (a1_0 : Int) (l1_1 : List (S99)), (Lit.int .i64 a0).wf = true → ((Lit.int .i64 a1_0).wf = true ∧ (l1_1.length ≤ maxLen ∧ ∀ x22 ∈ l1_1, ((Lit.int .i64 x22.f0).wf = true ∧ (Lit.int .i64 x22.f1).wf = true ∧ (Lit.int .i64 x22.f2).wf = true))) → ∃ k, laws_FnExactNotDiagram.f k a0 a1_0 l1_1 = some true
end Go.Proofs.Ytggjpogcimdepaa.Print
namespace Go.Proofs.Ytggjpogcimdepaa.DiagA
open Go.RowKit Go.Proofs.YtggjpogcimdepaaW.PrintWords Go.Proofs.YtggjpogcimdepaaW.PrintMore Go.Proofs.Ytggjpogcimdepaa.XEv Go.Proofs.Ytggjpogcimdepaa.Print Go.Proofs.Ytggjpogcimdepaa.Man
set_option linter.unusedVariables false
set_option linter.unusedSimpArgs false
def ob (v b : Nat) : Int := Go.bits .or .i64 (b : Int) (wrap64 (2 ^ (v - 1)))
theorem ob_all : ∀ v, v < 7 → ∀ b, b < 32 → 1 ≤ v → b < 2 ^ (v - 1) → 0 ≤ ob v b ∧ ob v b < ((2 ^ v : Nat) : Int) := by decide +kernel
theorem ob_range {v bits : Int} (h1 : 1 ≤ v) (h6 : v ≤ 6) (h0 : 0 ≤ bits) (hb : bits < ((2 ^ (v.toNat - 1) : Nat) : Int)) :
    0 ≤ Go.bits .or .i64 bits (wrap64 (2 ^ (v.toNat - 1))) ∧ Go.bits .or .i64 bits (wrap64 (2 ^ (v.toNat - 1))) < ((2 ^ v.toNat : Nat) : Int) := by
  obtain ⟨n, rfl⟩ := Int.eq_ofNat_of_zero_le (show 0 ≤ v by omega)
  obtain ⟨b, rfl⟩ := Int.eq_ofNat_of_zero_le h0
  rw [Int.toNat_natCast] at hb ⊢
  have h5 : (2 : Nat) ^ (n - 1) ≤ 2 ^ 5 := Nat.pow_le_pow_right (by omega) (by omega)
  exact ob_all n (by omega) b (by omega) (by omega) (by omega)
theorem shl1' {v : Int} (h1 : 1 ≤ v) (h6 : v ≤ 6) : shl .i64 1 (wrap64 (v - 1)) = wrap64 (2 ^ (v.toNat - 1)) := by
  rw [wrap_in (n := v - 1) (by omega) (by omega), shl1 (by omega) (by omega)]
  obtain ⟨n, rfl⟩ := Int.eq_ofNat_of_zero_le (show 0 ≤ v by omega)
  rw [Int.toNat_natCast, show ((n : Int) - 1).toNat = n - 1 by omega]
  have h5 : (2 : Nat) ^ (n - 1) ≤ 2 ^ 5 := Nat.pow_le_pow_right (by omega) (by omega)
  have e : ((2 : Int) ^ (n - 1)) = ((2 ^ (n - 1) : Nat) : Int) := (Int.natCast_pow 2 (n - 1)).symm
  rw [e]
  have h7 : (2 : Nat) ^ 5 = 32 := rfl
  rw [h7] at h5
  generalize (2 : Nat) ^ (n - 1) = q at h5 ⊢
  rw [wrap_in (by omega) (by omega)]
theorem bq (a b : Int) : (a == b) = (b == a) := BEq.comm
theorem find_ (nodes : List S97) (hl : nodes.length ≤ 1000) (n : S97) : ∀ (r q : List S97), nodes = q ++ r →
    Ev (fun k => spec_l26Plan.l0 k nodes (q.length : Int) n.f0 n.f1 n.f2) (if nidx r n < 0 then (nodes ++ [n], (nodes.length : Int) + 2) else (nodes, (q.length : Int) + nidx r n + 2))
  | [], q, h => by
    subst h
    refine estep (fun k => spec_l26Plan.l0.eq_2 (k := k) ..) (eneg (by simp) (epos (by omega) (eok ?_)))
    rw [wrap_in (by omega) (by omega)]
    simp [nidx]
  | x :: r, q, h => by
    have hr : rd_T97 nodes (q.length : Int) = x := by subst h; simp [rd_T97]
    have hl2 : (q.length : Int) < nodes.length := by subst h; simp; omega
    refine estep (fun k => spec_l26Plan.l0.eq_2 (k := k) ..) (epos hl2 (epos (by omega) ?_))
    rw [hr, bq x.f0, bq x.f1, bq x.f2]
    by_cases e : (n.f0 == x.f0 && (n.f1 == x.f1 && n.f2 == x.f2)) = true
    · refine epos e (eok ?_)
      rw [nidx_hit e, wrap_in (by omega) (by omega)]
      simp
    · refine eneg e ?_
      rw [wrap_in (by omega) (by omega), show (q.length : Int) + 1 = ((q ++ [x]).length : Int) by simp]
      refine ecast (find_ nodes hl n r (q ++ [x]) (by rw [h]; simp)) ?_
      have hge := nidx_ge n r
      rw [nidx_miss e]
      by_cases h0 : nidx r n < 0
      · simp [h0]
      · rw [if_neg h0, if_neg h0, if_neg (by omega)]
        simp
        omega
theorem plan_ (vars : Int) (h0 : 0 ≤ vars) (h6 : vars ≤ 6) (values : List Bool) (p : Int → Bool) (hlen : values.length = 2 ^ vars.toNat) (hval : ∀ b : Nat, b < 2 ^ vars.toNat → rdOf false values (b : Int) = p (b : Int)) :
    ∀ (m : Nat) (v bits : Int) (nodes : List S97), 1 ≤ v → v ≤ vars + 1 → vars + 1 - v < m → 0 ≤ bits → bits < ((2 ^ (v.toNat - 1) : Nat) : Int) → nodes.length + 2 ^ m ≤ 1000 →
      Ev (fun k => spec_l26Plan.f k vars values v bits nodes) (bplan vars p m v bits nodes)
  | 0, v, bits, nodes, h1, h2, h3, h4, h5, h6 => by omega
  | m + 1, v, bits, nodes, h1, h2, h3, h4, h5, hn => by
    rw [bplan]
    refine estep (fun k => spec_l26Plan.f.eq_2 (k := k) ..) ?_
    by_cases hv : v > vars
    · obtain ⟨b, rfl⟩ := Int.eq_ofNat_of_zero_le h4
      have hvv : v.toNat - 1 = vars.toNat := by omega
      rw [hvv] at h5
      refine epos hv (epos h4 (epos (by rw [hlen]; exact h5) ?_))
      rw [if_pos hv, hval b (by omega)]
      by_cases hp : p (b : Int) = true
      · exact epos hp (eok (by simp [hp]))
      · exact eneg hp (eok (by simp [hp]))
    · have hp2 : 2 ^ (m + 1) = 2 ^ m + 2 ^ m := by rw [Nat.pow_succ]; omega
      have hq : 1 ≤ 2 ^ m := Nat.one_le_two_pow
      have hvt : (v + 1).toNat - 1 = v.toNat := by omega
      have hmono : (2 : Nat) ^ (v.toNat - 1) ≤ 2 ^ v.toNat := Nat.pow_le_pow_right (by omega) (by omega)
      have hob := ob_range h1 (by omega) h4 h5
      have ha := plan_ vars h0 h6 values p hlen hval m (v + 1) bits nodes (by omega) (by omega) (by omega) h4 (by rw [hvt]; omega) (by omega)
      have hla := bplan_len vars p m (v + 1) bits nodes
      have hb := plan_ vars h0 h6 values p hlen hval m (v + 1) (Go.bits .or .i64 bits (wrap64 (2 ^ (v.toNat - 1)))) (bplan vars p m (v + 1) bits nodes).1 (by omega) (by omega) (by omega) hob.1 (by rw [hvt]; exact hob.2) (by omega)
      have hlb := bplan_len vars p m (v + 1) (Go.bits .or .i64 bits (wrap64 (2 ^ (v.toNat - 1)))) (bplan vars p m (v + 1) bits nodes).1
      rw [if_neg hv]
      refine eneg hv ?_
      rw [wrap_in (n := v + 1) (by omega) (by omega), shl1' h1 (by omega)]
      refine ebind ha (epos (by rw [wrap_in (by omega) (by omega)]; omega) (ebind hb ?_))
      dsimp only
      generalize bplan vars p m (v + 1) bits nodes = a at *
      generalize bplan vars p m (v + 1) (Go.bits .or .i64 bits (wrap64 (2 ^ (v.toNat - 1)))) a.1 = b at *
      by_cases he : a.2 = b.2
      · rw [if_pos he]
        exact epos he (eok rfl)
      · rw [if_neg he]
        refine eneg he ?_
        have hf := find_ b.1 (by omega) ⟨v, a.2, b.2⟩ b.1 [] rfl
        refine ecast hf ?_
        by_cases hi : nidx b.1 ⟨v, a.2, b.2⟩ < 0
        · rw [if_pos hi, if_pos hi]
        · rw [if_neg hi, if_neg hi]
          simp
/-- The reference's diagram of values. -/
theorem of_ (vars : Int) (h0 : 0 ≤ vars) (h6 : vars ≤ 6) (values : List Bool) (p : Int → Bool) (hlen : values.length = 2 ^ vars.toNat) (hval : ∀ b : Nat, b < 2 ^ vars.toNat → rdOf false values (b : Int) = p (b : Int)) :
    Ev (fun k => spec_l26Of.f k vars values) ((bplan vars p 8 1 0 []).2, (bplan vars p 8 1 0 []).1) := by
  unfold spec_l26Of.f
  exact ebind (plan_ vars h0 h6 values p hlen hval 8 1 0 [] (by omega) (by omega) (by omega) (by omega) (by decide) (by decide)) (eok rfl)
theorem rdOf_at (l : List Bool) (n : Nat) (h : n < l.length) : rdOf false l (n : Int) = l[n] := by simp [rdOf, h]
theorem ofVals (vars root : Int) (ns : List S97) (hg : Good vars root ns) : Ev (fun k => spec_l26Of.f k vars (values vars root ns)) ((bplan vars (dval ns root) 8 1 0 []).2, (bplan vars (dval ns root) 8 1 0 []).1) :=
  of_ vars hg.1 hg.2.1 _ _ (values_length vars root ns) (fun b hb => by
    have h1 := values_at vars root ns b hb
    obtain ⟨hlt, he⟩ := List.getElem?_eq_some_iff.1 h1
    rw [rdOf_at _ _ hlt, he])
end Go.Proofs.Ytggjpogcimdepaa.DiagA
namespace Go.Proofs.Ytggjpogcimdepaa.DiagA
open Go.RowKit Go.Proofs.YtggjpogcimdepaaW.PrintWords Go.Proofs.Ytggjpogcimdepaa.XEv Go.Proofs.Ytggjpogcimdepaa.Print
set_option linter.unusedVariables false
set_option linter.unusedSimpArgs false
/-- The marks from a on. -/
def nmarks (a : Int) (n : Nat) : List S97 := (List.range n).map fun j : Nat => (⟨a + 3 * (j : Int), a + 3 * (j : Int) + 1, a + 3 * (j : Int) + 2⟩ : S97)
theorem nmarks_length (a : Int) (n : Nat) : (nmarks a n).length = n := by simp [nmarks]
theorem rdN_set (xs : List S97) (i : Nat) (y : S97) (h : i < xs.length) : rd_T97 (xs.set i y) (i : Int) = y := by simp [rd_T97, h]
theorem nmark_l (n : Nat) (hn : n ≤ 1048576) (a : Int) (ha : 0 ≤ a) (ha2 : a ≤ 4611686018427387904) : ∀ (d : Nat) (i : Nat) (xs : List S97), i + d = n → xs.length = n → (∀ j, j < i → xs[j]? = (nmarks a n)[j]?) →
    Ev (fun k => laws_markBddNodeS.l0 k xs (a + 3 * (i : Int)) (i : Int)) (a + 3 * (n : Int), nmarks a n) := by
  intro d
  induction d with
  | zero =>
    intro i xs hi hx hp
    refine estep (fun k => laws_markBddNodeS.l0.eq_2 (k := k) ..) (eneg (by omega) (eok ?_))
    have : xs = nmarks a n := by
      apply List.ext_getElem?
      intro j
      by_cases hj : j < i
      · exact hp j hj
      · rw [List.getElem?_eq_none (by omega), List.getElem?_eq_none (by simp [nmarks]; omega)]
    rw [this, show i = n from by omega]
  | succ d ih =>
    intro i xs hi hx hp
    refine estep (fun k => laws_markBddNodeS.l0.eq_2 (k := k) ..) (epos (by omega) (epos (by omega) ?_))
    rw [wrap_in (n := a + 3 * (i : Int) + 1) (by omega) (by omega), wrap_in (n := a + 3 * (i : Int) + 1 + 1) (by omega) (by omega), wrap_in (n := a + 3 * (i : Int) + 1 + 1 + 1) (by omega) (by omega), wrap_in (n := (i : Int) + 1) (by omega) (by omega), Int.toNat_natCast]
    refine ebind1 rfl (ebind1 rfl ?_)
    rw [rdN_set _ _ _ (by omega), rdN_set _ _ _ (by rw [List.length_set]; omega)]
    have e : a + 3 * (i : Int) + 1 + 1 + 1 = a + 3 * ((i + 1 : Nat) : Int) := by omega
    rw [e, show (i : Int) + 1 = ((i + 1 : Nat) : Int) by omega]
    refine ih (i + 1) _ (by omega) (by simpa using hx) (fun j hj => ?_)
    by_cases hji : j = i
    · subst hji
      have e1 : a + 3 * (j : Int) + 1 + 1 = a + 3 * (j : Int) + 2 := by omega
      simp [nmarks, hx, show j < n from by omega, e1]
    · rw [List.getElem?_set_ne (by omega), List.getElem?_set_ne (by omega), List.getElem?_set_ne (by omega)]
      exact hp j (by omega)
theorem markN (r : Int) (xs : List S97) (a : Int) (ha : 0 ≤ a) (ha2 : a ≤ 4611686018427387904) (hl : xs.length ≤ 1048576) : Ev (fun k => laws_markDiagram.f k r xs a) (a + 3 * (xs.length : Int), nmarks a xs.length) := by
  unfold laws_markDiagram.f laws_markBddNodeS.f
  have := nmark_l xs.length hl a ha ha2 xs.length 0 xs (Nat.zero_add _) rfl (fun j hj => by omega)
  rw [show a + 3 * ((0 : Nat) : Int) = a by omega] at this
  exact ebind this (eok rfl)
theorem nheld_l (n : Nat) (hn : n ≤ 1048576) (a : Int) (ha : 0 ≤ a) (ha2 : a ≤ 4611686018427387904) : ∀ (d : Nat) (i : Nat), i + d = n →
    Ev (fun k => laws_heldBddNodeS.l0 k (nmarks a n) (a + 3 * (i : Int)) (i : Int)) (a + 3 * (n : Int)) := by
  have hml := nmarks_length a n
  intro d
  induction d with
  | zero =>
    intro i hi
    refine estep (fun k => laws_heldBddNodeS.l0.eq_2 (k := k) ..) (eneg (by omega) (eok ?_))
    rw [show i = n from by omega]
  | succ d ih =>
    intro i hi
    have hr : rd_T97 (nmarks a n) (i : Int) = (⟨a + 3 * (i : Int), a + 3 * (i : Int) + 1, a + 3 * (i : Int) + 2⟩ : S97) := by
      simp [rd_T97, nmarks, show i < n from by omega]
    refine estep (fun k => laws_heldBddNodeS.l0.eq_2 (k := k) ..) (epos (by omega) (epos (by omega) ?_))
    rw [hr, wrap_in (n := a + 3 * (i : Int) + 1) (by omega) (by omega), wrap_in (n := a + 3 * (i : Int) + 1 + 1) (by omega) (by omega), wrap_in (n := a + 3 * (i : Int) + 1 + 1 + 1) (by omega) (by omega), wrap_in (n := (i : Int) + 1) (by omega) (by omega)]
    refine epos rfl (epos rfl (epos (by show a + 3 * (i : Int) + 2 = _; omega) ?_))
    have e : a + 3 * (i : Int) + 1 + 1 + 1 = a + 3 * ((i + 1 : Nat) : Int) := by omega
    rw [e]
    exact ih (i + 1) (by omega)
theorem heldN (r : Int) (n : Nat) (a : Int) (ha : 0 ≤ a) (ha2 : a ≤ 4611686018427387904) (hl : n ≤ 1048576) : Ev (fun k => laws_heldDiagram.f k r (nmarks a n) a) (a + 3 * (n : Int)) := by
  unfold laws_heldDiagram.f laws_heldBddNodeS.f
  have := nheld_l n hl a ha ha2 n 0 (Nat.zero_add _)
  rw [show a + 3 * ((0 : Nat) : Int) = a by omega] at this
  exact ebind this (eneg (by omega) (eok rfl))
end Go.Proofs.Ytggjpogcimdepaa.DiagA
namespace Go.Proofs.Ytggjpogcimdepaa.Pure
open Go.RowKit Go.Proofs.YtggjpogcimdepaaW.PrintWords Go.Proofs.YtggjpogcimdepaaW.PrintMore Go.Proofs.Ytggjpogcimdepaa.XEv Go.Proofs.Ytggjpogcimdepaa.Print Go.Proofs.Ytggjpogcimdepaa.DiagA Go.Proofs.Ytggjpogcimdepaa.Man
set_option linter.unusedVariables false
set_option linter.unusedSimpArgs false
theorem not_l (vars : Int) (h0 : 0 ≤ vars) (h6 : vars ≤ 6) (n : Nat) (p : Int → Bool) (hn : n = 2 ^ vars.toNat) (hn64 : n ≤ 64) : ∀ (d i : Nat) (xs : List Bool), i + d = n → xs.length = n → (∀ b : Nat, b < n → rdOf false xs (b : Int) = if b < i then !p (b : Int) else p (b : Int)) →
    Ev (fun k => spec_NotDiagram.l0 k vars xs (i : Int)) ((bplan vars (fun i => !p i) 8 1 0 []).2, (bplan vars (fun i => !p i) 8 1 0 []).1, true) := by
  intro d
  induction d with
  | zero =>
    intro i xs hi hx hp
    refine estep (fun k => spec_NotDiagram.l0.eq_2 (k := k) ..) (eneg (by omega) (ebind (of_ vars h0 h6 xs (fun i => !p i) (by rw [hx, hn]) (fun b hb => ?_)) (eok rfl)))
    rw [hp b (by omega), if_pos (by omega)]
  | succ d ih =>
    intro i xs hi hx hp
    refine estep (fun k => spec_NotDiagram.l0.eq_2 (k := k) ..) (epos (by omega) (epos (by omega) ?_))
    rw [wrap_in (by omega) (by omega), show (i : Int) + 1 = ((i + 1 : Nat) : Int) by omega, Int.toNat_natCast]
    refine ih (i + 1) _ (by omega) (by simpa using hx) (fun b hb => ?_)
    by_cases hbi : b = i
    · subst hbi
      rw [if_pos (by omega), hp b hb, if_neg (by omega)]
      simp [rdOf, hx, hb]
    · have : rdOf false (xs.set i (!rdOf false xs (i : Int))) (b : Int) = rdOf false xs (b : Int) := by
        simp only [rdOf, Int.toNat_natCast, List.getD_eq_getElem?_getD]
        rw [List.getElem?_set_ne (by omega)]
      rw [this, hp b hb]
      by_cases h1 : b < i
      · rw [if_pos h1, if_pos (by omega)]
      · rw [if_neg h1, if_neg (by omega)]
theorem FnExactNotDiagram : laws_FnExactNotDiagram.Pure := by
  intro vars root l _ h
  obtain ⟨_, hl, _⟩ := h
  refine Ev.rounds ?_
  unfold laws_FnExactNotDiagram.f
  refine ebind1 (sz root l 1048576 hl (by omega)) ?_
  by_cases hs : (l.length : Int) ≤ 1048576
  case neg => exact epos (by rw [if_neg hs]; omega) (eok rfl)
  refine eneg (by rw [if_pos hs]; omega) ?_
  have hl2 : l.length ≤ 1048576 := by omega
  have hc : (l.map conv).length ≤ 1048576 := by rw [List.length_map]; exact hl2
  have hboth : ∃ (q : Int) (nr : List S97) (b : Bool), nr.length ≤ 1000 ∧ Ev (fun k => spec_NotDiagram.f k vars root (l.map conv)) (q, nr, b) ∧ Ev (fun k => impl_NotDiagram.f k vars root (l.map conv)) (q, nr, b) := by
    unfold spec_NotDiagram.f impl_NotDiagram.f
    obtain ⟨r, h1, h2, hr⟩ := good_both vars root (l.map conv) hc
    cases r with
    | false => exact ⟨0, [], false, by simp, ebind h1 (eneg (by simp) (eok rfl)), ebind h2 (eneg (by simp) (eok rfl))⟩
    | true =>
      have hg := hr.1 rfl
      have hbl := (bplan_len vars (fun i => not_r (dval (l.map conv) root i) (dval (l.map conv) root i)) 8 1 0 []).2
      refine ⟨(bplan vars (fun i => not_r (dval (l.map conv) root i) (dval (l.map conv) root i)) 8 1 0 []).2, (bplan vars (fun i => not_r (dval (l.map conv) root i) (dval (l.map conv) root i)) 8 1 0 []).1, true, by simp at hbl; omega, ?_, ebind h2 (epos rfl (eok rfl))⟩
      refine ebind h1 (epos rfl (ebind (specVals vars root _ hg) ?_))
      have hp6 := pow6 hg.1 hg.2.1
      exact not_l vars hg.1 hg.2.1 (2 ^ vars.toNat) (dval (l.map conv) root) rfl hp6.2 (2 ^ vars.toNat) 0 _ (by omega) (values_length vars root _) (fun b hb => by
        have h1 := values_at vars root (l.map conv) b hb
        obtain ⟨hlt, he⟩ := List.getElem?_eq_some_iff.1 h1
        rw [rdOf_at _ _ hlt, he, if_neg (by omega)])
  obtain ⟨q, nr, b, hnr, hs1, hs2⟩ := hboth
  have hml : (l.map conv).length = l.length := List.length_map _
  have hn2 : nr.length ≤ 1048576 := by omega
  refine ebind (toD root l hl2) (ebind hs1 (ebind (toD root l hl2) (ebind hs2 (ebind (eqD _ _ _ _ hn2) (epos (by simp) ?_)))))
  refine estep (fun k => laws_FnExactNotDiagram.j0.eq_2 (k := k) ..) (eneg (by simp) (ebind (toD root l hl2) (ebind (eqD _ _ _ _ hc) (epos (by simp) (ebind (markN root (l.map conv) 1 (by omega) (by omega) hc) (eneg (by omega) (ebind (eqD _ _ _ _ hn2) (epos (by simp) ?_))))))))
  refine estep (fun k => laws_FnExactNotDiagram.j1.eq_2 (k := k) ..) (eneg (by simp) (ebind (markN q nr 1 (by omega) (by omega) hn2) (ebind (heldN q nr.length 1 (by omega) (by omega) hn2) (eneg (by omega) (epos rfl (ebind (toD root l hl2) (ebind hs2 (ebind (eqD _ _ _ _ hn2) (epos (by simp) ?_)))))))))
  exact estep (fun k => laws_FnExactNotDiagram.j2.eq_2 (k := k) ..) (eneg (by simp) (ebind (heldN q nr.length 1 (by omega) (by omega) hn2) (eneg (by omega) (epos rfl (eok rfl)))))
end Go.Proofs.Ytggjpogcimdepaa.Pure
namespace Go.Proofs.Ytggjpogcimdepaa.XOpen
open Go.RowKit Go.Proofs.YtggjpogcimdepaaW.PrintWords Go.ChangeShapes Go.WideShapes Go.Deep
set_option linter.unusedVariables false
set_option linter.unusedSimpArgs false

/-- What reads as data of type t holds an x of kind d, and ok x. -/
structure Opens (P : Program) (t : TypeId) {α : Type} (d : Kd α) (ok : α → Prop) : Prop where
  cells : P.cellsOf t = d.sz
  down : ∀ {H : Type} {enc : TypeId × Value → H} {w : World} {base : Nat} {sp : Nat → Bool} {hd : Bool} {fuel : Nat} {cs : List Value} {x : DataW H × List MemPlace},
    DataW.trod enc P w base sp hd fuel t cs = some x → ∃ a, d.K w a cs ∧ ok a

theorem Opens.int {P : Program} {t : TypeId} {k : IntKind} (ht : P.underlying t = some (.int k)) (hc : P.cellsOf t = 1) : Opens P t (Kd.int k) (fun n => (Lit.int k n).wf = true) :=
  ⟨hc, fun h => by
    obtain ⟨n, rfl, _, hw⟩ := DataW.trod_int ht h
    exact ⟨n, rfl, hw⟩⟩
theorem Opens.bool {P : Program} {t : TypeId} (ht : P.underlying t = some .bool) (hc : P.cellsOf t = 1) : Opens P t Kd.bool (fun _ => True) :=
  ⟨hc, fun h => by
    obtain ⟨n, rfl, _⟩ := DataW.trod_bool ht h
    exact ⟨n, rfl, trivial⟩⟩
theorem Opens.string {P : Program} {t : TypeId} (ht : P.underlying t = some .string) (hc : P.cellsOf t = 1) : Opens P t Kd.string (fun s => s.size ≤ maxLen) :=
  ⟨hc, fun h => by
    obtain ⟨s, rfl, _, hs⟩ := DataW.trod_string ht h
    exact ⟨s, rfl, hs⟩⟩

theorem cells_eq {w : World} {base n : Nat} {a : Addr} {cs : List Value} (h : w.cells? base a n = some cs) : cs.length = n ∧ ∀ i u, cs[i]? = some u → w.cell? (a.add i) = some u := by
  obtain ⟨_, hl, hc⟩ := World.cells?_some h
  refine ⟨hl, fun i u hu => ?_⟩
  have hi : i < n := by
    have := (List.getElem?_eq_some_iff.1 hu).1
    omega
  rw [hc i hi, hu]

theorem Opens.slice {P : Program} {t e : TypeId} {α : Type} {d : Kd α} {ok : α → Prop} (ht : P.underlying t = some (.slice e)) (hc : P.cellsOf t = 1) (h : Opens P e d ok) :
    Opens P t (Kd.slice e d) (fun xs => xs.length ≤ maxLen ∧ ∀ x ∈ xs, ok x) :=
  ⟨hc, fun {H enc w base sp hd fuel cs x} hx => by
    rcases open_slice ht hx with ⟨rfl, _⟩ | ⟨a, len, cap, m, n, D, Pl, rfl, hb, hl, hm, hmm, _, hel⟩
    · exact ⟨[], ⟨none, 0, rfl, Nat.le_refl _, rfl, by simp, fun h0 => absurd h0 (by simp)⟩, by simp, by simp⟩
    · have hlm : len ≤ m := by rw [hmm]; split <;> omega
      have key : ∀ i, i < len → ∃ x : α, ∃ cs', w.cells? base (a.add (i * d.sz)) d.sz = some cs' ∧ d.K w x cs' ∧ ok x := fun i hi => by
        obtain ⟨cs', h1, h2⟩ := hel i (by omega)
        obtain ⟨x, h3, h4⟩ := h.down h2
        rw [h.cells] at h1
        exact ⟨x, cs', h1, h3, h4⟩
      have hL : ∀ k, k ≤ len → ∃ xs : List α, xs.length = k ∧ ∀ i x, xs[i]? = some x → ∃ cs', w.cells? base (a.add (i * d.sz)) d.sz = some cs' ∧ d.K w x cs' ∧ ok x := by
        intro k
        induction k with
        | zero => exact fun _ => ⟨[], rfl, fun i x hx => by simp at hx⟩
        | succ k ih =>
          intro hk
          obtain ⟨xs, hl1, hx1⟩ := ih (by omega)
          obtain ⟨x, hx2⟩ := key k (by omega)
          refine ⟨xs ++ [x], by simp [hl1], fun i y hy => ?_⟩
          by_cases hi : i < xs.length
          · rw [List.getElem?_append_left hi] at hy
            exact hx1 i y hy
          · have hi2 : i = k := by
              have := (List.getElem?_eq_some_iff.1 hy).1
              simp [hl1] at this
              omega
            subst hi2
            rw [List.getElem?_append_right (by omega), hl1] at hy
            simp at hy
            subst hy
            exact hx2
      obtain ⟨xs, hl1, hx1⟩ := hL len (Nat.le_refl _)
      refine ⟨xs, ⟨some a, cap, by rw [hl1], by omega, rfl, ?_, fun h0 => ⟨a, rfl, fun j p hp => ?_⟩⟩, by omega, fun x hx => ?_⟩
      · have : maxLen = 9223372036854775807 := rfl
        omega
      · obtain ⟨cs', h1, h2, _⟩ := hx1 j p hp
        obtain ⟨hlen, hcell⟩ := cells_eq h1
        refine ⟨cs', hlen, h2, fun i u hu => ?_⟩
        rw [← Deep.add_add]
        exact hcell i u hu
      · obtain ⟨i, hi⟩ := List.mem_iff_getElem?.1 hx
        obtain ⟨_, _, _, h3⟩ := hx1 i x hi
        exact h3⟩

theorem Opens.iso {P : Program} {t : TypeId} {α β : Type} {d : Kd α} {ok : α → Prop} (h : Opens P t d ok) (f : β → α) (g : α → β) (hfg : ∀ a, f (g a) = a) : Opens P t (Kd.iso d f) (fun b => ok (f b)) :=
  ⟨h.cells, fun hx => by
    obtain ⟨a, h1, h2⟩ := h.down hx
    exact ⟨g a, by show d.K _ (f (g a)) _; rw [hfg]; exact h1, by rw [hfg]; exact h2⟩⟩

/-- The same for the fields of a struct from cell 'off' on. -/
structure OpensF (P : Program) (off : Nat) (fs : List Field) {α : Type} (d : Kd α) (ok : α → Prop) : Prop where
  down : ∀ {H : Type} {enc : TypeId × Value → H} {w : World} {base : Nat} {sp : Nat → Bool} {hd : Bool} {fuel : Nat} {cs : List Value},
    cs.length = off + d.sz → (∀ f ∈ fs, ∃ x, DataW.trod enc P w base sp hd fuel f.type ((cs.drop f.offset).take (P.cellsOf f.type)) = some x) → ∃ a, d.K w a (cs.drop off) ∧ ok a

theorem OpensF.one {P : Program} {off : Nat} {f : Field} {α : Type} {d : Kd α} {ok : α → Prop} (h : Opens P f.type d ok) (ho : f.offset = off) : OpensF P off [f] d ok :=
  ⟨fun {H enc w base sp hd fuel cs} hl hx => by
    obtain ⟨x, hx⟩ := hx f (by simp)
    rw [h.cells, ho, List.take_of_length_le (by rw [List.length_drop]; omega)] at hx
    exact h.down hx⟩
theorem OpensF.cons {P : Program} {off : Nat} {f : Field} {fs : List Field} {α β : Type} {d : Kd α} {d' : Kd β} {ok : α → Prop} {ok' : β → Prop} (h : Opens P f.type d ok) (ho : f.offset = off) (hr : OpensF P (off + d.sz) fs d' ok') :
    OpensF P off (f :: fs) (Kd.pair d d') (fun x => ok x.1 ∧ ok' x.2) :=
  ⟨fun {H enc w base sp hd fuel cs} hl hx => by
    have hsz : (Kd.pair d d').sz = d.sz + d'.sz := rfl
    obtain ⟨x, h0⟩ := hx f (by simp)
    rw [h.cells, ho] at h0
    obtain ⟨a, ha, oka⟩ := h.down h0
    obtain ⟨b, hb, okb⟩ := hr.down (by rw [hl, hsz]; omega) (fun g hg => hx g (by simp [hg]))
    refine ⟨(a, b), ⟨_, _, ?_, ha, hb⟩, oka, okb⟩
    rw [← List.drop_drop, List.take_append_drop]⟩
theorem Opens.struct {P : Program} {t : TypeId} {fs : Array Field} {α : Type} {d : Kd α} {ok : α → Prop} (ht : P.underlying t = some (.struct fs)) (hc : P.cellsOf t = d.sz) (h : OpensF P 0 fs.toList d ok) : Opens P t d ok :=
  ⟨hc, fun {H enc w base sp hd fuel cs x} hx => by
    obtain ⟨xs, n, rfl, rfl, hl, hxl, hf⟩ := DataW.trod_struct ht hx
    obtain ⟨a, h1, h2⟩ := h.down (enc := enc) (w := w) (base := base) (sp := sp) (hd := hd) (fuel := n) (cs := cs) (by omega) (fun f hf1 => by
      obtain ⟨i, hi⟩ := List.mem_iff_getElem?.1 hf1
      rw [Array.getElem?_toList] at hi
      have h3 := hf i f hi
      have hi2 : i < fs.size := (Array.getElem?_eq_some_iff.1 hi).1
      rw [List.getElem?_eq_getElem (by omega)] at h3
      exact ⟨_, h3⟩)
    exact ⟨a, by simpa using h1, h2⟩⟩

/-- A slice's or a struct's argument, as the law's contract wants it. -/
theorem Opens.arg {P : Program} {t : TypeId} {α : Type} {d : Kd α} {ok : α → Prop} (h : Opens P t d ok) {H : Type} {enc : TypeId × Value → H} {w : World} {base : Nat} {sp : Nat → Bool} {hd : Bool} {v : Value} {y : DataW H} {ps : List MemPlace}
    (hx : DataW.Trod enc P w base sp hd t v y ps) : ∃ a, d.K w a v.cells.toList ∧ ok a := by
  obtain ⟨fuel, hf⟩ := hx
  exact h.down hf
theorem agg_of {P : Program} {w : World} {r : Reach} {base : Nat} {t : TypeId} {v : Value} {fs : Array Field} (ht : P.underlying t = some (.struct fs)) (hv : Value.okWide P w r base t v) {l : List Value} (h : v.cells.toList = l) : v = .agg l.toArray := by
  obtain ⟨cs, rfl, _⟩ := okWide_struct ht hv
  simp [Value.cells] at h
  rw [← h]
theorem slice_of {P : Program} {w : World} {r : Reach} {base : Nat} {t e : TypeId} {v u : Value} (ht : P.underlying t = some (.slice e)) (hv : Value.okWide P w r base t v) (h : v.cells.toList = [u]) : v = u := by
  obtain ⟨a, len, cap, rfl⟩ := okWide_slice ht hv
  simpa [Value.cells] using h
theorem wf64 {n : Int} (h : (Lit.int .i64 n).wf = true) : -9223372036854775808 ≤ n ∧ n ≤ 9223372036854775807 := by
  simp [Lit.wf, IntKind.min, IntKind.max, IntKind.signed, IntKind.bits] at h
  omega
end Go.Proofs.Ytggjpogcimdepaa.XOpen
namespace Go.Proofs.Ytggjpogcimdepaa.fnExactNotDiagram
open Go.ChangeShapes Go.WideShapes Go.ChangeAt Go.RowKit Go.Proofs.Ytggjpogcimdepaa.XOpen Go.Proofs.Ytggjpogcimdepaa.Print
open Go.Proofs.YtggjpogcimdepaaW.PrintWords
open Go.ChangeMaps (open_string shut_string)
set_option linter.unusedVariables false
theorem own : ownKnob Try.prog.godebug = none := by kernel_rfl
theorem laidOut : laidOutB Try.prog = true := by kernel_rfl
theorem op3 : Opens Try.prog 3 (Kd.int .i64) (fun n : Int => (Lit.int .i64 n).wf = true) := Opens.int Try.underlying3 (by kernel_rfl)
theorem op99 : Opens Try.prog 99 k99 (fun x : S99 => (fun x : ((Int) × (Int) × (Int)) => (fun n : Int => (Lit.int .i64 n).wf = true) x.1 ∧ (fun x : ((Int) × (Int)) => (fun n : Int => (Lit.int .i64 n).wf = true) x.1 ∧ (fun n : Int => (Lit.int .i64 n).wf = true) x.2) x.2) (x.f0, x.f1, x.f2)) := Opens.iso (ok := (fun x : ((Int) × (Int) × (Int)) => (fun n : Int => (Lit.int .i64 n).wf = true) x.1 ∧ (fun x : ((Int) × (Int)) => (fun n : Int => (Lit.int .i64 n).wf = true) x.1 ∧ (fun n : Int => (Lit.int .i64 n).wf = true) x.2) x.2)) (Opens.struct (P := Try.prog) (t := 99) (ok := (fun x : ((Int) × (Int) × (Int)) => (fun n : Int => (Lit.int .i64 n).wf = true) x.1 ∧ (fun x : ((Int) × (Int)) => (fun n : Int => (Lit.int .i64 n).wf = true) x.1 ∧ (fun n : Int => (Lit.int .i64 n).wf = true) x.2) x.2)) Try.underlying99 (by kernel_rfl) (OpensF.cons (ok := (fun n : Int => (Lit.int .i64 n).wf = true)) (ok' := (fun x : ((Int) × (Int)) => (fun n : Int => (Lit.int .i64 n).wf = true) x.1 ∧ (fun n : Int => (Lit.int .i64 n).wf = true) x.2)) op3 rfl (OpensF.cons (ok := (fun n : Int => (Lit.int .i64 n).wf = true)) (ok' := (fun n : Int => (Lit.int .i64 n).wf = true)) op3 rfl (OpensF.one (ok := (fun n : Int => (Lit.int .i64 n).wf = true)) op3 rfl)))) (fun x : S99 => (x.f0, x.f1, x.f2)) (fun p => ⟨p.1, p.2.1, p.2.2⟩) (fun _ => rfl)
theorem op22 : Opens Try.prog 22 (Kd.slice 99 k99) (fun xs : (List (S99)) => xs.length ≤ maxLen ∧ ∀ x ∈ xs, (fun x : S99 => (fun x : ((Int) × (Int) × (Int)) => (fun n : Int => (Lit.int .i64 n).wf = true) x.1 ∧ (fun x : ((Int) × (Int)) => (fun n : Int => (Lit.int .i64 n).wf = true) x.1 ∧ (fun n : Int => (Lit.int .i64 n).wf = true) x.2) x.2) (x.f0, x.f1, x.f2)) x) := Opens.slice (ok := (fun x : S99 => (fun x : ((Int) × (Int) × (Int)) => (fun n : Int => (Lit.int .i64 n).wf = true) x.1 ∧ (fun x : ((Int) × (Int)) => (fun n : Int => (Lit.int .i64 n).wf = true) x.1 ∧ (fun n : Int => (Lit.int .i64 n).wf = true) x.2) x.2) (x.f0, x.f1, x.f2))) Try.underlying22 (by kernel_rfl) op99
theorem op24r : Opens Try.prog 24 (Kd.pair (Kd.int .i64) (Kd.slice 99 k99)) (fun x : ((Int) × (List (S99))) => (fun n : Int => (Lit.int .i64 n).wf = true) x.1 ∧ (fun xs : (List (S99)) => xs.length ≤ maxLen ∧ ∀ x ∈ xs, (fun x : S99 => (fun x : ((Int) × (Int) × (Int)) => (fun n : Int => (Lit.int .i64 n).wf = true) x.1 ∧ (fun x : ((Int) × (Int)) => (fun n : Int => (Lit.int .i64 n).wf = true) x.1 ∧ (fun n : Int => (Lit.int .i64 n).wf = true) x.2) x.2) (x.f0, x.f1, x.f2)) x) x.2) := (Opens.struct (P := Try.prog) (t := 24) (ok := (fun x : ((Int) × (List (S99))) => (fun n : Int => (Lit.int .i64 n).wf = true) x.1 ∧ (fun xs : (List (S99)) => xs.length ≤ maxLen ∧ ∀ x ∈ xs, (fun x : S99 => (fun x : ((Int) × (Int) × (Int)) => (fun n : Int => (Lit.int .i64 n).wf = true) x.1 ∧ (fun x : ((Int) × (Int)) => (fun n : Int => (Lit.int .i64 n).wf = true) x.1 ∧ (fun n : Int => (Lit.int .i64 n).wf = true) x.2) x.2) (x.f0, x.f1, x.f2)) x) x.2)) Try.underlying24 (by kernel_rfl) (OpensF.cons (ok := (fun n : Int => (Lit.int .i64 n).wf = true)) (ok' := (fun xs : (List (S99)) => xs.length ≤ maxLen ∧ ∀ x ∈ xs, (fun x : S99 => (fun x : ((Int) × (Int) × (Int)) => (fun n : Int => (Lit.int .i64 n).wf = true) x.1 ∧ (fun x : ((Int) × (Int)) => (fun n : Int => (Lit.int .i64 n).wf = true) x.1 ∧ (fun n : Int => (Lit.int .i64 n).wf = true) x.2) x.2) (x.f0, x.f1, x.f2)) x)) op3 rfl (OpensF.one (ok := (fun xs : (List (S99)) => xs.length ≤ maxLen ∧ ∀ x ∈ xs, (fun x : S99 => (fun x : ((Int) × (Int) × (Int)) => (fun n : Int => (Lit.int .i64 n).wf = true) x.1 ∧ (fun x : ((Int) × (Int)) => (fun n : Int => (Lit.int .i64 n).wf = true) x.1 ∧ (fun n : Int => (Lit.int .i64 n).wf = true) x.2) x.2) (x.f0, x.f1, x.f2)) x)) op22 rfl)))
set_option maxRecDepth 100000 in
theorem lifted (os : Os) (started : os.Started) (H : Type) (enc : TypeId × Value → H) :
    ReturnsInHanded {} Try.checked os 10 .any (Rows.fnExactNotDiagramSpec.pre6 enc Try.prog Try.f10 Rows.fnExactNotDiagramRow.domain false) (Rows.fnExactNotDiagramSpec.post enc Try.prog Try.f10 false true false false) := by
  refine returnsInHanded_of_change_sized (C := Try.checked) own started (by kernel_rfl) Try.func10
    (ChangeSpec.witness6 (enc := enc) (C := Try.checked) false ⟨#[], #[.int .i64 0, .agg #[.int .i64 0, .slice none 0 0]], []⟩ 8 (by kernel_rfl) (by kernel_rfl) (by kernel_rfl) (by kernel_rfl)) ?_
  intro W base args ds gs before hval0 hW hcnd hsz0 _
  have hval : ∀ (j : Nat) t v, Try.f10.params[j]? = some t → args[j]? = some v → Value.okWide Try.prog W .any base t v := hval0
  have hW' := hW
  obtain ⟨p, q, hA0, hV, rfl, hfz, hnd⟩ := hW
  have hA : DataW.TrodAll enc Try.prog W 0 (fun _ => true) true Try.f10.params.toList args.toList ds p := hA0
  rw [Try.params10] at hA hval
  obtain ⟨v0, vs0, d0, ds0, p0, q0, hargs, rfl, rfl, h0, r0⟩ := trodAll_cons hA
  obtain ⟨v1, vs1, d1, ds1, p1, q1, rfl, rfl, rfl, h1, r1⟩ := trodAll_cons r0
  obtain ⟨rfl, rfl, rfl⟩ := trodAll_nil r1
  obtain rfl : args = #[v0, v1] := by cases args; simp_all
  obtain ⟨rfl, rfl⟩ := trodVars_none hV
  obtain ⟨a0, rfl, rfl, rfl, w0⟩ := open_int Try.underlying3 (hval 0 3 v0 rfl rfl) h0
  have k1 := h1
  have lt1 : ∀ x ∈ p1, x.block < W.heap.size := by obtain ⟨m, hm⟩ := k1; exact DataW.trod_lt m _ _ _ hm
  obtain ⟨⟨a1_0, l1_1⟩, hK1, ok1⟩ := op24r.arg h1
  obtain ⟨_, _, hE1, rfl, ⟨A1_1, c1_1, rfl, hc1_1, hr1_1⟩⟩ := hK1
  obtain rfl : v1 = .agg #[.int .i64 a1_0, .slice A1_1 l1_1.length c1_1] := agg_of Try.underlying24 (hval 1 24 v1 rfl rfl) hE1
  clear hA0 hval0 hsz0
  obtain ⟨k, hP⟩ := Pure.FnExactNotDiagram a0 a1_0 l1_1 w0 ok1
  refine (Print.laws_FnExactNotDiagram.calls k a0 a1_0 A1_1 c1_1 l1_1 true W hr1_1 hc1_1 hP).mono fun e W' ⟨he, bel0⟩ => ?_
  have bel : Below W.heap.size W W' := bel0
  subst he
  exact ⟨_, rfl, _, _, _, [], _, [], hW', trodAll_mk1 (shut_bool Try.underlying4 _), (trodAll_cons_mk (shut_int Try.underlying3 w0) (trodAll_cons_mk (Below.trod laidOut (by kernel_rfl) (of_decide_eq_true (by kernel_rfl)) k1 bel lt1) trodAll_mk0)), rfl, bel.frame _, fun h => by cases h⟩
theorem over : Rows.fnExactNotDiagramRow.holds Try.pinned (OpenSpec.ofChange Rows.fnExactNotDiagramSpec) :=
  OpenClaim.holds_of_wide 10 Try.f10 rfl rfl rfl rfl rfl rfl rfl ⟨rfl, rfl, rfl, rfl, rfl⟩ rfl rfl rfl rfl rfl (by kernel_rfl) Try.func10 (by kernel_rfl)
    (of_decide_eq_true (by kernel_rfl)) (by unfold Func.isWrapper; first | (rw [if_pos (by decide +kernel)]; kernel_rfl) | (rw [if_neg (by decide +kernel)]; exact ⟨rfl, rfl⟩))
    (fun os started H enc _ => lifted os started H enc)
theorem proved : Rows.FnExactNotDiagramSaid := over
#print axioms proved
end Go.Proofs.Ytggjpogcimdepaa.fnExactNotDiagram
namespace Go.Proofs.Ytggjpogcimdepaa
/-- The row, under a short name, for the claim. -/
theorem fnExactNotDiagram_holds : Rows.FnExactNotDiagramSaid := fnExactNotDiagram.proved
end Go.Proofs.Ytggjpogcimdepaa
