/- Part 6 of 7 of the proof of FnExactOrDiagrams: contracts and plain halves, packed by merge.py (a program of this session) out of texts that build alone too. No condition of its own. -/
import Derived.Test.YtggjpogcimdepaaJOrDiagramse
import Derived.Lib.Hide
import Derived.BigRegion
import Derived.RegionTactic
import Derived.ChangeAlike
import Derived.Deep.QuietTactic
import Derived.BigQuiet
import Derived.Deep.RegionWith
import Derived.Deep.RegionLaw
import Derived.Outline
import Derived.Shelf.Abstract
import Derived.Test.YtggjpogcimdepaaJOrDiagramsb
import Derived.Test.YtggjpogcimdepaaJOrDiagramsa
import Derived.Test.YtggjpogcimdepaaJOrDiagramsd
import Derived.Test.YtggjpogcimdepaaJOrDiagramsc
import Derived.Deep.RegionHeld3
namespace Go.Proofs.Ytggjpogcimdepaa.Man
open Go.RowKit Go.Proofs.YtggjpogcimdepaaW.PrintWords Go.Proofs.YtggjpogcimdepaaW.PrintLast Go.Proofs.YtggjpogcimdepaaW.PrintMore Go.Proofs.Ytggjpogcimdepaa.Print Go.Proofs.Ytggjpogcimdepaa.XEv
set_option linter.unusedVariables false
set_option linter.unusedSimpArgs false

theorem pchain {w w1 w2 : World} (h : Below w.heap.size w w1) (k : Below w1.heap.size w1 w2) : Below w.heap.size w w2 := h.trans (k.mono h.size)
/-- The nodes' index of a node, or -1. -/
def nidx : List S97 → S97 → Int
  | [], _ => -1
  | x :: xs, n => if (n.f0 == x.f0 && (n.f1 == x.f1 && n.f2 == x.f2)) = true then 0 else (if nidx xs n < 0 then -1 else nidx xs n + 1)
/-- The plan of values from a variable on. -/
def bplan (vars : Int) (p : Int → Bool) : Nat → Int → Int → List S97 → List S97 × Int
  | 0, _, _, nodes => (nodes, 0)
  | m + 1, v, bits, nodes =>
    if v > vars then (nodes, if p bits = true then 1 else 0)
    else
      let a := bplan vars p m (v + 1) bits nodes
      let b := bplan vars p m (v + 1) (Go.bits .or .i64 bits (wrap64 (2 ^ (v.toNat - 1)))) a.1
      if a.2 = b.2 then (b.1, a.2)
      else if nidx b.1 ⟨v, a.2, b.2⟩ < 0 then (b.1 ++ [⟨v, a.2, b.2⟩], (b.1.length : Int) + 2)
      else (b.1, nidx b.1 ⟨v, a.2, b.2⟩ + 2)
/-- A function value that gives the values p: called in a world in which all of w0 stands, it makes at most new memory. -/
def FV (w0 : World) (g : Nat) (fs lb : Array Value) (p : Int → Bool) : Prop :=
  ∀ (W : World), Below w0.heap.size w0 W → ∀ i : Int, Calls Try.prog g (fs.push (.int .i64 i) ++ lb) W fun e w' => e = .returned (.bool (p i)) ∧ Below W.heap.size W w'
theorem FV.use {w0 : World} {g : Nat} {fs lb : Array Value} {p : Int → Bool} (h : Hid (FV w0 g fs lb p)) (W : World) (hW : Below w0.heap.size w0 W) (i : Int) {b : Bool} (hb : Hid (p i = b)) : Calls Try.prog g (fs.push (.int .i64 i) ++ lb) W fun e w' => e = .returned (.bool b) ∧ Below W.heap.size W w' := by
  have := h.out W hW i
  rw [hb.out] at this
  exact this
/-- The plan's block in w: the nodes so far. -/
def PL (w0 : World) (B : Nat) (vars : Int) (fv : Value) (w : World) (nodes : List S97) : Prop :=
  ∃ sv, w.heap[B]? = some (.cells #[.int .i64 vars, fv, sv] 110 (0, 0)) ∧ Kd.R k97 97 w w0.heap.size (fun k => w0.heap.size ≤ k ∧ k ≠ B) sv nodes ∧ Below w0.heap.size w0 w ∧ w0.heap.size ≤ B
/-- A call of from. -/
def FR (w0 : World) (B : Nat) (vars : Int) (fv : Value) (p : Int → Bool) (m : Nat) : Prop :=
  ∀ (v bits : Int) (nodes : List S97) (w : World), PL w0 B vars fv w nodes → 1 ≤ v → v ≤ vars + 1 → vars + 1 - v < m → nodes.length + 2 ^ m ≤ 1000 →
    Calls Try.prog 93 #[.pointer (some ⟨B, 0, none⟩), .int .i64 v, .int .i64 bits] w fun e w' => e = .returned (.int .i64 (bplan vars p m v bits nodes).2) ∧ PL w0 B vars fv w' (bplan vars p m v bits nodes).1
set_option maxHeartbeats 2000000 in
theorem from_leaf (w0 : World) (B : Nat) (vars : Int) (g : Nat) (fs lb : Array Value) (eg : ∀ args w, (callFunc g args).run Try.prog w = .ok (.enter g args) w) (p : Int → Bool) (HF : Hid (FV w0 g fs lb p)) (v bits : Int) (nodes : List S97) (w : World)
    (h : PL w0 B vars (.func (.func g) fs lb) w nodes) (hv : v > vars) (b : Bool) (hb : Hid (p bits = b)) :
    Calls Try.prog 93 #[.pointer (some ⟨B, 0, none⟩), .int .i64 v, .int .i64 bits] w fun e w' => e = .returned (.int .i64 (if b = true then 1 else 0)) ∧ PL w0 B vars (.func (.func g) fs lb) w' nodes := by
  obtain ⟨sv, hblk, hR, hB, hBn⟩ := h
  have h0 : w.cell? ⟨B, 0, none⟩ = some (.int .i64 vars) := (blk_cell hblk 0).trans rfl
  have h1 : w.cell? ⟨B, 1, none⟩ = some (.func (.func g) fs lb) := (blk_cell hblk 1).trans rfl
  have HBK := Lib.hid hblk
  have HR := Lib.hid hR
  have HB := Lib.hid hB
  clear hblk hR hB
  cases b
  all_goals
    go_enter Try.func93, Try.ntmps93
    go_wp2_with (go_at_fn g; (with_reducible refine (FV.use HF _ HB.out _ hb).mono ?_); rintro e w1 ⟨rfl, hb1⟩)
    go_ret
    exact ⟨rfl, sv, (hb1.block _ (Array.getElem?_eq_some_iff.1 HBK.out).1).trans HBK.out, Kd.R_below HR.out hb1, HB.out.trans (hb1.mono HB.out.size), hBn⟩
theorem FR.use {w0 : World} {B : Nat} {vars : Int} {fv : Value} {p : Int → Bool} {m : Nat} (h : Hid (FR w0 B vars fv p m)) {v bits : Int} {nodes : List S97} {w : World} (hp : Hid (PL w0 B vars fv w nodes)) (h1 : 1 ≤ v) (h2 : v ≤ vars + 1) (h3 : vars + 1 - v < m) (h4 : nodes.length + 2 ^ m ≤ 1000) {n2 : List S97} {r : Int} (hr : Hid (bplan vars p m v bits nodes = (n2, r))) :
    Calls Try.prog 93 #[.pointer (some ⟨B, 0, none⟩), .int .i64 v, .int .i64 bits] w fun e w' => e = .returned (.int .i64 r) ∧ PL w0 B vars fv w' n2 := by
  have := h.out v bits nodes w hp.out h1 h2 h3 h4
  rw [hr.out] at this
  exact this
theorem bplan_len (vars : Int) (p : Int → Bool) : ∀ (m : Nat) (v bits : Int) (nodes : List S97), nodes.length ≤ (bplan vars p m v bits nodes).1.length ∧ (bplan vars p m v bits nodes).1.length + 1 ≤ nodes.length + 2 ^ m
  | 0, v, bits, nodes => by simp [bplan]
  | m + 1, v, bits, nodes => by
    have h1 := bplan_len vars p m (v + 1) bits nodes
    have h2 := bplan_len vars p m (v + 1) (Go.bits .or .i64 bits (wrap64 (2 ^ (v.toNat - 1)))) (bplan vars p m (v + 1) bits nodes).1
    have hp : 2 ^ (m + 1) = 2 ^ m + 2 ^ m := by rw [Nat.pow_succ]; omega
    have hq : 1 ≤ 2 ^ m := Nat.one_le_two_pow
    unfold bplan
    dsimp only
    repeat' split
    all_goals (try simp only [List.length_append, List.length_cons, List.length_nil])
    all_goals omega
theorem nidx_hit {x n : S97} {r : List S97} (e : (n.f0 == x.f0 && (n.f1 == x.f1 && n.f2 == x.f2)) = true) : nidx (x :: r) n = 0 := by rw [nidx, if_pos e]
theorem nidx_miss {x n : S97} {r : List S97} (e : ¬ (n.f0 == x.f0 && (n.f1 == x.f1 && n.f2 == x.f2)) = true) : nidx (x :: r) n = if nidx r n < 0 then -1 else nidx r n + 1 := by rw [nidx, if_neg e]
theorem nidx_ge (n : S97) : ∀ r : List S97, -1 ≤ nidx r n
  | [] => by simp [nidx]
  | x :: r => by
    have := nidx_ge n r
    unfold nidx
    split
    · omega
    · split <;> omega
theorem nidx_lt (n : S97) : ∀ r : List S97, nidx r n < (r.length : Int)
  | [] => by simp [nidx]
  | x :: r => by
    have := nidx_lt n r
    unfold nidx
    simp only [List.length_cons]
    split
    · omega
    · split <;> omega
theorem nidx_go (l : List S97) (n : S97) (hl : l.length ≤ 1000) : ∀ (r q : List S97), l = q ++ r → Ev (fun k => impl_BddNode_106.l0 k l (l.length : Int) (q.length : Int) n.f0 n.f1 n.f2) (if nidx r n < 0 then -1 else (q.length : Int) + nidx r n)
  | [], q, h => by
    subst h
    refine estep (fun k => impl_BddNode_106.l0.eq_2 (k := k) ..) (eneg (by simp) (eok (by simp [nidx])))
  | x :: r, q, h => by
    have hr : rd_T97 l (q.length : Int) = x := by subst h; simp [rd_T97]
    have hl2 : (q.length : Int) < l.length := by subst h; simp; omega
    refine estep (fun k => impl_BddNode_106.l0.eq_2 (k := k) ..) (epos hl2 (epos (by omega) (epos hl2 ?_)))
    rw [hr]
    by_cases e : (n.f0 == x.f0 && (n.f1 == x.f1 && n.f2 == x.f2)) = true
    · refine epos e (eok ?_)
      rw [nidx_hit e]
      simp
    · refine eneg e ?_
      rw [wrap_in (by omega) (by omega), show (q.length : Int) + 1 = ((q ++ [x]).length : Int) by simp]
      refine ecast (nidx_go l n hl r (q ++ [x]) (by rw [h]; simp)) ?_
      rw [nidx_miss e]
      by_cases h0 : nidx r n < 0
      · simp [h0]
      · rw [if_neg h0, if_neg h0, if_neg (by omega)]
        simp
        omega
theorem nidx_ (l : List S97) (n : S97) (hl : l.length ≤ 1000) : Ev (fun k => impl_BddNode_106.f k l n.f0 n.f1 n.f2) (if nidx l n < 0 then -1 else nidx l n) := by
  have := nidx_go l n hl l [] rfl
  refine ecast this ?_
  simp
/-- A call of slices.Index over the nodes. -/
theorem index_ (A : Option Addr) (c : Nat) (l : List S97) (n : S97) (hl : l.length ≤ 1000) (r : Int) (hr : (if nidx l n < 0 then -1 else nidx l n) = r) (W : World) (h : Kd.C k97 W A l.length l) (hc : l.length ≤ c) :
    Calls Try.prog 106 #[.slice A l.length c, .agg #[.int .i64 n.f0, .int .i64 n.f1, .int .i64 n.f2]] W fun e w' => e = .returned (.int .i64 r) ∧ Below W.heap.size W w' := by
  obtain ⟨k, hk⟩ := Ev.rounds (nidx_ l n hl)
  subst hr
  exact impl_BddNode_106.calls k A c l n.f0 n.f1 n.f2 _ W h hc hk
theorem pl_put {w0 : World} {B : Nat} {vars : Int} {fv x y : Value} {w : World} {nodes : List S97} (h : w.heap[B]? = some (.cells #[.int .i64 vars, fv, x] 110 (0, 0))) (hR : Kd.R k97 97 w w0.heap.size (fun k => w0.heap.size ≤ k ∧ k ≠ B) y nodes) (hB : Below w0.heap.size w0 w) (hBn : w0.heap.size ≤ B) : PL w0 B vars fv (w.setCell ⟨B, 2, none⟩ y) nodes :=
  ⟨y, blk_set h 2 y, Kd.R_far (p := ⟨B, 2, none⟩) hR (fun k hk => hk.2) y, below_set hB hBn, hBn⟩
set_option maxHeartbeats 4000000 in
set_option maxRecDepth 100000 in
theorem from_step (w0 : World) (B : Nat) (vars : Int) (fv : Value) (p : Int → Bool) (m : Nat) (HI : Hid (FR w0 B vars fv p m)) (v bits : Int) (nodes : List S97) (w : World)
    (HP : Hid (PL w0 B vars fv w nodes)) (hv : v ≤ vars) (hv1 : 1 ≤ v) (hv6 : vars ≤ 6) (hm : vars - v < m) (hn : nodes.length + 2 ^ m + 2 ^ m ≤ 1000) (n1 n2 : List S97) (low high : Int)
    (ha : Hid (bplan vars p m (v + 1) bits nodes = (n1, low))) (hb : Hid (bplan vars p m (v + 1) (Go.bits .or .i64 bits (wrap64 (2 ^ (v.toNat - 1)))) n1 = (n2, high)))
    (nr : List S97) (r : Int) (hres : Hid (nr = if low = high then n2 else if nidx n2 ⟨v, low, high⟩ < 0 then n2 ++ [⟨v, low, high⟩] else n2)) (hres2 : Hid (r = if low = high then low else if nidx n2 ⟨v, low, high⟩ < 0 then (n2.length : Int) + 2 else nidx n2 ⟨v, low, high⟩ + 2)) :
    Calls Try.prog 93 #[.pointer (some ⟨B, 0, none⟩), .int .i64 v, .int .i64 bits] w fun e w' => e = .returned (.int .i64 r) ∧ PL w0 B vars fv w' nr := by
  have hl1 : n1.length + 1 ≤ nodes.length + 2 ^ m := by have := (bplan_len vars p m (v + 1) bits nodes).2; rw [ha.out] at this; exact this
  have hl2 : n2.length + 1 ≤ n1.length + 2 ^ m := by have := (bplan_len vars p m (v + 1) (Go.bits .or .i64 bits (wrap64 (2 ^ (v.toNat - 1)))) n1).2; rw [hb.out] at this; exact this
  have hq : 1 ≤ 2 ^ m := Nat.one_le_two_pow
  have hbd : n2.length ≤ 1000 := by omega
  have c0 : w.cell? ⟨B, 0, none⟩ = some (.int .i64 vars) := by
    obtain ⟨sv, hblk, _⟩ := HP.out
    exact (blk_cell hblk 0).trans rfl
  have H1 := Lib.hid (show nodes.length + 2 ^ m ≤ 1000 by omega)
  have H2 := Lib.hid (show n1.length + 2 ^ m ≤ 1000 by omega)
  clear hl1 hl2 hn hq
  go_enter Try.func93, Try.ntmps93
  go_wp2_with fail
  (with_reducible refine (FR.use HI HP (by omega) (by omega) (by omega) H1.out ha).mono ?_)
  rintro e w1 ⟨rfl, hp1⟩
  have HP1 := Lib.hid hp1
  clear hp1
  go_wp2_with fail
  (with_reducible refine (FR.use HI HP1 (by omega) (by omega) (by omega) H2.out hb).mono ?_)
  rintro e w2 ⟨rfl, hp2⟩
  obtain ⟨sv, hblk, hR, hB, hBn⟩ := hp2
  have d0 : w2.cell? ⟨B, 0, none⟩ = some (.int .i64 vars) := (blk_cell hblk 0).trans rfl
  obtain ⟨A, c, rfl, hlc, hC⟩ := Kd.R_reads hR
  have d2 : w2.cell? ⟨B, 2, none⟩ = some (.slice A n2.length c) := (blk_cell hblk 2).trans rfl
  have hBlt : B < w2.heap.size := (Array.getElem?_eq_some_iff.1 hblk).1
  have HBK := Lib.hid hblk
  have HR := Lib.hid hR
  have HB := Lib.hid hB
  have HC := Lib.hid hC
  clear hblk hR hB hC
  by_cases hlh : low = high
  · have hd : ((low : Int) == high) = true := by simpa using hlh
    go_wp2_with fail
    go_ret
    refine ⟨by rw [hres2.out, if_pos hlh, hlh]; rfl, ?_⟩
    rw [hres.out, if_pos hlh]
    exact ⟨_, HBK.out, HR.out, HB.out, hBn⟩
  have hd : ((low : Int) == high) = false := by simpa using hlh
  have hge := nidx_ge ⟨v, low, high⟩ n2
  have hlt := nidx_lt ⟨v, low, high⟩ n2
  by_cases hix : nidx n2 ⟨v, low, high⟩ < 0
  · have hri := Lib.hid (show (if nidx n2 ⟨v, low, high⟩ < 0 then -1 else nidx n2 ⟨v, low, high⟩) = -1 from if_pos hix)
    go_wp2_with fail
    go_region_with (go_at_call 106; (with_reducible refine (index_ A c n2 ⟨v, low, high⟩ hbd _ hri.out _ ?hC hlc).mono ?_); (case hC => repeat (first | exact HC.out | (with_reducible refine Kd.C_alloc ?_ _) | (with_reducible refine Kd.C_drewN ?_ _) | (with_reducible refine Kd.C_drew ?_))); rintro e w3 ⟨rfl, hb3⟩)
    all_goals
      have hbb : Below w2.heap.size w2 w3 := pchain (below_drew (below_alloc (Below.refl _ _) _)) hb3
      have hblk3 : w3.heap[B]? = some (.cells #[.int .i64 vars, fv, .slice A n2.length c] 110 (0, 0)) := (hbb.block B hBlt).trans HBK.out
      have hbn3 : w3.heap[w2.heap.size]? = some (.cells #[.int .i64 v, .int .i64 low, .int .i64 high] 97 (0, 0)) := (hb3.block w2.heap.size (by simp)).trans (heap_alloc_new w2 _)
      have hR3 := Kd.R_below HR.out hbb
      have hB3 : Below w0.heap.size w0 w3 := HB.out.trans (hbb.mono HB.out.size)
      have e2 : w3.cell? ⟨B, 2, none⟩ = some (.slice A n2.length c) := (blk_cell hblk3 2).trans rfl
      have q0 : w3.cell? ⟨w2.heap.size, 0, none⟩ = some (.int .i64 v) := (blk_cell hbn3 0).trans rfl
      have q1 : w3.cell? ⟨w2.heap.size, 1, none⟩ = some (.int .i64 low) := (blk_cell hbn3 1).trans rfl
      have q2 : w3.cell? ⟨w2.heap.size, 2, none⟩ = some (.int .i64 high) := (blk_cell hbn3 2).trans rfl
      have hBlt3 : B < w3.heap.size := (Array.getElem?_eq_some_iff.1 hblk3).1
      have HBK3 := Lib.hid hblk3
      have HR3 := Lib.hid hR3
      have HB3 := Lib.hid hB3
      clear hblk3 hbn3 hR3 hB3 hb3 hbb d0 d2
      go_wp2_with fail
      have hsz3 : w0.heap.size ≤ w3.heap.size := HB3.out.size
      go_region_law ((refine Kd.R_append_step k97 (w0 := w0) (W := w3.drew) w0.heap.size (by rfl) (.tmp 62) (.tmp 64) 27 97 (.agg #[.int .i64 0, .int .i64 0, .int .i64 0]) 24 rfl Try.underlying27 info97 rfl (by decide) (by omega) (.slice A n2.length c) n2 ⟨v, low, high⟩ [.int .i64 v, .int .i64 low, .int .i64 high] (fun k => w0.heap.size ≤ k ∧ k ≠ B) (fun _ => False) rfl rfl ?aP (fun _ hk => hk.elim) ?aF ?aO ?aB ?aS ?aL ?_); (case aP => exact k97_mkM _ _ _ ⟨v, low, high⟩); (case aF => exact fun k hk => ⟨Nat.le_trans hsz3 hk, fun e => by have hk2 : w3.heap.size ≤ k := hk; omega⟩); (case aO => exact Kd.R_drew HR3.out); (case aB => exact below_drew HB3.out); (case aS => exact hsz3); (case aL => omega); intro v1 w4 hR4 hB4 hg4 hat4; clear hat4; have hblk4 := (hg4.block B hBlt3 (fun e => (HR3.out.1 B e.symm).2 rfl)).trans HBK3.out; have hBlt4 : B < w4.heap.size := (Array.getElem?_eq_some_iff.1 hblk4).1; have s2 : w4.cell? ⟨B, 2, none⟩ = some (.slice A n2.length c) := (blk_cell hblk4 2).trans rfl; have s3 := blk_frozen hblk4 2; obtain ⟨A4, c4, rfl⟩ := Kd.R_slice hR4; have HR4 := Lib.hid hR4; have HB4 := Lib.hid hB4; have HBK4 := Lib.hid hblk4; clear hR4 hB4 hblk4 hg4)
      all_goals
        go_wp2_with fail
        go_ret
        refine ⟨by rw [hres2.out, if_neg hlh, if_pos hix]; rfl, ?_⟩
        rw [hres.out, if_neg hlh, if_pos hix]
        have hR5 := HR4.out
        rw [show (n2 ++ [(⟨v, low, high⟩ : S97)]).length = n2.length + 1 by simp] at hR5
        exact pl_put HBK4.out hR5 HB4.out hBn
  · obtain ⟨ix, hxx⟩ : ∃ ix, Hid (nidx n2 ⟨v, low, high⟩ = ix) := ⟨_, Lib.hid rfl⟩
    have hrj : Hid ((if nidx n2 ⟨v, low, high⟩ < 0 then -1 else nidx n2 ⟨v, low, high⟩) = ix) := Lib.hid (by rw [if_neg hix]; exact hxx.out)
    rw [hxx.out] at hge hlt hix
    have hres3 : Hid (r = ix + 2) := Lib.hid (by rw [hres2.out, if_neg hlh, if_neg (by rw [hxx.out]; omega), hxx.out])
    have hix0 : 0 ≤ ix := by omega
    have hix1 : ix ≤ 1000 := by omega
    have hdx : decide (ix < 0) = false := decide_eq_false hix
    clear hge hlt
    go_wp2_with fail
    go_region_with (go_at_call 106; (with_reducible refine (index_ A c n2 ⟨v, low, high⟩ hbd ix hrj.out _ ?hC hlc).mono ?_); (case hC => repeat (first | exact HC.out | (with_reducible refine Kd.C_alloc ?_ _) | (with_reducible refine Kd.C_drewN ?_ _) | (with_reducible refine Kd.C_drew ?_))); rintro e w3 ⟨rfl, hb3⟩)
    all_goals
      have hbb : Below w2.heap.size w2 w3 := pchain (below_drew (below_alloc (Below.refl _ _) _)) hb3
      go_wp2_with fail
      go_ret
      refine ⟨by rw [hres3.out]; rfl, ?_⟩
      rw [hres.out, if_neg hlh, if_neg (by rw [hxx.out]; omega)]
      exact ⟨_, (hbb.block B hBlt).trans HBK.out, Kd.R_below HR.out hbb, HB.out.trans (hbb.mono HB.out.size), hBn⟩
theorem FV.later {w0 w1 : World} {g : Nat} {fs lb : Array Value} {p : Int → Bool} (h : FV w0 g fs lb p) (hb : Below w0.heap.size w0 w1) : FV w1 g fs lb p := fun W hW i => h W (pchain hb hW) i
theorem from_all (w0 : World) (B : Nat) (vars : Int) (g : Nat) (fs lb : Array Value) (eg : ∀ args w, (callFunc g args).run Try.prog w = .ok (.enter g args) w) (p : Int → Bool) (HF : Hid (FV w0 g fs lb p)) (h6 : vars ≤ 6) : ∀ m : Nat, FR w0 B vars (.func (.func g) fs lb) p m
  | 0 => fun v bits nodes w hp h1 h2 h3 h4 => by omega
  | m + 1 => fun v bits nodes w hp h1 h2 h3 h4 => by
    by_cases hv : v > vars
    · have := from_leaf w0 B vars g fs lb eg p HF v bits nodes w hp hv (p bits) (Lib.hid rfl)
      rw [bplan, if_pos hv]
      exact this
    · have hp2 : 2 ^ (m + 1) = 2 ^ m + 2 ^ m := by rw [Nat.pow_succ]; omega
      have hb := bplan vars p m (v + 1) bits nodes
      have := from_step w0 B vars (.func (.func g) fs lb) p m (Lib.hid (from_all w0 B vars g fs lb eg p HF h6 m)) v bits nodes w (Lib.hid hp) (by omega) h1 h6 (by omega) (by omega)
        (bplan vars p m (v + 1) bits nodes).1 (bplan vars p m (v + 1) (Go.bits .or .i64 bits (wrap64 (2 ^ (v.toNat - 1)))) (bplan vars p m (v + 1) bits nodes).1).1
        (bplan vars p m (v + 1) bits nodes).2 (bplan vars p m (v + 1) (Go.bits .or .i64 bits (wrap64 (2 ^ (v.toNat - 1)))) (bplan vars p m (v + 1) bits nodes).1).2
        (Lib.hid rfl) (Lib.hid rfl) (bplan vars p (m + 1) v bits nodes).1 (bplan vars p (m + 1) v bits nodes).2
        (Lib.hid (by rw [bplan, if_neg hv]; dsimp only; repeat' split
                     all_goals rfl))
        (Lib.hid (by rw [bplan, if_neg hv]; dsimp only; repeat' split
                     all_goals rfl))
      exact this
set_option maxHeartbeats 2000000 in
/-- planned: the reduced diagram of values. -/
theorem planned_ (vars : Int) (g : Nat) (fs lb : Array Value) (eg : ∀ args w, (callFunc g args).run Try.prog w = .ok (.enter g args) w) (p : Int → Bool) (w : World) (HF : Hid (FV w g fs lb p)) (h0 : 0 ≤ vars) (h6 : vars ≤ 6) (nr : List S97) (r : Int) (hr : Hid (bplan vars p 8 1 0 [] = (nr, r))) :
    Calls Try.prog 69 #[.int .i64 vars, .func (.func g) fs lb] w fun e w' => ∃ v1_ : Value, e = .returned (.agg #[.int .i64 r, v1_]) ∧ Kd.R k97 97 w' w.heap.size (fun k => w.heap.size ≤ k) v1_ nr ∧ Below w.heap.size w w' := by
  obtain ⟨w0, hw0⟩ : ∃ w0, Hid (w0 = w.alloc (.cells #[.int .i64 0, .slice none 0 0] 29)) := ⟨_, Lib.hid rfl⟩
  have hsz : w0.heap.size = w.heap.size + 1 := by rw [hw0.out]; simp
  have hb0 : Below w.heap.size w w0 := by rw [hw0.out]; exact below_alloc (Below.refl _ _) _
  have hrb : w0.heap[w.heap.size]? = some (.cells #[.int .i64 0, .slice none 0 0] 29 (0, 0)) := by rw [hw0.out]; exact heap_alloc_new w _
  have hpl : PL w0 (w.heap.size + 1) vars (.func (.func g) fs lb) ((w.alloc (.cells #[.int .i64 0, .slice none 0 0] 29)).alloc (.cells #[.int .i64 vars, .func (.func g) fs lb, .slice none 0 0] 110)) [] := by
    rw [← hw0.out]
    exact ⟨_, by have := heap_alloc_new w0 (.cells #[.int .i64 vars, .func (.func g) fs lb, .slice none 0 0] 110); rw [hsz] at this; exact this, Kd.R_nil k97 _ _ _ _, below_alloc (Below.refl _ _) _, by omega⟩
  have HP := Lib.hid hpl
  have HSZ := Lib.hid hsz
  have HB0 := Lib.hid hb0
  have HRB := Lib.hid hrb
  clear hpl hsz hb0 hrb
  have HI := Lib.hid (from_all w0 (w.heap.size + 1) vars g fs lb eg p (Lib.hid (FV.later HF.out HB0.out)) h6 8)
  go_enter Try.func69, Try.ntmps69
  go_wp2_with fail
  (with_reducible refine (FR.use HI HP (by omega) (by omega) (by omega) (by decide) hr).mono ?_)
  rintro e w1 ⟨rfl, hp1⟩
  obtain ⟨sv, hblk, hR, hB, hBn⟩ := hp1
  have c2 : w1.cell? ⟨w.heap.size + 1, 2, none⟩ = some sv := (blk_cell hblk 2).trans rfl
  have hrb1 := (hB.block w.heap.size (by rw [HSZ.out]; omega)).trans HRB.out
  have r0 : w1.cell? ⟨w.heap.size, 0, none⟩ = some (.int .i64 0) := (blk_cell hrb1 0).trans rfl
  have r1 : w1.cell? ⟨w.heap.size, 1, none⟩ = some (.slice none 0 0) := (blk_cell hrb1 1).trans rfl
  have f0 := blk_frozen hrb1 0
  have f1 := blk_frozen hrb1 1
  have HR := Lib.hid hR
  have HB := Lib.hid hB
  obtain ⟨A, c, rfl⟩ := Kd.R_slice hR
  have HRB1 := Lib.hid hrb1
  clear hblk hR hB hrb1
  go_wp2_with fail
  have hs1 := blk_set HRB1.out 0 (.int .i64 r)
  have hs2 := blk_set hs1 1 (.slice A nr.length c)
  have e0 : (w1.setCell ⟨w.heap.size, 0, none⟩ (.int .i64 r)).cell? ⟨w.heap.size, 0, none⟩ = some (.int .i64 r) := (blk_cell hs1 0).trans rfl
  have e1 : ((w1.setCell ⟨w.heap.size, 0, none⟩ (.int .i64 r)).setCell ⟨w.heap.size, 1, none⟩ (.slice A nr.length c)).cell? ⟨w.heap.size, 1, none⟩ = some (.slice A nr.length c) := (blk_cell hs2 1).trans rfl
  refine bodyPost_ret (v := .agg #[.int .i64 r, .slice A nr.length c]) (by simp [results, Try.results69, go_sem, e0, e1]) rfl ⟨_, rfl, ?_, ?_⟩
  · have hsz := HSZ.out
    have h1 := Kd.R_mono (ok' := fun k => w.heap.size < k) HR.out (fun k hk => by have := hk.1; omega)
    exact Kd.R_mono (Kd.R_lower (Kd.R_far (p := ⟨w.heap.size, 1, none⟩) (Kd.R_far (p := ⟨w.heap.size, 0, none⟩) h1 (fun k (hk : w.heap.size < k) => (by show k ≠ w.heap.size; omega)) _) (fun k (hk : w.heap.size < k) => (by show k ≠ w.heap.size; omega)) _) (by omega)) (fun k (hk : w.heap.size < k) => by omega)
  · exact below_set (below_set (HB0.out.trans (HB.out.mono HB0.out.size)) (Nat.le_refl _)) (Nat.le_refl _)
end Go.Proofs.Ytggjpogcimdepaa.Man
namespace Go.Proofs.Ytggjpogcimdepaa.DiagA
open Go.RowKit Go.Proofs.YtggjpogcimdepaaW.PrintWords Go.Proofs.Ytggjpogcimdepaa.XEv Go.Proofs.Ytggjpogcimdepaa.Print
set_option linter.unusedVariables false
set_option linter.unusedSimpArgs false

instance : DecidableEq S97 := fun x y =>
  if h : x.f0 = y.f0 ∧ x.f1 = y.f1 ∧ x.f2 = y.f2 then .isTrue (by cases x; cases y; simp_all) else .isFalse (fun e => h (by subst e; simp))
def conv (x : S99) : S97 := ⟨x.f0, x.f1, x.f2⟩

/-! ### copies -/
theorem toS_l (l : List S99) (hl : l.length ≤ 1048576) : ∀ (d : Nat) (xs : List S97) (i : Int), 0 ≤ i → i + d = l.length → xs.length = l.length →
    (∀ j : Nat, (j : Int) < i → xs[j]? = (l.map conv)[j]?) → Ev (fun k => laws_toBddNodeS.l0 k l xs i) (l.map conv) := by
  intro d
  induction d with
  | zero =>
    intro xs i h0 hd hx hp
    refine estep (fun k => laws_toBddNodeS.l0.eq_2 (k := k) ..) ?_
    refine eneg (by omega) (eok ?_)
    apply List.ext_getElem?
    intro j
    by_cases hj : (j : Int) < i
    · exact hp j hj
    · rw [List.getElem?_eq_none (by omega), List.getElem?_eq_none (by rw [List.length_map]; omega)]
  | succ d ih =>
    intro xs i h0 hd hx hp
    obtain ⟨n, rfl⟩ := Int.eq_ofNat_of_zero_le h0
    refine estep (fun k => laws_toBddNodeS.l0.eq_2 (k := k) ..) ?_
    refine epos (by omega) (epos (by omega) ?_)
    refine ebind1 (a := ((rd_T99 l n).f0, (rd_T99 l n).f1, (rd_T99 l n).f2)) rfl (epos (by omega) ?_)
    rw [wrap_in (by omega) (by omega)]
    refine ih _ _ (by omega) (by omega) (by simpa using hx) (fun j hj => ?_)
    have hn : n < l.length := by omega
    by_cases hjn : j = n
    · subst hjn
      simp [hn, hx, rd_T99, conv]
    · rw [← hp j (by omega)]
      simp only [Int.toNat_natCast]
      rw [List.getElem?_set_ne (by omega)]
theorem toD (a : Int) (l : List S99) (hl : l.length ≤ 1048576) : Ev (fun k => laws_toDiagram.f k a l) (a, l.map conv) := by
  unfold laws_toDiagram.f laws_toBddNodeS.f
  refine ebind (a := l.map conv) ?_ (eok rfl)
  refine epos (by omega) (epos (by omega) ?_)
  exact toS_l l hl l.length _ 0 (by omega) (by omega) (by simp) (fun j hj => by omega)

/-! ### the same -/
theorem eqN (x y : S97) : laws_eqBddNode.f x.f0 x.f1 x.f2 y.f0 y.f1 y.f2 = some (decide (x = y)) := by
  unfold laws_eqBddNode.f
  obtain ⟨x0, x1, x2⟩ := x
  obtain ⟨y0, y1, y2⟩ := y
  by_cases h0 : x0 = y0 <;> by_cases h1 : x1 = y1 <;> by_cases h2 : x2 = y2 <;> simp [h0, h1, h2]
theorem eqS_l (l m : List S97) (hl : l.length ≤ 1048576) (hm : l.length = m.length) : ∀ (d : Nat) (i : Int), 0 ≤ i → i + d = l.length →
    Ev (fun k => laws_eqBddNodeS.l0 k l m i) (decide (l.drop i.toNat = m.drop i.toNat)) := by
  intro d
  induction d with
  | zero =>
    intro i h0 hd
    refine estep (fun k => laws_eqBddNodeS.l0.eq_2 (k := k) ..) ?_
    refine eneg (by omega) (eok ?_)
    rw [List.drop_of_length_le (by omega), List.drop_of_length_le (by omega)]
    rfl
  | succ d ih =>
    intro i h0 hd
    obtain ⟨n, rfl⟩ := Int.eq_ofNat_of_zero_le h0
    have hn : n < l.length := by omega
    have hn2 : n < m.length := by omega
    refine estep (fun k => laws_eqBddNodeS.l0.eq_2 (k := k) ..) ?_
    refine epos (by omega) (epos (by omega) (epos (by omega) ?_))
    refine ebind1 (eqN _ _) ?_
    have e1 : rd_T97 l n = l[n] := by simp [rd_T97, rd_T97, hn]
    have e2 : rd_T97 m n = m[n] := by simp [rd_T97, rd_T97, hn2]
    have hdl : l.drop n = l[n] :: l.drop (n + 1) := List.drop_eq_getElem_cons hn
    have hdm : m.drop n = m[n] :: m.drop (n + 1) := List.drop_eq_getElem_cons hn2
    refine eite (fun h => ?_) (fun h => eok ?_)
    · have h' : l[n] = m[n] := by rw [← e1, ← e2]; simpa using h
      rw [wrap_in (by omega) (by omega)]
      refine ecast (ih (n + 1) (by omega) (by omega)) ?_
      rw [Int.toNat_natCast, hdl, hdm, h', show ((n : Int) + 1).toNat = n + 1 from by omega]
      simp only [List.cons.injEq, true_and]
    · have h' : ¬ l[n] = m[n] := by rw [← e1, ← e2]; simpa using h
      rw [Int.toNat_natCast, hdl, hdm]
      simp only [List.cons.injEq, h', false_and, decide_false]
theorem eqD (a : Int) (l : List S97) (b : Int) (m : List S97) (hl : l.length ≤ 1048576) : Ev (fun k => laws_eqDiagram.f k a l b m) (decide (a = b ∧ l = m)) := by
  unfold laws_eqDiagram.f laws_eqBddNodeS.f
  refine eite (fun h => ?_) (fun h => eok (by simp [h]))
  subst h
  by_cases hlm : l.length = m.length
  · refine ebind (epos (by omega) (eqS_l l m hl hlm l.length 0 (by omega) (by omega))) ?_
    refine eite (fun h => eok ?_) (fun h => eok ?_) <;> simpa using h
  · refine ebind (eneg (by omega) (eok rfl)) (eneg (by simp) (eok ?_))
    have : l ≠ m := fun h => hlm (by rw [h])
    simp [this]
end Go.Proofs.Ytggjpogcimdepaa.DiagA
namespace Go.Proofs.Ytggjpogcimdepaa.DiagA
open Go.RowKit Go.Proofs.YtggjpogcimdepaaW.PrintWords Go.Proofs.Ytggjpogcimdepaa.XEv Go.Proofs.Ytggjpogcimdepaa.Print
set_option linter.unusedVariables false
set_option linter.unusedSimpArgs false

/-- The node with an index is valid. -/
def okN (vars : Int) (ns : List S97) (i : Int) : Prop :=
  1 ≤ (rd_T97 ns i).f0 ∧ (rd_T97 ns i).f0 ≤ vars ∧ 0 ≤ (rd_T97 ns i).f1 ∧ (rd_T97 ns i).f1 ≤ i + 1 ∧ 0 ≤ (rd_T97 ns i).f2 ∧ (rd_T97 ns i).f2 ≤ i + 1 ∧
  ((rd_T97 ns i).f1 > 1 → (rd_T97 ns i).f0 < (rd_T97 ns ((rd_T97 ns i).f1 - 2)).f0) ∧ ((rd_T97 ns i).f2 > 1 → (rd_T97 ns i).f0 < (rd_T97 ns ((rd_T97 ns i).f2 - 2)).f0)
/-- What a Diagram is. -/
def Good (vars root : Int) (ns : List S97) : Prop := 0 ≤ vars ∧ vars ≤ 6 ∧ ns.length ≤ 63 ∧ 0 ≤ root ∧ root ≤ ns.length + 1 ∧ ∀ j : Int, 0 ≤ j → j < ns.length → okN vars ns j

theorem l1In (a b c : Int) : spec_l1In.f a b c = some (decide (b ≤ a ∧ a ≤ c)) := by
  unfold spec_l1In.f
  by_cases h : a ≥ b <;> simp [h] <;> omega
theorem within (a b c : Int) : impl_within.f a b c = some (decide (b ≤ a ∧ a ≤ c)) := by
  unfold impl_within.f
  by_cases h : a ≥ b <;> simp [h] <;> omega
theorem all_step {p : Int → Prop} {i n : Int} (hi : i < n) : (∀ j, i ≤ j → j < n → p j) ↔ p i ∧ ∀ j, i + 1 ≤ j → j < n → p j := by
  constructor
  · intro h
    exact ⟨h i (Int.le_refl _) hi, fun j h1 h2 => h j (by omega) h2⟩
  · rintro ⟨h0, h⟩ j h1 h2
    by_cases e : j = i
    · subst e; exact h0
    · exact h j (by omega) h2

theorem specGood_l (vars root : Int) (ns : List S97) (hn : ns.length ≤ 63) : ∀ (d : Nat) (i : Int), 0 ≤ i → i + d = ns.length →
    ∃ r, Ev (fun k => spec_l26Good.l0 k vars i root ns) r ∧ (r = true ↔ ∀ j, i ≤ j → j < ns.length → okN vars ns j) := by
  intro d
  induction d with
  | zero =>
    intro i h0 hd
    refine ⟨true, estep (fun k => spec_l26Good.l0.eq_2 (k := k) ..) (eneg (by omega) (eok rfl)), ?_⟩
    simp only [true_iff]
    intro j h1 h2
    omega
  | succ d ih =>
    intro i h0 hd
    obtain ⟨r, hr, hiff⟩ := ih (i + 1) (by omega) (by omega)
    have hi : i < ns.length := by omega
    rw [all_step hi]
    have w1 : wrap64 (i + 1) = i + 1 := wrap_in (by omega) (by omega)
    have hno : ∀ b x0 x1 x2, b = true → Ev (fun k => spec_l26Good.j2 k vars i b root ns x0 x1 x2) false := by
      rintro b x0 x1 x2 rfl
      exact estep (fun k => spec_l26Good.j2.eq_2 (k := k) ..) (epos rfl (eok rfl))
    have hfirst : ∀ b, ¬ okN vars ns i → ∃ r', Ev (fun k => spec_l26Good.j2 k vars i true root ns b b b) r' ∧ (r' = true ↔ okN vars ns i ∧ ∀ j, i + 1 ≤ j → j < ns.length → okN vars ns j) :=
      fun b hb => ⟨false, hno _ _ _ _ rfl, by simp [hb]⟩
    by_cases c0 : 1 ≤ (rd_T97 ns i).f0 ∧ (rd_T97 ns i).f0 ≤ vars
    case neg =>
      refine ⟨false, estep (fun k => spec_l26Good.l0.eq_2 (k := k) ..) (epos hi (epos h0 (ebind1 (l1In _ _ _) (eneg (df c0) (hno _ _ _ _ rfl))))), ?_⟩
      have : ¬ okN vars ns i := fun h => c0 ⟨h.1, h.2.1⟩
      simp [this]
    by_cases c1 : 0 ≤ (rd_T97 ns i).f1 ∧ (rd_T97 ns i).f1 ≤ i + 1
    case neg =>
      refine ⟨false, estep (fun k => spec_l26Good.l0.eq_2 (k := k) ..) (epos hi (epos h0 (ebind1 (l1In _ _ _) (epos (dt c0) (ebind1 (l1In _ _ _) (eneg (by rw [w1]; exact df c1) (hno _ _ _ _ rfl))))))), ?_⟩
      have : ¬ okN vars ns i := fun h => c1 ⟨h.2.2.1, h.2.2.2.1⟩
      simp [this]
    by_cases c2 : 0 ≤ (rd_T97 ns i).f2 ∧ (rd_T97 ns i).f2 ≤ i + 1
    case neg =>
      refine ⟨false, estep (fun k => spec_l26Good.l0.eq_2 (k := k) ..) (epos hi (epos h0 (ebind1 (l1In _ _ _) (epos (dt c0) (ebind1 (l1In _ _ _) (epos (by rw [w1]; exact dt c1) (ebind1 (l1In _ _ _) (hno _ _ _ _ (by rw [w1]; exact ndt c2))))))))), ?_⟩
      have : ¬ okN vars ns i := fun h => c2 ⟨h.2.2.2.2.1, h.2.2.2.2.2.1⟩
      simp [this]
    have hj : ∀ r', (Ev (fun k => spec_l26Good.j2 k vars i false root ns (rd_T97 ns i).f0 (rd_T97 ns i).f1 (rd_T97 ns i).f2) r') →
        Ev (fun k => spec_l26Good.l0 k vars i root ns) r' := fun r' h =>
      estep (fun k => spec_l26Good.l0.eq_2 (k := k) ..) (epos hi (epos h0 (ebind1 (l1In _ _ _) (epos (dt c0) (ebind1 (l1In _ _ _) (epos (by rw [w1]; exact dt c1) (ebind1 (l1In _ _ _) (by
        have e : (!decide (0 ≤ (rd_T97 ns i).f2 ∧ (rd_T97 ns i).f2 ≤ wrap64 (i + 1))) = false := by rw [w1]; exact ndf c2
        rw [e]; exact h))))))))
    have hw1 : (rd_T97 ns i).f1 > 1 → wrap64 ((rd_T97 ns i).f1 - 2) = (rd_T97 ns i).f1 - 2 := fun _ => wrap_in (by omega) (by omega)
    have hw2 : (rd_T97 ns i).f2 > 1 → wrap64 ((rd_T97 ns i).f2 - 2) = (rd_T97 ns i).f2 - 2 := fun _ => wrap_in (by omega) (by omega)
    by_cases c3 : (rd_T97 ns i).f1 > 1 → (rd_T97 ns i).f0 < (rd_T97 ns ((rd_T97 ns i).f1 - 2)).f0
    case neg =>
      have c3' := Classical.not_imp.1 c3
      refine ⟨false, hj _ (estep (fun k => spec_l26Good.j2.eq_2 (k := k) ..) (eneg (by simp) (epos c3'.1 (epos (by rw [hw1 c3'.1]; omega) (epos (by rw [hw1 c3'.1]; omega) (epos (by rw [hw1 c3'.1]; exact Int.not_lt.1 c3'.2) (eok rfl))))))), ?_⟩
      have : ¬ okN vars ns i := fun h => c3 h.2.2.2.2.2.2.1
      simp [this]
    by_cases c4 : (rd_T97 ns i).f2 > 1 → (rd_T97 ns i).f0 < (rd_T97 ns ((rd_T97 ns i).f2 - 2)).f0
    case neg =>
      have c4' := Classical.not_imp.1 c4
      have hs2 : Ev (fun k => if (rd_T97 ns i).f2 > 1 then (if 0 ≤ (wrap64 ((rd_T97 ns i).f2 - 2)) then (if (wrap64 ((rd_T97 ns i).f2 - 2)) < (ns.length : Int) then (if ((rd_T97 ns (wrap64 ((rd_T97 ns i).f2 - 2))).f0) ≤ (rd_T97 ns i).f0 then (some false) else (spec_l26Good.l0 k vars (wrap64 (i + 1)) root ns)) else (none)) else (none)) else (spec_l26Good.l0 k vars (wrap64 (i + 1)) root ns)) false :=
        epos c4'.1 (epos (by rw [hw2 c4'.1]; omega) (epos (by rw [hw2 c4'.1]; omega) (epos (by rw [hw2 c4'.1]; exact Int.not_lt.1 c4'.2) (eok rfl))))
      refine ⟨false, hj _ (estep (fun k => spec_l26Good.j2.eq_2 (k := k) ..) (eneg (by simp) (eite (fun g1 => epos (by rw [hw1 g1]; omega) (epos (by rw [hw1 g1]; omega) (eneg (by rw [hw1 g1]; have := c3 g1; omega) hs2))) (fun _ => hs2)))), ?_⟩
      have : ¬ okN vars ns i := fun h => c4 h.2.2.2.2.2.2.2
      simp [this]
    have hok : okN vars ns i := ⟨c0.1, c0.2, c1.1, c1.2, c2.1, c2.2, c3, c4⟩
    refine ⟨r, hj _ (estep (fun k => spec_l26Good.j2.eq_2 (k := k) ..) (eneg (by simp) ?_)), by simp only [hok, true_and]; exact hiff⟩
    have hnext : Ev (fun k => spec_l26Good.l0 k vars (wrap64 (i + 1)) root ns) r := by rw [w1]; exact hr
    have hsnd : Ev (fun k => if (rd_T97 ns i).f2 > 1 then (if 0 ≤ (wrap64 ((rd_T97 ns i).f2 - 2)) then (if (wrap64 ((rd_T97 ns i).f2 - 2)) < (ns.length : Int) then (if ((rd_T97 ns (wrap64 ((rd_T97 ns i).f2 - 2))).f0) ≤ (rd_T97 ns i).f0 then (some false) else (spec_l26Good.l0 k vars (wrap64 (i + 1)) root ns)) else (none)) else (none)) else (spec_l26Good.l0 k vars (wrap64 (i + 1)) root ns)) r :=
      eite (fun g2 => epos (by rw [hw2 g2]; omega) (epos (by rw [hw2 g2]; omega) (eneg (by rw [hw2 g2]; have := c4 g2; omega) hnext))) (fun _ => hnext)
    exact eite (fun g1 => epos (by rw [hw1 g1]; omega) (epos (by rw [hw1 g1]; omega) (eneg (by rw [hw1 g1]; have := c3 g1; omega) hsnd))) (fun _ => hsnd)

theorem specGood (vars root : Int) (ns : List S97) (hl : ns.length ≤ 1048576) : ∃ r, Ev (fun k => spec_l26Good.f k vars root ns) r ∧ (r = true ↔ Good vars root ns) := by
  have hv : spec_l26Vars.f vars = some (decide (0 ≤ vars ∧ vars ≤ 6)) := by
    unfold spec_l26Vars.f
    rw [l1In]
    rfl
  have hno : Ev (fun k => spec_l26Good.j0 k vars true root ns) false := estep (fun k => spec_l26Good.j0.eq_2 (k := k) ..) (epos rfl (eok rfl))
  unfold spec_l26Good.f
  by_cases c0 : 0 ≤ vars ∧ vars ≤ 6
  case neg =>
    refine ⟨false, ebind1 hv (eneg (df c0) hno), ?_⟩
    have : ¬ Good vars root ns := fun h => c0 ⟨h.1, h.2.1⟩
    simp [this]
  by_cases c1 : ns.length ≤ 63
  case neg =>
    refine ⟨false, ebind1 hv (epos (dt c0) (epos (by omega) hno)), ?_⟩
    have : ¬ Good vars root ns := fun h => c1 h.2.2.1
    simp [this]
  have w : wrap64 ((ns.length : Int) + 1) = ns.length + 1 := wrap_in (by omega) (by omega)
  by_cases c2 : 0 ≤ root ∧ root ≤ ns.length + 1
  case neg =>
    refine ⟨false, ebind1 hv (epos (dt c0) (eneg (by omega) (ebind1 (l1In _ _ _) (by
      have e : (!decide (0 ≤ root ∧ root ≤ wrap64 ((ns.length : Int) + 1))) = true := by rw [w]; exact ndt c2
      rw [e]; exact hno)))), ?_⟩
    have : ¬ Good vars root ns := fun h => c2 ⟨h.2.2.2.1, h.2.2.2.2.1⟩
    simp [this]
  obtain ⟨r, hr, hiff⟩ := specGood_l vars root ns c1 ns.length 0 (by omega) (by omega)
  refine ⟨r, ebind1 hv (epos (dt c0) (eneg (by omega) (ebind1 (l1In _ _ _) (by
      have e : (!decide (0 ≤ root ∧ root ≤ wrap64 ((ns.length : Int) + 1))) = false := by rw [w]; exact ndf c2
      rw [e]; exact estep (fun k => spec_l26Good.j0.eq_2 (k := k) ..) (eneg (by simp) hr))))), ?_⟩
  rw [hiff]
  exact ⟨fun h => ⟨c0.1, c0.2, c1, c2.1, c2.2, h⟩, fun h => h.2.2.2.2.2⟩

/-! ### the program's own -/
theorem bddOk (vars root : Int) (ns : List S97) (i : Int) (hn : ns.length ≤ 63) (h0 : 0 ≤ i) (hi : i < ns.length) : ∃ r, Ev (fun k => impl_bddOk.f k vars root ns i) r ∧ (r = true ↔ okN vars ns i) := by
  unfold impl_bddOk.f
  have w1 : wrap64 (i + 1) = i + 1 := wrap_in (by omega) (by omega)
  have hend : ∀ (y : List Int), y.length = 2 → ∀ n, (n : Int) = 2 → Ev (fun k => impl_bddOk.l0 k vars i y (y.length : Int) n root ns (rd_T97 ns i).f0 (rd_T97 ns i).f1 (rd_T97 ns i).f2) (decide (1 ≤ (rd_T97 ns i).f0 ∧ (rd_T97 ns i).f0 ≤ vars)) := by
    intro y hy n hn2
    refine estep (fun k => impl_bddOk.l0.eq_2 (k := k) ..) (eneg (by omega) (ebind1 (a := decide (1 ≤ (rd_T97 ns i).f0 ∧ (rd_T97 ns i).f0 ≤ vars)) ?_ (eok rfl)))
    unfold impl_isVar.f
    rw [within]
    rfl
  -- one round
  have hround : ∀ (y : List Int) (n : Int) (x : Int), y.length = 2 → 0 ≤ n → n < 2 → rd y n = x → ∀ rn, Ev (fun k => impl_bddOk.l0 k vars i y (y.length : Int) (n + 1) root ns (rd_T97 ns i).f0 (rd_T97 ns i).f1 (rd_T97 ns i).f2) rn →
      ∃ r, Ev (fun k => impl_bddOk.l0 k vars i y (y.length : Int) n root ns (rd_T97 ns i).f0 (rd_T97 ns i).f1 (rd_T97 ns i).f2) r ∧ (r = true ↔ (0 ≤ x ∧ x ≤ i + 1 ∧ (x > 1 → (rd_T97 ns i).f0 < (rd_T97 ns (x - 2)).f0)) ∧ rn = true) := by
    rintro y n x hy h0n h2n rfl rn hrn
    have wn : wrap64 (n + 1) = n + 1 := wrap_in (by omega) (by omega)
    by_cases c1 : 0 ≤ rd y n ∧ rd y n ≤ i + 1
    case neg =>
      refine ⟨false, estep (fun k => impl_bddOk.l0.eq_2 (k := k) ..) (epos (by omega) (epos h0n (epos (by omega) (ebind1 (within _ _ _) (eneg (by rw [w1]; exact df c1) (eok rfl)))))), ?_⟩
      simp only [Bool.false_eq_true, false_iff]
      rintro ⟨⟨ha, hb, _⟩, _⟩
      exact c1 ⟨ha, hb⟩
    by_cases c2 : rd y n > 1
    case neg =>
      refine ⟨rn, estep (fun k => impl_bddOk.l0.eq_2 (k := k) ..) (epos (by omega) (epos h0n (epos (by omega) (ebind1 (within _ _ _) (epos (by rw [w1]; exact dt c1) (eneg (by omega) (by rw [wn]; exact hrn))))))), ?_⟩
      exact ⟨fun h => ⟨⟨c1.1, c1.2, fun h => absurd h c2⟩, h⟩, fun h => h.2⟩
    have w2 : wrap64 (rd y n - 2) = rd y n - 2 := wrap_in (by omega) (by omega)
    by_cases c3 : (rd_T97 ns i).f0 < (rd_T97 ns (rd y n - 2)).f0
    · refine ⟨rn, estep (fun k => impl_bddOk.l0.eq_2 (k := k) ..) (epos (by omega) (epos h0n (epos (by omega) (ebind1 (within _ _ _) (epos (by rw [w1]; exact dt c1) (epos (by omega) (epos (by rw [w2]; omega) (epos (by rw [w2]; omega) (eneg (by rw [w2]; omega) (by rw [wn]; exact hrn)))))))))), ?_⟩
      exact ⟨fun h => ⟨⟨c1.1, c1.2, fun _ => c3⟩, h⟩, fun h => h.2⟩
    · refine ⟨false, estep (fun k => impl_bddOk.l0.eq_2 (k := k) ..) (epos (by omega) (epos h0n (epos (by omega) (ebind1 (within _ _ _) (epos (by rw [w1]; exact dt c1) (epos (by omega) (epos (by rw [w2]; omega) (epos (by rw [w2]; omega) (epos (by rw [w2]; exact Int.not_lt.1 c3) (eok rfl)))))))))), ?_⟩
      simp only [Bool.false_eq_true, false_iff]
      rintro ⟨⟨_, _, h⟩, _⟩
      exact c3 (h c2)
  obtain ⟨r1, hr1, e1⟩ := hround [(rd_T97 ns i).f1, (rd_T97 ns i).f2] 1 _ rfl (by omega) (by omega) rfl _ (hend [(rd_T97 ns i).f1, (rd_T97 ns i).f2] rfl _ rfl)
  obtain ⟨r0, hr0, e0⟩ := hround [(rd_T97 ns i).f1, (rd_T97 ns i).f2] 0 _ rfl (by omega) (by omega) rfl r1 hr1
  refine ⟨r0, epos h0 (epos hi (ebind1 rfl hr0)), ?_⟩
  rw [e0, e1]
  have f1 : rd [(rd_T97 ns i).f1, (rd_T97 ns i).f2] 0 = (rd_T97 ns i).f1 := rfl
  have f2 : rd [(rd_T97 ns i).f1, (rd_T97 ns i).f2] 1 = (rd_T97 ns i).f2 := rfl
  rw [f1, f2]
  unfold okN
  simp only [decide_eq_true_eq]
  constructor
  · rintro ⟨⟨a1, a2, a3⟩, ⟨b1, b2, b3⟩, c1, c2⟩
    exact ⟨c1, c2, a1, a2, b1, b2, a3, b3⟩
  · rintro ⟨c1, c2, a1, a2, b1, b2, a3, b3⟩
    exact ⟨⟨a1, a2, a3⟩, ⟨b1, b2, b3⟩, c1, c2⟩

theorem implGood_l (vars root : Int) (ns : List S97) (hn : ns.length ≤ 63) : ∀ (d : Nat) (i : Int), 0 ≤ i → i + d = ns.length →
    ∃ r, Ev (fun k => impl_IsDiagram.l0 k vars (ns.length : Int) i root ns) r ∧ (r = true ↔ ∀ j, i ≤ j → j < ns.length → okN vars ns j) := by
  intro d
  induction d with
  | zero =>
    intro i h0 hd
    refine ⟨true, estep (fun k => impl_IsDiagram.l0.eq_2 (k := k) ..) (eneg (by omega) (eok rfl)), ?_⟩
    simp only [true_iff]
    intro j h1 h2
    omega
  | succ d ih =>
    intro i h0 hd
    obtain ⟨r, hr, hiff⟩ := ih (i + 1) (by omega) (by omega)
    have hi : i < ns.length := by omega
    rw [all_step hi]
    have w1 : wrap64 (i + 1) = i + 1 := wrap_in (by omega) (by omega)
    obtain ⟨b, hb, eb⟩ := bddOk vars root ns i hn h0 hi
    cases b with
    | true =>
      refine ⟨r, estep (fun k => impl_IsDiagram.l0.eq_2 (k := k) ..) (epos hi (ebind hb (epos rfl (by rw [w1]; exact hr)))), ?_⟩
      rw [hiff]
      simp only [eb.1 rfl, true_and]
    | false =>
      refine ⟨false, estep (fun k => impl_IsDiagram.l0.eq_2 (k := k) ..) (epos hi (ebind hb (eneg (by simp) (eok rfl)))), ?_⟩
      have : ¬ okN vars ns i := fun h => by have := eb.2 h; simp at this
      simp [this]
theorem implGood (vars root : Int) (ns : List S97) (hl : ns.length ≤ 1048576) : ∃ r, Ev (fun k => impl_IsDiagram.f k vars root ns) r ∧ (r = true ↔ Good vars root ns) := by
  have hno : Ev (fun k => impl_IsDiagram.j0 k vars true root ns) false := estep (fun k => impl_IsDiagram.j0.eq_2 (k := k) ..) (epos rfl (eok rfl))
  unfold impl_IsDiagram.f
  by_cases c0 : 0 ≤ vars ∧ vars ≤ 6
  case neg =>
    refine ⟨false, ebind1 (within _ _ _) (eneg (df c0) hno), ?_⟩
    have : ¬ Good vars root ns := fun h => c0 ⟨h.1, h.2.1⟩
    simp [this]
  by_cases c1 : ns.length ≤ 63
  case neg =>
    refine ⟨false, ebind1 (within _ _ _) (epos (dt c0) (epos (by omega) hno)), ?_⟩
    have : ¬ Good vars root ns := fun h => c1 h.2.2.1
    simp [this]
  have w : wrap64 ((ns.length : Int) + 1) = ns.length + 1 := wrap_in (by omega) (by omega)
  by_cases c2 : 0 ≤ root ∧ root ≤ ns.length + 1
  case neg =>
    refine ⟨false, ebind1 (within _ _ _) (epos (dt c0) (eneg (by omega) (ebind1 (within _ _ _) (by
      have e : (!decide (0 ≤ root ∧ root ≤ wrap64 ((ns.length : Int) + 1))) = true := by rw [w]; exact ndt c2
      rw [e]; exact hno)))), ?_⟩
    have : ¬ Good vars root ns := fun h => c2 ⟨h.2.2.2.1, h.2.2.2.2.1⟩
    simp [this]
  obtain ⟨r, hr, hiff⟩ := implGood_l vars root ns c1 ns.length 0 (by omega) (by omega)
  refine ⟨r, ebind1 (within _ _ _) (epos (dt c0) (eneg (by omega) (ebind1 (within _ _ _) (by
      have e : (!decide (0 ≤ root ∧ root ≤ wrap64 ((ns.length : Int) + 1))) = false := by rw [w]; exact ndf c2
      rw [e]; exact estep (fun k => impl_IsDiagram.j0.eq_2 (k := k) ..) (eneg (by simp) hr))))), ?_⟩
  rw [hiff]
  exact ⟨fun h => ⟨c0.1, c0.2, c1, c2.1, c2.2, h⟩, fun h => h.2.2.2.2.2⟩

/-- Both say alike. -/
theorem good_both (vars root : Int) (ns : List S97) (hl : ns.length ≤ 1048576) : ∃ r, Ev (fun k => spec_l26Good.f k vars root ns) r ∧ Ev (fun k => impl_IsDiagram.f k vars root ns) r ∧ (r = true ↔ Good vars root ns) := by
  obtain ⟨r, h1, e1⟩ := specGood vars root ns hl
  obtain ⟨s, h2, e2⟩ := implGood vars root ns hl
  have : s = r := by
    cases r <;> cases s <;> simp_all
  subst this
  exact ⟨_, h1, h2, e1⟩

/-- The law's guard: Diagrams that are not too long. -/
theorem sz (a : Int) (l : List S99) (n : Int) (hl : l.length ≤ maxLen) (hn : 0 ≤ n ∧ n ≤ 1048576) : laws_szDiagram.f a l n = some (if (l.length : Int) ≤ n then n - l.length else -1) := by
  have hm : maxLen = 9223372036854775807 := rfl
  have w : wrap64 (n - (l.length : Int)) = n - l.length := wrap_in (by omega) (by omega)
  unfold laws_szDiagram.f laws_szBddNodeS.f
  rw [w]
  by_cases h : (l.length : Int) ≤ n
  · rw [if_neg (by omega), Option.bind_some, if_neg (by omega), if_pos h]
  · rw [if_pos (by omega), Option.bind_some, if_pos (by omega), if_neg h]
end Go.Proofs.Ytggjpogcimdepaa.DiagA
namespace Go.Proofs.Ytggjpogcimdepaa.Print
open Go.RowKit Go.Proofs.YtggjpogcimdepaaW.PrintWords Go.Proofs.YtggjpogcimdepaaW.PrintLast Go.Proofs.YtggjpogcimdepaaW.PrintMore
attribute [local go_sem] max2_int min2_int max_two min_two max_three min_three max_four min_four   -- for this text's walks alone
set_option linter.unusedVariables false
set_option linter.unusedSimpArgs false

/-! ### impl_Diagram_value: function 90 -/
def impl_Diagram_value.l0 : Nat → Int → Int → Int → List (S97) → Option (Bool)
  | 0, _, _, _, _ => none
  | k + 1, x1, x2, x102000, x102001 => if x1 ≥ 2 then (if 0 ≤ (wrap64 (x1 - 2)) then (if (wrap64 (x1 - 2)) < (x102001.length : Int) then (if 0 ≤ (wrap64 (((rd_T97 x102001 (wrap64 (x1 - 2))).f0) - 1)) then (if (Go.bits .and .i64 (shr .i64 x2 (wrap64 (((rd_T97 x102001 (wrap64 (x1 - 2))).f0) - 1))) 1) = 1 then (impl_Diagram_value.l0 k ((rd_T97 x102001 (wrap64 (x1 - 2))).f2) x2 x102000 x102001) else (impl_Diagram_value.l0 k ((rd_T97 x102001 (wrap64 (x1 - 2))).f1) x2 x102000 x102001)) else (none)) else (none)) else (none)) else (some (x1 == 1))
def impl_Diagram_value.f (k : Nat) (a0_0 : Int) (l0_1 : List (S97)) (a1 : Int) (a2 : Int) : Option (Bool) := impl_Diagram_value.l0 k a1 a2 a0_0 l0_1
theorem impl_Diagram_value.mono_l : ∀ k, (∀ y0 y1 y2 y3, LeO (impl_Diagram_value.l0 k y0 y1 y2 y3) (impl_Diagram_value.l0 (k + 1) y0 y1 y2 y3))
  | 0 => fun _ _ _ _ r h => by simp [impl_Diagram_value.l0] at h
  | k + 1 => by
    have ih0 := impl_Diagram_value.mono_l k
    · intro y0 y1 y2 y3
      unfold impl_Diagram_value.l0
      repeat' first
      | (with_reducible exact ih0 _ _ _ _)
      | (with_reducible exact LeO.refl _)
      | (with_reducible exact LeO.none _)
      | (with_reducible refine LeO.ite ?_ ?_)
      | (with_reducible refine LeO.bind ?_ (fun _ => ?_))
      | exact ih0 _ _ _ _
      | exact LeO.none _
      | refine LeO.ite ?_ ?_
      | refine LeO.bind ?_ (fun _ => ?_)
theorem impl_Diagram_value.mono : ∀ a0 a1 a2 a3 k, LeO (impl_Diagram_value.f k a0 a1 a2 a3) (impl_Diagram_value.f (k + 1) a0 a1 a2 a3) := by
  intro a0 a1 a2 a3 k
  have ih0 := impl_Diagram_value.mono_l k
  unfold impl_Diagram_value.f
  repeat' first
      | (with_reducible exact ih0 _ _ _ _)
      | (with_reducible exact LeO.refl _)
      | (with_reducible exact LeO.none _)
      | (with_reducible refine LeO.ite ?_ ?_)
      | (with_reducible refine LeO.bind ?_ (fun _ => ?_))
      | exact ih0 _ _ _ _
      | exact LeO.none _
      | refine LeO.ite ?_ ?_
      | refine LeO.bind ?_ (fun _ => ?_)
set_option maxHeartbeats 8000000 in
set_option maxRecDepth 100000 in
theorem impl_Diagram_value.calls (k : Nat) (a0_0 : Int) (A0_1 : Option Addr) (c0_1 : Nat) (l0_1 : List (S97)) (a1 : Int) (a2 : Int) (r : Bool) (w : World) (hr0_1 : Kd.C k97 w A0_1 l0_1.length l0_1) (hc0_1 : l0_1.length ≤ c0_1) (h : impl_Diagram_value.f k a0_0 l0_1 a1 a2 = some r) :
    Calls Try.prog 90 #[.agg #[.int .i64 a0_0, .slice A0_1 l0_1.length c0_1], .int .i64 a1, .int .i64 a2] w fun e w' => e = .returned (.bool r) ∧ Below w.heap.size w w' := by
  have hu29 := Try.underlying29
  have hu97 := Try.underlying97
  have HR0_1 := Aside0.mk hr0_1
  have HC0_1 := Aside0.mk hc0_1
  clear hr0_1 hc0_1
  have HB := Aside0.mk (Below.refl w.heap.size w)
  have H : (impl_Diagram_value.l0 k a1 a2 a0_0 l0_1) = some r := h
  clear h
  have H' := Aside0.mk H
  clear H
  go_enter Try.func90, Try.ntmps90
  go_wp2_with (first | ((with_reducible refine gate_dst (N := 3) rfl ?_); refine box_event ?hg (N := 3) ?hd (cs := #[.int .i64 a0_0, .slice A0_1 l0_1.length c0_1]) (t := 29) ?hr ?_; (case hd => rfl); (case hg => rfl); (case hr => first | (go_simp; done) | (go_simp; rfl)); intro gb101 hg w4 hbox hb; have n0_ := Aside0.mk (below_step (by repeat (first | (with_reducible first | exact HB.out | apply below_alloc | apply pw_below_drewN | apply below_drew1) | exact HB.out)) hb); have n1_ := Aside0.mk (hbox); have n2_ := Aside0.mk ((by rw [hg]; exact (below_size (by repeat (first | (with_reducible first | exact HB.out | apply below_alloc | apply pw_below_drewN | apply below_drew1) | exact HB.out))) : w.heap.size ≤ gb101)); have n3_ := Aside0.mk ((by rw [hg]; exact (below_size (by repeat (first | (with_reducible first | exact HB.out | apply below_alloc | apply pw_below_drewN | apply below_drew1) | exact HB.out))) : w.heap.size ≤ gb101)); clear HB; have HB := n0_; have BK101 := n1_; have GW101 := n2_; have GE101 := n3_; clear n0_ n1_ n2_ n3_; clear hb hbox hg))
  go_loopg [1] k (fun kq v1 w' => ∃ (x1_1 : Int), v1 = .int .i64 x1_1 ∧ Aside0 (impl_Diagram_value.l0 kq x1_1 a2 a0_0 l0_1 = some r) ∧ Aside0 (kq ≤ k) ∧ Aside0 (w'.heap[gb101]? = some (.cells #[.int .i64 a0_0, (.slice A0_1 l0_1.length c0_1)] 29 (0, 0))) ∧ Aside0 (Below w.heap.size w w'))
  case atStart => exact ⟨(a1), (by first | rfl | (simp; done) | (simp [*]; done)), H', ⟨Nat.le_refl _⟩, ⟨by (with_reducible repeat (first | refine blk_drewN ?_ _ | refine blk_drew ?_ | refine blk_alloc ?_ _)); exact BK101.out⟩, ⟨by repeat (first | (with_reducible first | exact HB.out | apply below_alloc | apply pw_below_drewN | apply below_drew1 | refine below_set ?_ GE101.out) | exact HB.out)⟩⟩
  case round =>
    clear H'
    try clear p2
    obtain ⟨x1_1, rfl, HA, HK1, BK101, HB⟩ := hrel
    cases gk with
    | zero => exact absurd HA.out (by simp [impl_Diagram_value.l0])
    | succ k1 =>
      have H := HA.out
      clear HA
      simp only [impl_Diagram_value.l0] at H
      by_cases c5 : x1_1 ≥ 2
      · rw [if_pos c5] at H
        have c5b0 : decide (2 ≤ x1_1) = true := decide_eq_true c5
        clear c5
        obtain ⟨ji6, hji6⟩ : ∃ j_ : Int, (wrap64 (x1_1 - 2)) = j_ := ⟨_, rfl⟩
        replace H : (if 0 ≤ (ji6) then (if (ji6) < (l0_1.length : Int) then (if 0 ≤ (wrap64 (((rd_T97 l0_1 (ji6)).f0) - 1)) then (if (Go.bits .and .i64 (shr .i64 a2 (wrap64 (((rd_T97 l0_1 (ji6)).f0) - 1))) 1) = 1 then (impl_Diagram_value.l0 k1 ((rd_T97 l0_1 (ji6)).f2) a2 a0_0 l0_1) else (impl_Diagram_value.l0 k1 ((rd_T97 l0_1 (ji6)).f1) a2 a0_0 l0_1)) else (none)) else (none)) else (none)) = some r := by first | (rw [hji6] at H; exact H) | (simp only [hji6] at H ⊢; exact H)
        have hji6w : (IntKind.i64.wrap (x1_1 - 2)) = ji6 := (i64_w _).trans hji6
        by_cases c7 : 0 ≤ (ji6)
        · rw [if_pos c7] at H
          have c7b0 : decide (0 ≤ (ji6)) = true := decide_eq_true c7
          clear c7
          by_cases c8 : (ji6) < (l0_1.length : Int)
          · rw [if_pos c8] at H
            have c8b0 : decide ((ji6) < (l0_1.length : Int)) = true := decide_eq_true c8
            clear c8
            obtain ⟨ji9, hji9⟩ : ∃ j_ : Int, (wrap64 (((rd_T97 l0_1 (ji6)).f0) - 1)) = j_ := ⟨_, rfl⟩
            replace H : (if 0 ≤ (ji9) then (if (Go.bits .and .i64 (shr .i64 a2 (ji9)) 1) = 1 then (impl_Diagram_value.l0 k1 ((rd_T97 l0_1 (ji6)).f2) a2 a0_0 l0_1) else (impl_Diagram_value.l0 k1 ((rd_T97 l0_1 (ji6)).f1) a2 a0_0 l0_1)) else (none)) = some r := by first | (rw [hji9] at H; exact H) | (simp only [hji9] at H ⊢; exact H)
            have hji9w : (IntKind.i64.wrap (((rd_T97 l0_1 (ji6)).f0) - 1)) = ji9 := (i64_w _).trans hji9
            by_cases c10 : 0 ≤ (ji9)
            · rw [if_pos c10] at H
              have c10b0 := eq_true c10
              have c10b1 : decide (0 ≤ (ji9)) = true := decide_eq_true c10
              clear c10
              obtain ⟨ji11, hji11⟩ : ∃ j_ : Int, (shr .i64 a2 (ji9)) = j_ := ⟨_, rfl⟩
              replace H : (if (Go.bits .and .i64 (ji11) 1) = 1 then (impl_Diagram_value.l0 k1 ((rd_T97 l0_1 (ji6)).f2) a2 a0_0 l0_1) else (impl_Diagram_value.l0 k1 ((rd_T97 l0_1 (ji6)).f1) a2 a0_0 l0_1)) = some r := by first | (rw [hji11] at H; exact H) | (simp only [hji11] at H ⊢; exact H)
              have hji11_ : (a2 / 2 ^ min (ji9).toNat 64) = ji11 := hji11
              have hji11z : (ji9) ≤ 64 → (a2 / 2 ^ (ji9).toNat) = ji11 := shr_small hji11
              by_cases c12 : (Go.bits .and .i64 (ji11) 1) = 1
              · rw [if_pos c12] at H
                have c12b0 : ((Go.bits .and .i64 (ji11) 1) == 1) = true := beq_iff_eq.mpr c12
                have c12b1 : ((Go.bits .and .i64 (ji11) 1) != 1) = false := bne_eq_false_iff_eq.mpr c12
                clear c12
                have H' := Aside0.mk H
                clear H
                have hcz13_0 : wr.cell? ⟨gb101, 0, none⟩ = some (.int .i64 a0_0) := (blk_cell BK101.out 0).trans rfl
                have hcz13_1 : wr.cell? ⟨gb101, 1, none⟩ = some (.slice A0_1 l0_1.length c0_1) := (blk_cell BK101.out 1).trans rfl
                have hfz13_0 := blk_frozen BK101.out 0
                have hfz13_1 := blk_frozen BK101.out 1
                have p102 : 0 ≤ ((ji6) : Int) := of_decide_eq_true (by first | (with_reducible assumption) | assumption)
                have q102 : (ji6) < (l0_1.length : Int) := of_decide_eq_true (by first | (with_reducible assumption) | assumption)
                obtain ⟨ad102, e102, hx102_0, hx102_1, hx102_2⟩ := at_T97 HR0_1.out (ji6) p102 q102
                cases e102
                replace hx102_0 := (HB.out.cell (World.block_lt_of_cell? w _ hx102_0)).trans hx102_0
                replace hx102_1 := (HB.out.cell (World.block_lt_of_cell? w _ hx102_1)).trans hx102_1
                replace hx102_2 := (HB.out.cell (World.block_lt_of_cell? w _ hx102_2)).trans hx102_2
                replace p102 := eq_true p102
                replace q102 := eq_true q102
                go_wp2_with (first | ((with_reducible refine gate_dst (N := 7) rfl ?_); refine box_event ?hg (N := 7) ?hd (cs := #[.int .i64 0, .int .i64 0, .int .i64 0]) (t := 97) ?hr ?_; (case hd => rfl); (case hg => rfl); (case hr => first | (go_simp; done) | (go_simp; rfl)); intro gb103 hg w14 hbox hb; have n0_ := Aside0.mk (blk_below (g := gb101) (o := .cells #[.int .i64 a0_0, .slice (some ad102) l0_1.length c0_1] 29 (0, 0)) (by (with_reducible repeat (first | refine blk_drewN ?_ _ | refine blk_drew ?_ | refine blk_alloc ?_ _)); exact BK101.out) hb); have n1_ := Aside0.mk (below_step (by repeat (first | (with_reducible first | exact HB.out | apply below_alloc | apply pw_below_drewN | apply below_drew1 | refine below_set ?_ GE101.out) | exact HB.out)) hb); have n2_ := Aside0.mk (hbox); have n3_ := Aside0.mk ((by rw [hg]; exact (below_size (by repeat (first | (with_reducible first | exact HB.out | apply below_alloc | apply pw_below_drewN | apply below_drew1 | refine below_set ?_ GE101.out) | exact HB.out))) : w.heap.size ≤ gb103)); have n4_ := Aside0.mk ((by rw [hg]; exact (below_size (by repeat (first | (with_reducible first | exact HB.out | apply below_alloc | apply pw_below_drewN | apply below_drew1 | refine below_set ?_ GE101.out) | exact HB.out))) : w.heap.size ≤ gb103)); have n5_ := Aside0.mk ((by rw [hg]; exact Nat.ne_of_lt (blk_lt (g := gb101) (o := .cells #[.int .i64 a0_0, .slice (some ad102) l0_1.length c0_1] 29 (0, 0)) (by (with_reducible repeat (first | refine blk_drewN ?_ _ | refine blk_drew ?_ | refine blk_alloc ?_ _)); exact BK101.out)) : gb101 ≠ gb103)); have n6_ := Aside0.mk ((by rw [hg]; exact Nat.ne_of_gt (blk_lt (g := gb101) (o := .cells #[.int .i64 a0_0, .slice (some ad102) l0_1.length c0_1] 29 (0, 0)) (by (with_reducible repeat (first | refine blk_drewN ?_ _ | refine blk_drew ?_ | refine blk_alloc ?_ _)); exact BK101.out)) : gb103 ≠ gb101)); clear BK101; clear HB; have BK101 := n0_; have HB := n1_; have BK103 := n2_; have GW103 := n3_; have GE103 := n4_; have NB101_103 := n5_; have NB103_101 := n6_; clear n0_ n1_ n2_ n3_ n4_ n5_ n6_; clear hb hbox hg; have hnb15 := NB103_101.out; have hnc15 := NB101_103.out; have hcz16_0 : w14.cell? ⟨gb103, 0, none⟩ = some (.int .i64 0) := (blk_cell BK103.out 0).trans rfl; have hcz16_1 : w14.cell? ⟨gb103, 1, none⟩ = some (.int .i64 0) := (blk_cell BK103.out 1).trans rfl; have hcz16_2 : w14.cell? ⟨gb103, 2, none⟩ = some (.int .i64 0) := (blk_cell BK103.out 2).trans rfl; have hfz16_0 := blk_frozen BK103.out 0; have hfz16_1 := blk_frozen BK103.out 1; have hfz16_2 := blk_frozen BK103.out 2))
                go_roundg k1
                case measure => have := HK1.out; omega
                case rel => exact ⟨((rd_T97 l0_1 (ji6)).f2), (by first | rfl | (simp; done) | (simp only [← hji6] <;> (first | rfl | simp)) | (simp [*]; done)), H', ⟨by have := HK1.out; omega⟩, ⟨by (with_reducible repeat (first | refine blk_drewN ?_ _ | refine blk_drew ?_ | refine blk_alloc ?_ _)); refine blk_far ?_ NB101_103.out _; (with_reducible repeat (first | refine blk_drewN ?_ _ | refine blk_drew ?_ | refine blk_alloc ?_ _)); refine blk_far ?_ NB101_103.out _; (with_reducible repeat (first | refine blk_drewN ?_ _ | refine blk_drew ?_ | refine blk_alloc ?_ _)); refine blk_far ?_ NB101_103.out _; (with_reducible repeat (first | refine blk_drewN ?_ _ | refine blk_drew ?_ | refine blk_alloc ?_ _)); exact BK101.out⟩, ⟨by repeat (first | (with_reducible first | exact HB.out | apply below_alloc | apply pw_below_drewN | apply below_drew1 | refine below_set ?_ GE101.out | refine below_set ?_ GE103.out) | exact HB.out)⟩⟩
              · rw [if_neg c12] at H
                have c12b0 : ((Go.bits .and .i64 (ji11) 1) == 1) = false := beq_eq_false_iff_ne.mpr c12
                have c12b1 : ((Go.bits .and .i64 (ji11) 1) != 1) = true := bne_iff_ne.mpr c12
                have H' := Aside0.mk H
                clear H
                have hcz17_0 : wr.cell? ⟨gb101, 0, none⟩ = some (.int .i64 a0_0) := (blk_cell BK101.out 0).trans rfl
                have hcz17_1 : wr.cell? ⟨gb101, 1, none⟩ = some (.slice A0_1 l0_1.length c0_1) := (blk_cell BK101.out 1).trans rfl
                have hfz17_0 := blk_frozen BK101.out 0
                have hfz17_1 := blk_frozen BK101.out 1
                have p102 : 0 ≤ ((ji6) : Int) := of_decide_eq_true (by first | (with_reducible assumption) | assumption)
                have q102 : (ji6) < (l0_1.length : Int) := of_decide_eq_true (by first | (with_reducible assumption) | assumption)
                obtain ⟨ad102, e102, hx102_0, hx102_1, hx102_2⟩ := at_T97 HR0_1.out (ji6) p102 q102
                cases e102
                replace hx102_0 := (HB.out.cell (World.block_lt_of_cell? w _ hx102_0)).trans hx102_0
                replace hx102_1 := (HB.out.cell (World.block_lt_of_cell? w _ hx102_1)).trans hx102_1
                replace hx102_2 := (HB.out.cell (World.block_lt_of_cell? w _ hx102_2)).trans hx102_2
                replace p102 := eq_true p102
                replace q102 := eq_true q102
                go_wp2_with (first | ((with_reducible refine gate_dst (N := 7) rfl ?_); refine box_event ?hg (N := 7) ?hd (cs := #[.int .i64 0, .int .i64 0, .int .i64 0]) (t := 97) ?hr ?_; (case hd => rfl); (case hg => rfl); (case hr => first | (go_simp; done) | (go_simp; rfl)); intro gb103 hg w18 hbox hb; have n0_ := Aside0.mk (blk_below (g := gb101) (o := .cells #[.int .i64 a0_0, .slice (some ad102) l0_1.length c0_1] 29 (0, 0)) (by (with_reducible repeat (first | refine blk_drewN ?_ _ | refine blk_drew ?_ | refine blk_alloc ?_ _)); exact BK101.out) hb); have n1_ := Aside0.mk (below_step (by repeat (first | (with_reducible first | exact HB.out | apply below_alloc | apply pw_below_drewN | apply below_drew1 | refine below_set ?_ GE101.out) | exact HB.out)) hb); have n2_ := Aside0.mk (hbox); have n3_ := Aside0.mk ((by rw [hg]; exact (below_size (by repeat (first | (with_reducible first | exact HB.out | apply below_alloc | apply pw_below_drewN | apply below_drew1 | refine below_set ?_ GE101.out) | exact HB.out))) : w.heap.size ≤ gb103)); have n4_ := Aside0.mk ((by rw [hg]; exact (below_size (by repeat (first | (with_reducible first | exact HB.out | apply below_alloc | apply pw_below_drewN | apply below_drew1 | refine below_set ?_ GE101.out) | exact HB.out))) : w.heap.size ≤ gb103)); have n5_ := Aside0.mk ((by rw [hg]; exact Nat.ne_of_lt (blk_lt (g := gb101) (o := .cells #[.int .i64 a0_0, .slice (some ad102) l0_1.length c0_1] 29 (0, 0)) (by (with_reducible repeat (first | refine blk_drewN ?_ _ | refine blk_drew ?_ | refine blk_alloc ?_ _)); exact BK101.out)) : gb101 ≠ gb103)); have n6_ := Aside0.mk ((by rw [hg]; exact Nat.ne_of_gt (blk_lt (g := gb101) (o := .cells #[.int .i64 a0_0, .slice (some ad102) l0_1.length c0_1] 29 (0, 0)) (by (with_reducible repeat (first | refine blk_drewN ?_ _ | refine blk_drew ?_ | refine blk_alloc ?_ _)); exact BK101.out)) : gb103 ≠ gb101)); clear BK101; clear HB; have BK101 := n0_; have HB := n1_; have BK103 := n2_; have GW103 := n3_; have GE103 := n4_; have NB101_103 := n5_; have NB103_101 := n6_; clear n0_ n1_ n2_ n3_ n4_ n5_ n6_; clear hb hbox hg; have hnb19 := NB103_101.out; have hnc19 := NB101_103.out; have hcz20_0 : w18.cell? ⟨gb103, 0, none⟩ = some (.int .i64 0) := (blk_cell BK103.out 0).trans rfl; have hcz20_1 : w18.cell? ⟨gb103, 1, none⟩ = some (.int .i64 0) := (blk_cell BK103.out 1).trans rfl; have hcz20_2 : w18.cell? ⟨gb103, 2, none⟩ = some (.int .i64 0) := (blk_cell BK103.out 2).trans rfl; have hfz20_0 := blk_frozen BK103.out 0; have hfz20_1 := blk_frozen BK103.out 1; have hfz20_2 := blk_frozen BK103.out 2))
                go_roundg k1
                case measure => have := HK1.out; omega
                case rel => exact ⟨((rd_T97 l0_1 (ji6)).f1), (by first | rfl | (simp; done) | (simp only [← hji6] <;> (first | rfl | simp)) | (simp [*]; done)), H', ⟨by have := HK1.out; omega⟩, ⟨by (with_reducible repeat (first | refine blk_drewN ?_ _ | refine blk_drew ?_ | refine blk_alloc ?_ _)); refine blk_far ?_ NB101_103.out _; (with_reducible repeat (first | refine blk_drewN ?_ _ | refine blk_drew ?_ | refine blk_alloc ?_ _)); refine blk_far ?_ NB101_103.out _; (with_reducible repeat (first | refine blk_drewN ?_ _ | refine blk_drew ?_ | refine blk_alloc ?_ _)); refine blk_far ?_ NB101_103.out _; (with_reducible repeat (first | refine blk_drewN ?_ _ | refine blk_drew ?_ | refine blk_alloc ?_ _)); exact BK101.out⟩, ⟨by repeat (first | (with_reducible first | exact HB.out | apply below_alloc | apply pw_below_drewN | apply below_drew1 | refine below_set ?_ GE101.out | refine below_set ?_ GE103.out) | exact HB.out)⟩⟩
            · rw [if_neg c10] at H
              exact absurd H (by simp)
          · rw [if_neg c8] at H
            exact absurd H (by simp)
        · rw [if_neg c7] at H
          exact absurd H (by simp)
      · rw [if_neg c5] at H
        have c5b0 : decide (2 ≤ x1_1) = false := decide_eq_false c5
        clear c5
        obtain rfl := Option.some.inj H
        go_wp2
        go_ret
        exact ⟨by first | rfl | (simp [errW_none, errW_some] <;> rfl) | (simp [*, errW_none, errW_some] <;> rfl), by repeat (first | (with_reducible first | exact HB.out | apply below_alloc | apply pw_below_drewN | apply below_drew1 | refine below_set ?_ GE101.out) | exact HB.out)⟩

end Go.Proofs.Ytggjpogcimdepaa.Print
namespace Go.Proofs.Ytggjpogcimdepaa.Print
open Go.RowKit Go.Proofs.YtggjpogcimdepaaW.PrintWords Go.Proofs.YtggjpogcimdepaaW.PrintLast Go.Proofs.YtggjpogcimdepaaW.PrintMore
attribute [local go_sem] max2_int min2_int max_two min_two max_three min_three max_four min_four   -- for this text's walks alone
set_option linter.unusedVariables false
set_option linter.unusedSimpArgs false

/-! ### impl_Diagram_valueAt: function 64 -/
def impl_Diagram_valueAt.f (k : Nat) (a0_0 : Int) (l0_1 : List (S97)) (a1 : Int) : Option (Bool) := (impl_Diagram_value.f k a0_0 l0_1 a0_0 a1).bind fun t102 => (some t102)
theorem impl_Diagram_valueAt.mono : ∀ a0 a1 a2 k, LeO (impl_Diagram_valueAt.f k a0 a1 a2) (impl_Diagram_valueAt.f (k + 1) a0 a1 a2) := by
  intro a0 a1 a2 k
  unfold impl_Diagram_valueAt.f
  repeat' first
      | (with_reducible exact impl_Diagram_value.mono _ _ _ _ _)
      | (with_reducible exact LeO.refl _)
      | (with_reducible exact LeO.none _)
      | (with_reducible refine LeO.ite ?_ ?_)
      | (with_reducible refine LeO.bind ?_ (fun _ => ?_))
      | exact impl_Diagram_value.mono _ _ _ _ _
      | exact LeO.none _
      | refine LeO.ite ?_ ?_
      | refine LeO.bind ?_ (fun _ => ?_)
set_option maxHeartbeats 8000000 in
set_option maxRecDepth 100000 in
theorem impl_Diagram_valueAt.calls (k : Nat) (a0_0 : Int) (A0_1 : Option Addr) (c0_1 : Nat) (l0_1 : List (S97)) (a1 : Int) (r : Bool) (w : World) (hr0_1 : Kd.C k97 w A0_1 l0_1.length l0_1) (hc0_1 : l0_1.length ≤ c0_1) (h : impl_Diagram_valueAt.f k a0_0 l0_1 a1 = some r) :
    Calls Try.prog 64 #[.agg #[.int .i64 a0_0, .slice A0_1 l0_1.length c0_1], .int .i64 a1] w fun e w' => e = .returned (.bool r) ∧ Below w.heap.size w w' := by
  have hu29 := Try.underlying29
  have HR0_1 := Aside0.mk hr0_1
  have HC0_1 := Aside0.mk hc0_1
  clear hr0_1 hc0_1
  have HB := Aside0.mk (Below.refl w.heap.size w)
  have H : ((impl_Diagram_value.f k a0_0 l0_1 a0_0 a1).bind fun t102 => (some t102)) = some r := h
  clear h
  replace H := Option.bind_eq_some_iff.mp H
  obtain ⟨t102, A30, H⟩ := H
  replace H : (some t102) = some r := H
  have A3 := Aside0.mk A30
  clear A30
  obtain rfl := Option.some.inj H
  go_enter Try.func64, Try.ntmps64
  go_wp2_with (first | ((with_reducible refine gate_dst (N := 2) rfl ?_); refine box_event ?hg (N := 2) ?hd (cs := #[.int .i64 a0_0, .slice A0_1 l0_1.length c0_1]) (t := 29) ?hr ?_; (case hd => rfl); (case hg => rfl); (case hr => first | (go_simp; done) | (go_simp; rfl)); intro gb101 hg w4 hbox hb; have n0_ := Aside0.mk (below_step (by repeat (first | (with_reducible first | exact HB.out | apply below_alloc | apply pw_below_drewN | apply below_drew1) | exact HB.out)) hb); have n1_ := Aside0.mk (hbox); have n2_ := Aside0.mk ((by rw [hg]; exact (below_size (by repeat (first | (with_reducible first | exact HB.out | apply below_alloc | apply pw_below_drewN | apply below_drew1) | exact HB.out))) : w.heap.size ≤ gb101)); have n3_ := Aside0.mk ((by rw [hg]; exact (below_size (by repeat (first | (with_reducible first | exact HB.out | apply below_alloc | apply pw_below_drewN | apply below_drew1) | exact HB.out))) : w.heap.size ≤ gb101)); clear HB; have HB := n0_; have BK101 := n1_; have GW101 := n2_; have GE101 := n3_; clear n0_ n1_ n2_ n3_; clear hb hbox hg; have hcz5_0 : w4.cell? ⟨gb101, 0, none⟩ = some (.int .i64 a0_0) := (blk_cell BK101.out 0).trans rfl; have hcz5_1 : w4.cell? ⟨gb101, 1, none⟩ = some (.slice A0_1 l0_1.length c0_1) := (blk_cell BK101.out 1).trans rfl; have hfz5_0 := blk_frozen BK101.out 0; have hfz5_1 := blk_frozen BK101.out 1) | ((with_reducible refine gate_callee (f := 90) rfl ?_); refine goesL_ (some 9) rfl rfl Try.func90 (by kernel_rfl) rfl #[.agg #[.int .i64 a0_0, .slice A0_1 l0_1.length c0_1], .int .i64 a0_0, .int .i64 a1] rfl (by (try simp only [List.map_toArray, List.map_cons, List.map_nil]); first | done | rfl | (simp only [List.length_drop, List.length_take]; rfl)) ?_; (with_reducible refine (impl_Diagram_value.calls k a0_0 _ _ l0_1 a0_0 a1 t102 _ ?side1 ?side2 A3.out).mono ?_); (case side1 => repeat (first | exact (Kd.C_below HR0_1.out HB.out) | (with_reducible refine Kd.C_alloc ?_ _) | (with_reducible refine Kd.C_drewN ?_ _) | (with_reducible refine Kd.C_drew ?_))); (case side2 => exact HC0_1.out); rintro e w6 ⟨rfl, hb⟩; refine ⟨_, rfl, ?_⟩; have n0_ := Aside0.mk (blk_below (g := gb101) (o := .cells #[.int .i64 a0_0, .slice A0_1 l0_1.length c0_1] 29 (0, 0)) (by (with_reducible repeat (first | refine blk_drewN ?_ _ | refine blk_drew ?_ | refine blk_alloc ?_ _)); exact BK101.out) hb); have n1_ := Aside0.mk (below_step (by repeat (first | (with_reducible first | exact HB.out | apply below_alloc | apply pw_below_drewN | apply below_drew1 | refine below_set ?_ GE101.out) | exact HB.out)) hb); clear BK101; clear HB; have BK101 := n0_; have HB := n1_; clear n0_ n1_; (try clear hb); (try clear hb2); (try clear hk); (try clear hi)))
  go_ret
  exact ⟨by first | rfl | (simp [errW_none, errW_some] <;> rfl) | (simp [*, errW_none, errW_some] <;> rfl), by repeat (first | (with_reducible first | exact HB.out | apply below_alloc | apply pw_below_drewN | apply below_drew1 | refine below_set ?_ GE101.out) | exact HB.out)⟩

end Go.Proofs.Ytggjpogcimdepaa.Print
namespace Go.Proofs.Ytggjpogcimdepaa.Print
open Go.RowKit Go.Proofs.YtggjpogcimdepaaW.PrintWords Go.Proofs.YtggjpogcimdepaaW.PrintLast Go.Proofs.YtggjpogcimdepaaW.PrintMore
attribute [local go_sem] max2_int min2_int max_two min_two max_three min_three max_four min_four   -- for this text's walks alone
set_option linter.unusedVariables false
set_option linter.unusedSimpArgs false

/-! ### impl_bitsOk: function 60 -/
def impl_bitsOk.f (a0 : Int) (a1 : Int) : Option (Bool) := if 0 ≤ a0 then ((impl_within.f a1 0 (wrap64 ((shl .i64 1 a0) - 1))).bind fun t101 => (some t101)) else (none)
set_option maxHeartbeats 8000000 in
set_option maxRecDepth 100000 in
theorem impl_bitsOk.calls (a0 : Int) (a1 : Int) (r : Bool) (w : World) (h : impl_bitsOk.f a0 a1 = some r) :
    Calls Try.prog 60 #[.int .i64 a0, .int .i64 a1] w fun e w' => e = .returned (.bool r) ∧ Drawn0 w w' := by
  have H : (if 0 ≤ a0 then ((impl_within.f a1 0 (wrap64 ((shl .i64 1 a0) - 1))).bind fun t101 => (some t101)) else (none)) = some r := h
  clear h
  by_cases c3 : 0 ≤ a0
  · rw [if_pos c3] at H
    have c3b0 := eq_true c3
    have c3b1 : decide (0 ≤ a0) = true := decide_eq_true c3
    clear c3
    obtain ⟨ji4, hji4⟩ : ∃ j_ : Int, (shl .i64 1 a0) = j_ := ⟨_, rfl⟩
    replace H : ((impl_within.f a1 0 (wrap64 ((ji4) - 1))).bind fun t101 => (some t101)) = some r := by first | (rw [hji4] at H; exact H) | (simp only [hji4] at H ⊢; exact H)
    have hji4_ : (IntKind.i64.wrap (1 * 2 ^ min a0.toNat 64)) = ji4 := hji4
    have hji4z : a0 ≤ 64 → (IntKind.i64.wrap (1 * 2 ^ a0.toNat)) = ji4 := shl_small hji4
    have hji4u : (IntKind.i64.wrap (2 ^ min a0.toNat 64)) = ji4 := by have h_ := hji4_; rw [Int.one_mul] at h_; exact h_
    have hji4v : a0 ≤ 64 → (IntKind.i64.wrap (2 ^ a0.toNat)) = ji4 := fun hle_ => by have h_ := hji4z hle_; rw [Int.one_mul] at h_; exact h_
    have hji4y : (wrap64 (1 * 2 ^ min a0.toNat 64)) = ji4 := (i64_w _).symm.trans hji4_
    have hji4x : a0 ≤ 64 → (wrap64 (1 * 2 ^ a0.toNat)) = ji4 := fun h_ => (i64_w _).symm.trans (hji4z h_)
    replace H := Option.bind_eq_some_iff.mp H
    obtain ⟨t101, A50, H⟩ := H
    replace H : (some t101) = some r := H
    have A5 := Aside0.mk A50
    clear A50
    obtain rfl := Option.some.inj H
    go_enter Try.func60, Try.ntmps60
    go_wp2_with (first | ((with_reducible refine gate_callee (f := 52) rfl ?_); refine goesL_ (some 9) rfl rfl Try.func52 (by kernel_rfl) rfl #[.int .i64 a1, .int .i64 0, .int .i64 (wrap64 ((ji4) - 1))] rfl (by (try simp only [List.map_toArray, List.map_cons, List.map_nil]); first | done | (simp only [hji4]; rfl) | rfl | (simp only [List.length_drop, List.length_take]; rfl)) ?_; (with_reducible refine (impl_within.calls a1 0 (wrap64 ((ji4) - 1)) t101 _ A5.out).mono ?_); rintro e w' ⟨rfl, ⟨nd, rfl⟩⟩; refine ⟨_, rfl, ?_⟩))
    go_ret
    exact ⟨by first | rfl | (simp; done) | (simp only [← hji4] <;> (first | rfl | simp)) | (simp [*]; done), by repeat (first | exact Drawn0.refl _ | apply Drawn0.step)⟩
  · rw [if_neg c3] at H
    exact absurd H (by simp)

end Go.Proofs.Ytggjpogcimdepaa.Print
namespace Go.Proofs.Ytggjpogcimdepaa.DiagA
open Go.RowKit Go.Proofs.YtggjpogcimdepaaW.PrintWords Go.Proofs.YtggjpogcimdepaaW.PrintMore Go.Proofs.Ytggjpogcimdepaa.XEv Go.Proofs.Ytggjpogcimdepaa.Print
set_option linter.unusedVariables false
set_option linter.unusedSimpArgs false

theorem upto6 {v : Int} (h0 : 0 ≤ v) (h6 : v ≤ 6) : v = 0 ∨ v = 1 ∨ v = 2 ∨ v = 3 ∨ v = 4 ∨ v = 5 ∨ v = 6 := by omega
theorem shl1 {v : Int} (h0 : 0 ≤ v) (h6 : v ≤ 6) : shl .i64 1 v = ((2 ^ v.toNat : Nat) : Int) := by
  rcases upto6 h0 h6 with rfl | rfl | rfl | rfl | rfl | rfl | rfl <;> decide
theorem pow6 {v : Int} (h0 : 0 ≤ v) (h6 : v ≤ 6) : 1 ≤ 2 ^ v.toNat ∧ 2 ^ v.toNat ≤ 64 := by
  rcases upto6 h0 h6 with rfl | rfl | rfl | rfl | rfl | rfl | rfl <;> decide

/-- Is the variable v true for bits? -/
def tst (bits v : Int) : Bool := decide ((Go.bits .and .i64 (shr .i64 bits (v - 1)) 1) = 1)
/-- The value of the number x for bits, in at most n steps. -/
def dv (ns : List S97) (bits : Int) : Nat → Int → Bool
  | 0, x => x == 1
  | n + 1, x => if x > 1 then dv ns bits n (if tst bits (rd_T97 ns (x - 2)).f0 = true then (rd_T97 ns (x - 2)).f2 else (rd_T97 ns (x - 2)).f1) else x == 1
/-- The value of a Diagram for bits. -/
def dval (ns : List S97) (root bits : Int) : Bool := dv ns bits root.toNat root

theorem dv_both (vars root : Int) (ns : List S97) (bits root' : Int) (hg : Good vars root' ns) : ∀ (n : Nat) (x : Int), 0 ≤ x → x ≤ n → x ≤ ns.length + 1 →
    Ev (fun k => spec_l26Value.l0 k bits x root ns) (dv ns bits n x) ∧ Ev (fun k => impl_Diagram_value.l0 k x bits root ns) (dv ns bits n x) := by
  obtain ⟨hv0, hv6, hl, _, _, hok⟩ := hg
  intro n
  induction n with
  | zero =>
    intro x h0 hn hx
    refine ⟨estep (fun k => spec_l26Value.l0.eq_2 (k := k) ..) (eneg (by omega) (eok rfl)), estep (fun k => impl_Diagram_value.l0.eq_2 (k := k) ..) (eneg (by omega) (eok rfl))⟩
  | succ n ih =>
    intro x h0 hn hx
    by_cases hx1 : x > 1
    case neg =>
      have e : dv ns bits (n + 1) x = (x == 1) := by simp only [dv, if_neg hx1]
      rw [e]
      exact ⟨estep (fun k => spec_l26Value.l0.eq_2 (k := k) ..) (eneg (by omega) (eok rfl)), estep (fun k => impl_Diagram_value.l0.eq_2 (k := k) ..) (eneg (by omega) (eok rfl))⟩
    have w1 : wrap64 (x - 2) = x - 2 := wrap_in (by omega) (by omega)
    obtain ⟨a1, a2, a3, a4, a5, a6, _, _⟩ := hok (x - 2) (by omega) (by omega)
    have w2 : wrap64 ((rd_T97 ns (x - 2)).f0 - 1) = (rd_T97 ns (x - 2)).f0 - 1 := wrap_in (by omega) (by omega)
    have e : dv ns bits (n + 1) x = dv ns bits n (if tst bits (rd_T97 ns (x - 2)).f0 = true then (rd_T97 ns (x - 2)).f2 else (rd_T97 ns (x - 2)).f1) := by
      show (if x > 1 then _ else _) = _
      rw [if_pos hx1]
    rw [e]
    by_cases ht : tst bits (rd_T97 ns (x - 2)).f0 = true
    · rw [if_pos ht]
      have ht' : (Go.bits .and .i64 (shr .i64 bits ((rd_T97 ns (x - 2)).f0 - 1)) 1) = 1 := by simpa [tst] using ht
      obtain ⟨i1, i2⟩ := ih (rd_T97 ns (x - 2)).f2 (by omega) (by omega) (by omega)
      exact ⟨estep (fun k => spec_l26Value.l0.eq_2 (k := k) ..) (epos hx1 (epos (by omega) (epos (by omega) (epos (by rw [w1, w2]; omega) (epos (by rw [w1, w2]; exact ht') (by rw [w1]; exact i1)))))),
        estep (fun k => impl_Diagram_value.l0.eq_2 (k := k) ..) (epos (by omega) (epos (by omega) (epos (by omega) (epos (by rw [w1, w2]; omega) (epos (by rw [w1, w2]; exact ht') (by rw [w1]; exact i2))))))⟩
    · rw [if_neg ht]
      have ht' : ¬ (Go.bits .and .i64 (shr .i64 bits ((rd_T97 ns (x - 2)).f0 - 1)) 1) = 1 := by simpa [tst] using ht
      obtain ⟨i1, i2⟩ := ih (rd_T97 ns (x - 2)).f1 (by omega) (by omega) (by omega)
      exact ⟨estep (fun k => spec_l26Value.l0.eq_2 (k := k) ..) (epos hx1 (epos (by omega) (epos (by omega) (epos (by rw [w1, w2]; omega) (eneg (by rw [w1, w2]; exact ht') (by rw [w1]; exact i1)))))),
        estep (fun k => impl_Diagram_value.l0.eq_2 (k := k) ..) (epos (by omega) (epos (by omega) (epos (by omega) (epos (by rw [w1, w2]; omega) (eneg (by rw [w1, w2]; exact ht') (by rw [w1]; exact i2))))))⟩

theorem specVal (vars root : Int) (ns : List S97) (bits : Int) (hg : Good vars root ns) : Ev (fun k => spec_l26Value.f k root ns bits) (dval ns root bits) := by
  unfold spec_l26Value.f
  exact (dv_both vars root ns bits root hg root.toNat root hg.2.2.2.1 (by have := hg.2.2.2.1; omega) hg.2.2.2.2.1).1
theorem implVal (vars root : Int) (ns : List S97) (bits : Int) (hg : Good vars root ns) : Ev (fun k => impl_Diagram_valueAt.f k root ns bits) (dval ns root bits) := by
  unfold impl_Diagram_valueAt.f impl_Diagram_value.f
  exact ebind (dv_both vars root ns bits root hg root.toNat root hg.2.2.2.1 (by have := hg.2.2.2.1; omega) hg.2.2.2.2.1).2 (eok rfl)

theorem bitsOk (vars bits : Int) (h0 : 0 ≤ vars) (h6 : vars ≤ 6) : impl_bitsOk.f vars bits = some (decide (0 ≤ bits ∧ bits ≤ ((2 ^ vars.toNat : Nat) : Int) - 1)) := by
  have hp := pow6 h0 h6
  unfold impl_bitsOk.f
  rw [if_pos h0, shl1 h0 h6, wrap_in (by omega) (by omega), within]
  rfl

/-- The values for all bits, in order. -/
def values (vars root : Int) (ns : List S97) : List Bool := (List.range (2 ^ vars.toNat)).map fun b : Nat => dval ns root (b : Int)
theorem specVals_l (vars root : Int) (ns : List S97) (hg : Good vars root ns) : ∀ (d : Nat) (xs : List Bool) (i : Nat), i + d = 2 ^ vars.toNat → xs = (List.range i).map (fun b : Nat => dval ns root (b : Int)) →
    Ev (fun k => spec_l26Values.l0 k vars xs (i : Int) root ns) (values vars root ns) := by
  have hp := pow6 hg.1 hg.2.1
  intro d
  induction d with
  | zero =>
    rintro xs i hi rfl
    refine estep (fun k => spec_l26Values.l0.eq_2 (k := k) ..) (epos hg.1 (eneg (by rw [shl1 hg.1 hg.2.1]; omega) (eok ?_)))
    rw [show i = 2 ^ vars.toNat from by omega]
    rfl
  | succ d ih =>
    rintro xs i hi rfl
    refine estep (fun k => spec_l26Values.l0.eq_2 (k := k) ..) (epos hg.1 (epos (by rw [shl1 hg.1 hg.2.1]; omega) (ebind (specVal vars root ns i hg) (epos (by simp; omega) ?_))))
    rw [wrap_in (by omega) (by omega)]
    exact ih _ (i + 1) (by omega) (by rw [List.range_succ, List.map_append]; rfl)
theorem specVals (vars root : Int) (ns : List S97) (hg : Good vars root ns) : Ev (fun k => spec_l26Values.f k vars root ns) (values vars root ns) := by
  unfold spec_l26Values.f
  exact specVals_l vars root ns hg (2 ^ vars.toNat) [] 0 (by omega) rfl
theorem values_length (vars root : Int) (ns : List S97) : (values vars root ns).length = 2 ^ vars.toNat := by simp [values]
theorem values_at (vars root : Int) (ns : List S97) (b : Nat) (h : b < 2 ^ vars.toNat) : (values vars root ns)[b]? = some (dval ns root b) := by
  simp [values, h]
end Go.Proofs.Ytggjpogcimdepaa.DiagA
namespace Go.Proofs.Ytggjpogcimdepaa.Print
open Go.RowKit Go.Proofs.YtggjpogcimdepaaW.PrintWords Go.Proofs.YtggjpogcimdepaaW.PrintLast Go.Proofs.YtggjpogcimdepaaW.PrintMore
attribute [local go_sem] max2_int min2_int max_two min_two max_three min_three max_four min_four   -- for this text's walks alone
set_option linter.unusedVariables false
set_option linter.unusedSimpArgs false

attribute [local go_sem high] eqA97
/-! ### impl_BddNode_92: function 92 -/
def impl_BddNode_92.l0 : Nat → List (S97) → List (S97) → Int → Int → Option (Bool)
  | 0, _, _, _, _ => none
  | k + 1, x0, x1, x12, x13 => if x13 < x12 then (if 0 ≤ x13 then (if x13 < (x0.length : Int) then (if x13 < (x1.length : Int) then (if (!(((rd_T97 x0 x13).f0) == ((rd_T97 x1 x13).f0)) || (!(((rd_T97 x0 x13).f1) == ((rd_T97 x1 x13).f1)) || (!(((rd_T97 x0 x13).f2) == ((rd_T97 x1 x13).f2))))) = true then (some false) else (impl_BddNode_92.l0 k x0 x1 x12 (wrap64 (x13 + 1)))) else (none)) else (none)) else (none)) else (some true)
def impl_BddNode_92.f (k : Nat) (l0 : List (S97)) (l1 : List (S97)) : Option (Bool) := if (l0.length : Int) = (l1.length : Int) then (impl_BddNode_92.l0 k l0 l1 (l0.length : Int) 0) else (some false)
theorem impl_BddNode_92.mono_l : ∀ k, (∀ y0 y1 y2 y3, LeO (impl_BddNode_92.l0 k y0 y1 y2 y3) (impl_BddNode_92.l0 (k + 1) y0 y1 y2 y3))
  | 0 => fun _ _ _ _ r h => by simp [impl_BddNode_92.l0] at h
  | k + 1 => by
    have ih0 := impl_BddNode_92.mono_l k
    · intro y0 y1 y2 y3
      unfold impl_BddNode_92.l0
      repeat' first
      | (with_reducible exact ih0 _ _ _ _)
      | (with_reducible exact LeO.refl _)
      | (with_reducible exact LeO.none _)
      | (with_reducible refine LeO.ite ?_ ?_)
      | (with_reducible refine LeO.bind ?_ (fun _ => ?_))
      | exact ih0 _ _ _ _
      | exact LeO.none _
      | refine LeO.ite ?_ ?_
      | refine LeO.bind ?_ (fun _ => ?_)
theorem impl_BddNode_92.mono : ∀ a0 a1 k, LeO (impl_BddNode_92.f k a0 a1) (impl_BddNode_92.f (k + 1) a0 a1) := by
  intro a0 a1 k
  have ih0 := impl_BddNode_92.mono_l k
  unfold impl_BddNode_92.f
  repeat' first
      | (with_reducible exact ih0 _ _ _ _)
      | (with_reducible exact LeO.refl _)
      | (with_reducible exact LeO.none _)
      | (with_reducible refine LeO.ite ?_ ?_)
      | (with_reducible refine LeO.bind ?_ (fun _ => ?_))
      | exact ih0 _ _ _ _
      | exact LeO.none _
      | refine LeO.ite ?_ ?_
      | refine LeO.bind ?_ (fun _ => ?_)
set_option maxHeartbeats 8000000 in
set_option maxRecDepth 100000 in
theorem impl_BddNode_92.calls (k : Nat) (A0 : Option Addr) (c0 : Nat) (l0 : List (S97)) (A1 : Option Addr) (c1 : Nat) (l1 : List (S97)) (r : Bool) (w : World) (hr0 : Kd.C k97 w A0 l0.length l0) (hc0 : l0.length ≤ c0) (hr1 : Kd.C k97 w A1 l1.length l1) (hc1 : l1.length ≤ c1) (h : impl_BddNode_92.f k l0 l1 = some r) :
    Calls Try.prog 92 #[.slice A0 l0.length c0, .slice A1 l1.length c1] w fun e w' => e = .returned (.bool r) ∧ Drawn0 w w' := by
  have hu97 := Try.underlying97
  have HR0 := Aside0.mk hr0
  have HC0 := Aside0.mk hc0
  clear hr0 hc0
  have HR1 := Aside0.mk hr1
  have HC1 := Aside0.mk hc1
  clear hr1 hc1
  have H : (if (l0.length : Int) = (l1.length : Int) then (impl_BddNode_92.l0 k l0 l1 (l0.length : Int) 0) else (some false)) = some r := h
  clear h
  by_cases c3 : (l0.length : Int) = (l1.length : Int)
  · rw [if_pos c3] at H
    have c3b0 : ((l0.length : Int) == (l1.length : Int)) = true := beq_iff_eq.mpr c3
    have c3b1 : ((l0.length : Int) != (l1.length : Int)) = false := bne_eq_false_iff_eq.mpr c3
    have c3b2 : (l0.length == l1.length) = true := by first | simpa using c3 | (simp at c3 ⊢; omega)
    clear c3
    have H' := Aside0.mk H
    clear H
    go_enter Try.func92, Try.ntmps92
    go_wp2
    repeat (go_quiet (fail); try go_wp2)
    go_loopg [13] k (fun kq v13 w' => ∃ (x13_1 : Int), v13 = .int .i64 x13_1 ∧ Aside0 (impl_BddNode_92.l0 kq l0 l1 (l0.length : Int) x13_1 = some r) ∧ Aside0 (kq ≤ k) ∧ Drawn0 w w')
    case atStart => exact ⟨(0), (by first | rfl | (simp; done) | (simp [*]; done)), H', ⟨Nat.le_refl _⟩, by repeat (first | exact Drawn0.refl _ | apply Drawn0.step)⟩
    case round =>
      clear H'
      try clear c1
      try clear p2
      try clear c3
      try clear c3b0
      try clear c3b1
      try clear c3b2
      obtain ⟨x13_1, rfl, HA, HK1, ⟨m1, rfl⟩⟩ := hrel
      cases gk with
      | zero => exact absurd HA.out (by simp [impl_BddNode_92.l0])
      | succ k1 =>
        have H := HA.out
        clear HA
        simp only [impl_BddNode_92.l0] at H
        by_cases c4 : x13_1 < (l0.length : Int)
        · rw [if_pos c4] at H
          have c4b0 : decide (x13_1 < (l0.length : Int)) = true := decide_eq_true c4
          clear c4
          by_cases c5 : 0 ≤ x13_1
          · rw [if_pos c5] at H
            have c5b0 : decide (0 ≤ x13_1) = true := decide_eq_true c5
            clear c5
            by_cases c6 : x13_1 < (l0.length : Int)
            · rw [if_pos c6] at H
              have c6b0 : decide (x13_1 < (l0.length : Int)) = true := decide_eq_true c6
              clear c6
              by_cases c7 : x13_1 < (l1.length : Int)
              · rw [if_pos c7] at H
                have c7b0 : decide (x13_1 < (l1.length : Int)) = true := decide_eq_true c7
                clear c7
                by_cases c8 : (!(((rd_T97 l0 x13_1).f0) == ((rd_T97 l1 x13_1).f0)) || (!(((rd_T97 l0 x13_1).f1) == ((rd_T97 l1 x13_1).f1)) || (!(((rd_T97 l0 x13_1).f2) == ((rd_T97 l1 x13_1).f2))))) = true
                · rw [if_pos c8] at H
                  have c8b0 : (!(((rd_T97 l0 x13_1).f0) == ((rd_T97 l1 x13_1).f0)) || (!(((rd_T97 l0 x13_1).f1) == ((rd_T97 l1 x13_1).f1)) || (!(((rd_T97 l0 x13_1).f2) == ((rd_T97 l1 x13_1).f2))))) = true := c8
                  clear c8
                  obtain rfl := Option.some.inj H
                  have p101 : 0 ≤ (x13_1 : Int) := of_decide_eq_true (by first | (with_reducible assumption) | assumption)
                  have q101 : x13_1 < (l0.length : Int) := of_decide_eq_true (by first | (with_reducible assumption) | assumption)
                  obtain ⟨ad101, e101, hx101_0, hx101_1, hx101_2⟩ := at_T97 HR0.out x13_1 p101 q101
                  cases e101
                  replace p101 := eq_true p101
                  replace q101 := eq_true q101
                  have p102 : 0 ≤ (x13_1 : Int) := of_decide_eq_true (by first | (with_reducible assumption) | assumption)
                  have q102 : x13_1 < (l1.length : Int) := of_decide_eq_true (by first | (with_reducible assumption) | assumption)
                  obtain ⟨ad102, e102, hx102_0, hx102_1, hx102_2⟩ := at_T97 HR1.out x13_1 p102 q102
                  cases e102
                  replace p102 := eq_true p102
                  replace q102 := eq_true q102
                  go_wp2
                  repeat (go_quiet (fail); try go_wp2)
                  go_ret
                  exact ⟨by first | rfl | (simp; done) | (simp [*]; done), by repeat (first | exact Drawn0.refl _ | apply Drawn0.step)⟩
                · rw [if_neg c8] at H
                  have c8b0 : (!(((rd_T97 l0 x13_1).f0) == ((rd_T97 l1 x13_1).f0)) || (!(((rd_T97 l0 x13_1).f1) == ((rd_T97 l1 x13_1).f1)) || (!(((rd_T97 l0 x13_1).f2) == ((rd_T97 l1 x13_1).f2))))) = false := by simpa using c8
                  clear c8
                  have H' := Aside0.mk H
                  clear H
                  have p101 : 0 ≤ (x13_1 : Int) := of_decide_eq_true (by first | (with_reducible assumption) | assumption)
                  have q101 : x13_1 < (l0.length : Int) := of_decide_eq_true (by first | (with_reducible assumption) | assumption)
                  obtain ⟨ad101, e101, hx101_0, hx101_1, hx101_2⟩ := at_T97 HR0.out x13_1 p101 q101
                  cases e101
                  replace p101 := eq_true p101
                  replace q101 := eq_true q101
                  have p102 : 0 ≤ (x13_1 : Int) := of_decide_eq_true (by first | (with_reducible assumption) | assumption)
                  have q102 : x13_1 < (l1.length : Int) := of_decide_eq_true (by first | (with_reducible assumption) | assumption)
                  obtain ⟨ad102, e102, hx102_0, hx102_1, hx102_2⟩ := at_T97 HR1.out x13_1 p102 q102
                  cases e102
                  replace p102 := eq_true p102
                  replace q102 := eq_true q102
                  go_wp2
                  repeat (go_quiet (fail); try go_wp2)
                  go_roundg k1
                  case measure => have := HK1.out; omega
                  case rel => exact ⟨(wrap64 (x13_1 + 1)), (by first | rfl | (simp; done) | (simp [*]; done)), H', ⟨by have := HK1.out; omega⟩, by repeat (first | exact Drawn0.refl _ | apply Drawn0.step)⟩
              · rw [if_neg c7] at H
                exact absurd H (by simp)
            · rw [if_neg c6] at H
              exact absurd H (by simp)
          · rw [if_neg c5] at H
            exact absurd H (by simp)
        · rw [if_neg c4] at H
          have c4b0 : decide (x13_1 < (l0.length : Int)) = false := decide_eq_false c4
          clear c4
          obtain rfl := Option.some.inj H
          go_wp2
          repeat (go_quiet (fail); try go_wp2)
          go_ret
          exact ⟨by first | rfl | (simp; done) | (simp [*]; done), by repeat (first | exact Drawn0.refl _ | apply Drawn0.step)⟩
  · rw [if_neg c3] at H
    have c3b0 : ((l0.length : Int) == (l1.length : Int)) = false := beq_eq_false_iff_ne.mpr c3
    have c3b1 : ((l0.length : Int) != (l1.length : Int)) = true := bne_iff_ne.mpr c3
    have c3b2 : (l0.length == l1.length) = false := by first | simpa using c3 | (simp at c3 ⊢; omega)
    obtain rfl := Option.some.inj H
    go_enter Try.func92, Try.ntmps92
    go_wp2
    repeat (go_quiet (fail); try go_wp2)
    go_ret
    exact ⟨by first | rfl | (simp; done) | (simp [*]; done), by repeat (first | exact Drawn0.refl _ | apply Drawn0.step)⟩

end Go.Proofs.Ytggjpogcimdepaa.Print
namespace Go.Proofs.Ytggjpogcimdepaa.Print
open Go.RowKit Go.Proofs.YtggjpogcimdepaaW.PrintWords Go.Proofs.YtggjpogcimdepaaW.PrintLast Go.Proofs.YtggjpogcimdepaaW.PrintMore
attribute [local go_sem] max2_int min2_int max_two min_two max_three min_three max_four min_four   -- for this text's walks alone
set_option linter.unusedVariables false
set_option linter.unusedSimpArgs false

/-! ### impl_sameDiagram: function 68 -/
def impl_sameDiagram.f (k : Nat) (a0_0 : Int) (l0_1 : List (S97)) (a1_0 : Int) (l1_1 : List (S97)) : Option (Bool) := if a0_0 = a1_0 then ((impl_BddNode_92.f k l0_1 l1_1).bind fun t103 => (some t103)) else (some false)
theorem impl_sameDiagram.mono : ∀ a0 a1 a2 a3 k, LeO (impl_sameDiagram.f k a0 a1 a2 a3) (impl_sameDiagram.f (k + 1) a0 a1 a2 a3) := by
  intro a0 a1 a2 a3 k
  unfold impl_sameDiagram.f
  repeat' first
      | (with_reducible exact impl_BddNode_92.mono _ _ _)
      | (with_reducible exact LeO.refl _)
      | (with_reducible exact LeO.none _)
      | (with_reducible refine LeO.ite ?_ ?_)
      | (with_reducible refine LeO.bind ?_ (fun _ => ?_))
      | exact impl_BddNode_92.mono _ _ _
      | exact LeO.none _
      | refine LeO.ite ?_ ?_
      | refine LeO.bind ?_ (fun _ => ?_)
set_option maxHeartbeats 8000000 in
set_option maxRecDepth 100000 in
theorem impl_sameDiagram.calls (k : Nat) (a0_0 : Int) (A0_1 : Option Addr) (c0_1 : Nat) (l0_1 : List (S97)) (a1_0 : Int) (A1_1 : Option Addr) (c1_1 : Nat) (l1_1 : List (S97)) (r : Bool) (w : World) (hr0_1 : Kd.C k97 w A0_1 l0_1.length l0_1) (hc0_1 : l0_1.length ≤ c0_1) (hr1_1 : Kd.C k97 w A1_1 l1_1.length l1_1) (hc1_1 : l1_1.length ≤ c1_1) (h : impl_sameDiagram.f k a0_0 l0_1 a1_0 l1_1 = some r) :
    Calls Try.prog 68 #[.agg #[.int .i64 a0_0, .slice A0_1 l0_1.length c0_1], .agg #[.int .i64 a1_0, .slice A1_1 l1_1.length c1_1]] w fun e w' => e = .returned (.bool r) ∧ Below w.heap.size w w' := by
  have hu29 := Try.underlying29
  have HR0_1 := Aside0.mk hr0_1
  have HC0_1 := Aside0.mk hc0_1
  clear hr0_1 hc0_1
  have HR1_1 := Aside0.mk hr1_1
  have HC1_1 := Aside0.mk hc1_1
  clear hr1_1 hc1_1
  have HB := Aside0.mk (Below.refl w.heap.size w)
  have H : (if a0_0 = a1_0 then ((impl_BddNode_92.f k l0_1 l1_1).bind fun t103 => (some t103)) else (some false)) = some r := h
  clear h
  by_cases c3 : a0_0 = a1_0
  · rw [if_pos c3] at H
    have c3b0 : (a0_0 == a1_0) = true := beq_iff_eq.mpr c3
    have c3b1 : (a0_0 != a1_0) = false := bne_eq_false_iff_eq.mpr c3
    clear c3
    replace H := Option.bind_eq_some_iff.mp H
    obtain ⟨t103, A40, H⟩ := H
    replace H : (some t103) = some r := H
    have A4 := Aside0.mk A40
    clear A40
    obtain rfl := Option.some.inj H
    go_enter Try.func68, Try.ntmps68
    go_wp2_with (first | ((with_reducible refine gate_dst (N := 2) rfl ?_); refine box_event ?hg (N := 2) ?hd (cs := #[.int .i64 a0_0, .slice A0_1 l0_1.length c0_1]) (t := 29) ?hr ?_; (case hd => rfl); (case hg => rfl); (case hr => first | (go_simp; done) | (go_simp; rfl)); intro gb101 hg w5 hbox hb; have n0_ := Aside0.mk (below_step (by repeat (first | (with_reducible first | exact HB.out | apply below_alloc | apply pw_below_drewN | apply below_drew1) | exact HB.out)) hb); have n1_ := Aside0.mk (hbox); have n2_ := Aside0.mk ((by rw [hg]; exact (below_size (by repeat (first | (with_reducible first | exact HB.out | apply below_alloc | apply pw_below_drewN | apply below_drew1) | exact HB.out))) : w.heap.size ≤ gb101)); have n3_ := Aside0.mk ((by rw [hg]; exact (below_size (by repeat (first | (with_reducible first | exact HB.out | apply below_alloc | apply pw_below_drewN | apply below_drew1) | exact HB.out))) : w.heap.size ≤ gb101)); clear HB; have HB := n0_; have BK101 := n1_; have GW101 := n2_; have GE101 := n3_; clear n0_ n1_ n2_ n3_; clear hb hbox hg) | ((with_reducible refine gate_dst (N := 3) rfl ?_); refine box_event ?hg (N := 3) ?hd (cs := #[.int .i64 a1_0, .slice A1_1 l1_1.length c1_1]) (t := 29) ?hr ?_; (case hd => rfl); (case hg => rfl); (case hr => first | (go_simp; done) | (go_simp; rfl)); intro gb102 hg w6 hbox hb; have n0_ := Aside0.mk (blk_below (g := gb101) (o := .cells #[.int .i64 a0_0, .slice A0_1 l0_1.length c0_1] 29 (0, 0)) (by (with_reducible repeat (first | refine blk_drewN ?_ _ | refine blk_drew ?_ | refine blk_alloc ?_ _)); exact BK101.out) hb); have n1_ := Aside0.mk (below_step (by repeat (first | (with_reducible first | exact HB.out | apply below_alloc | apply pw_below_drewN | apply below_drew1 | refine below_set ?_ GE101.out) | exact HB.out)) hb); have n2_ := Aside0.mk (hbox); have n3_ := Aside0.mk ((by rw [hg]; exact (below_size (by repeat (first | (with_reducible first | exact HB.out | apply below_alloc | apply pw_below_drewN | apply below_drew1 | refine below_set ?_ GE101.out) | exact HB.out))) : w.heap.size ≤ gb102)); have n4_ := Aside0.mk ((by rw [hg]; exact (below_size (by repeat (first | (with_reducible first | exact HB.out | apply below_alloc | apply pw_below_drewN | apply below_drew1 | refine below_set ?_ GE101.out) | exact HB.out))) : w.heap.size ≤ gb102)); have n5_ := Aside0.mk ((by rw [hg]; exact Nat.ne_of_lt (blk_lt (g := gb101) (o := .cells #[.int .i64 a0_0, .slice A0_1 l0_1.length c0_1] 29 (0, 0)) (by (with_reducible repeat (first | refine blk_drewN ?_ _ | refine blk_drew ?_ | refine blk_alloc ?_ _)); exact BK101.out)) : gb101 ≠ gb102)); have n6_ := Aside0.mk ((by rw [hg]; exact Nat.ne_of_gt (blk_lt (g := gb101) (o := .cells #[.int .i64 a0_0, .slice A0_1 l0_1.length c0_1] 29 (0, 0)) (by (with_reducible repeat (first | refine blk_drewN ?_ _ | refine blk_drew ?_ | refine blk_alloc ?_ _)); exact BK101.out)) : gb102 ≠ gb101)); clear BK101; clear HB; have BK101 := n0_; have HB := n1_; have BK102 := n2_; have GW102 := n3_; have GE102 := n4_; have NB101_102 := n5_; have NB102_101 := n6_; clear n0_ n1_ n2_ n3_ n4_ n5_ n6_; clear hb hbox hg; have hnb7 := NB101_102.out; have hnc7 := NB102_101.out; have hcz8_0 : w6.cell? ⟨gb101, 0, none⟩ = some (.int .i64 a0_0) := (blk_cell BK101.out 0).trans rfl; have hcz8_1 : w6.cell? ⟨gb101, 1, none⟩ = some (.slice A0_1 l0_1.length c0_1) := (blk_cell BK101.out 1).trans rfl; have hfz8_0 := blk_frozen BK101.out 0; have hfz8_1 := blk_frozen BK101.out 1; have hcz9_0 : w6.cell? ⟨gb102, 0, none⟩ = some (.int .i64 a1_0) := (blk_cell BK102.out 0).trans rfl; have hcz9_1 : w6.cell? ⟨gb102, 1, none⟩ = some (.slice A1_1 l1_1.length c1_1) := (blk_cell BK102.out 1).trans rfl; have hfz9_0 := blk_frozen BK102.out 0; have hfz9_1 := blk_frozen BK102.out 1) | (go_at_call 92; (with_reducible refine (impl_BddNode_92.calls k _ _ l0_1 _ _ l1_1 t103 _ ?side1 ?side2 ?side3 ?side4 A4.out).mono ?_); (case side1 => repeat (first | exact (Kd.C_below HR0_1.out HB.out) | (with_reducible refine Kd.C_alloc ?_ _) | (with_reducible refine Kd.C_drewN ?_ _) | (with_reducible refine Kd.C_drew ?_))); (case side2 => exact HC0_1.out); (case side3 => repeat (first | exact (Kd.C_below HR1_1.out HB.out) | (with_reducible refine Kd.C_alloc ?_ _) | (with_reducible refine Kd.C_drewN ?_ _) | (with_reducible refine Kd.C_drew ?_))); (case side4 => exact HC1_1.out); rintro e w' ⟨rfl, ⟨nd, rfl⟩⟩))
    go_ret
    exact ⟨by first | rfl | (simp [errW_none, errW_some] <;> rfl) | (simp [*, errW_none, errW_some] <;> rfl), by repeat (first | (with_reducible first | exact HB.out | apply below_alloc | apply pw_below_drewN | apply below_drew1 | refine below_set ?_ GE101.out | refine below_set ?_ GE102.out) | exact HB.out)⟩
  · rw [if_neg c3] at H
    have c3b0 : (a0_0 == a1_0) = false := beq_eq_false_iff_ne.mpr c3
    have c3b1 : (a0_0 != a1_0) = true := bne_iff_ne.mpr c3
    obtain rfl := Option.some.inj H
    go_enter Try.func68, Try.ntmps68
    go_wp2_with (first | ((with_reducible refine gate_dst (N := 2) rfl ?_); refine box_event ?hg (N := 2) ?hd (cs := #[.int .i64 a0_0, .slice A0_1 l0_1.length c0_1]) (t := 29) ?hr ?_; (case hd => rfl); (case hg => rfl); (case hr => first | (go_simp; done) | (go_simp; rfl)); intro gb101 hg w10 hbox hb; have n0_ := Aside0.mk (below_step (by repeat (first | (with_reducible first | exact HB.out | apply below_alloc | apply pw_below_drewN | apply below_drew1) | exact HB.out)) hb); have n1_ := Aside0.mk (hbox); have n2_ := Aside0.mk ((by rw [hg]; exact (below_size (by repeat (first | (with_reducible first | exact HB.out | apply below_alloc | apply pw_below_drewN | apply below_drew1) | exact HB.out))) : w.heap.size ≤ gb101)); have n3_ := Aside0.mk ((by rw [hg]; exact (below_size (by repeat (first | (with_reducible first | exact HB.out | apply below_alloc | apply pw_below_drewN | apply below_drew1) | exact HB.out))) : w.heap.size ≤ gb101)); clear HB; have HB := n0_; have BK101 := n1_; have GW101 := n2_; have GE101 := n3_; clear n0_ n1_ n2_ n3_; clear hb hbox hg) | ((with_reducible refine gate_dst (N := 3) rfl ?_); refine box_event ?hg (N := 3) ?hd (cs := #[.int .i64 a1_0, .slice A1_1 l1_1.length c1_1]) (t := 29) ?hr ?_; (case hd => rfl); (case hg => rfl); (case hr => first | (go_simp; done) | (go_simp; rfl)); intro gb102 hg w11 hbox hb; have n0_ := Aside0.mk (blk_below (g := gb101) (o := .cells #[.int .i64 a0_0, .slice A0_1 l0_1.length c0_1] 29 (0, 0)) (by (with_reducible repeat (first | refine blk_drewN ?_ _ | refine blk_drew ?_ | refine blk_alloc ?_ _)); exact BK101.out) hb); have n1_ := Aside0.mk (below_step (by repeat (first | (with_reducible first | exact HB.out | apply below_alloc | apply pw_below_drewN | apply below_drew1 | refine below_set ?_ GE101.out) | exact HB.out)) hb); have n2_ := Aside0.mk (hbox); have n3_ := Aside0.mk ((by rw [hg]; exact (below_size (by repeat (first | (with_reducible first | exact HB.out | apply below_alloc | apply pw_below_drewN | apply below_drew1 | refine below_set ?_ GE101.out) | exact HB.out))) : w.heap.size ≤ gb102)); have n4_ := Aside0.mk ((by rw [hg]; exact (below_size (by repeat (first | (with_reducible first | exact HB.out | apply below_alloc | apply pw_below_drewN | apply below_drew1 | refine below_set ?_ GE101.out) | exact HB.out))) : w.heap.size ≤ gb102)); have n5_ := Aside0.mk ((by rw [hg]; exact Nat.ne_of_lt (blk_lt (g := gb101) (o := .cells #[.int .i64 a0_0, .slice A0_1 l0_1.length c0_1] 29 (0, 0)) (by (with_reducible repeat (first | refine blk_drewN ?_ _ | refine blk_drew ?_ | refine blk_alloc ?_ _)); exact BK101.out)) : gb101 ≠ gb102)); have n6_ := Aside0.mk ((by rw [hg]; exact Nat.ne_of_gt (blk_lt (g := gb101) (o := .cells #[.int .i64 a0_0, .slice A0_1 l0_1.length c0_1] 29 (0, 0)) (by (with_reducible repeat (first | refine blk_drewN ?_ _ | refine blk_drew ?_ | refine blk_alloc ?_ _)); exact BK101.out)) : gb102 ≠ gb101)); clear BK101; clear HB; have BK101 := n0_; have HB := n1_; have BK102 := n2_; have GW102 := n3_; have GE102 := n4_; have NB101_102 := n5_; have NB102_101 := n6_; clear n0_ n1_ n2_ n3_ n4_ n5_ n6_; clear hb hbox hg; have hnb12 := NB101_102.out; have hnc12 := NB102_101.out; have hcz13_0 : w11.cell? ⟨gb101, 0, none⟩ = some (.int .i64 a0_0) := (blk_cell BK101.out 0).trans rfl; have hcz13_1 : w11.cell? ⟨gb101, 1, none⟩ = some (.slice A0_1 l0_1.length c0_1) := (blk_cell BK101.out 1).trans rfl; have hfz13_0 := blk_frozen BK101.out 0; have hfz13_1 := blk_frozen BK101.out 1; have hcz14_0 : w11.cell? ⟨gb102, 0, none⟩ = some (.int .i64 a1_0) := (blk_cell BK102.out 0).trans rfl; have hcz14_1 : w11.cell? ⟨gb102, 1, none⟩ = some (.slice A1_1 l1_1.length c1_1) := (blk_cell BK102.out 1).trans rfl; have hfz14_0 := blk_frozen BK102.out 0; have hfz14_1 := blk_frozen BK102.out 1))
    go_ret
    exact ⟨by first | rfl | (simp [errW_none, errW_some] <;> rfl) | (simp [*, errW_none, errW_some] <;> rfl), by repeat (first | (with_reducible first | exact HB.out | apply below_alloc | apply pw_below_drewN | apply below_drew1 | refine below_set ?_ GE101.out | refine below_set ?_ GE102.out) | exact HB.out)⟩

end Go.Proofs.Ytggjpogcimdepaa.Print
namespace Go.Proofs.Ytggjpogcimdepaa.Man
open Go.RowKit Go.Proofs.YtggjpogcimdepaaW.PrintWords Go.Proofs.YtggjpogcimdepaaW.PrintLast Go.Proofs.YtggjpogcimdepaaW.PrintMore Go.Proofs.Ytggjpogcimdepaa.Print Go.Proofs.Ytggjpogcimdepaa.XEv Go.Proofs.Ytggjpogcimdepaa.DiagA
set_option linter.unusedVariables false
set_option linter.unusedSimpArgs false
theorem ev_eq {α : Type} {g : Nat → Option α} {r q : α} (h : Ev g r) (h2 : Ev g q) : r = q := by
  obtain ⟨K, h⟩ := h
  obtain ⟨K2, h2⟩ := h2
  have a := h (max K K2) (Nat.le_max_left _ _)
  have b := h2 (max K K2) (Nat.le_max_right _ _)
  rw [a] at b
  cases b
  rfl
theorem good_len {k : Nat} {vars root : Int} {ns : List S97} (h : impl_IsDiagram.f k vars root ns = some true) : ns.length ≤ 63 := by
  unfold impl_IsDiagram.f at h
  obtain ⟨t, _, h⟩ := Option.bind_eq_some_iff.1 h
  have hj : impl_IsDiagram.j0 k vars true root ns ≠ some true := by
    cases k with
    | zero => simp [impl_IsDiagram.j0]
    | succ k => rw [impl_IsDiagram.j0, if_pos rfl]; simp
  by_cases ht : t = true
  · rw [if_pos ht] at h
    by_cases hl : (ns.length : Int) > 63
    · rw [if_pos hl] at h
      exact absurd h hj
    · omega
  · rw [if_neg ht] at h
    exact absurd h hj
theorem good_of {k : Nat} {vars root : Int} {ns : List S97} (h : impl_IsDiagram.f k vars root ns = some true) : DiagA.Good vars root ns := by
  obtain ⟨r, hr, hi⟩ := implGood vars root ns (by have := good_len h; omega)
  have := ev_eq hr (Ev.of (fun k => impl_IsDiagram.mono vars root ns k) h)
  exact hi.1 this
/-- A call of planned, for a function value that gives its values from w0 on. -/
def PD (w0 : World) (vars : Int) (fv : Value) (nr : List S97) (r : Int) : Prop :=
  ∀ W : World, Below w0.heap.size w0 W → Calls Try.prog 69 #[.int .i64 vars, fv] W fun e w' => ∃ v1_ : Value, e = .returned (.agg #[.int .i64 r, v1_]) ∧ Kd.R k97 97 w' W.heap.size (fun k => W.heap.size ≤ k) v1_ nr ∧ Below W.heap.size W w'
theorem PD.use {w0 : World} {vars : Int} {fv : Value} {nr : List S97} {r : Int} (h : Hid (PD w0 vars fv nr r)) (W : World) (hW : Below w0.heap.size w0 W) : Calls Try.prog 69 #[.int .i64 vars, fv] W fun e w' => ∃ v1_ : Value, e = .returned (.agg #[.int .i64 r, v1_]) ∧ Kd.R k97 97 w' W.heap.size (fun k => W.heap.size ≤ k) v1_ nr ∧ Below W.heap.size W w' := h.out W hW
theorem pd_ (w0 : World) (vars : Int) (g : Nat) (fs lb : Array Value) (eg : ∀ args w, (callFunc g args).run Try.prog w = .ok (.enter g args) w) (p : Int → Bool) (HF : FV w0 g fs lb p) (h0 : 0 ≤ vars) (h6 : vars ≤ 6) (nr : List S97) (r : Int) (hr : bplan vars p 8 1 0 [] = (nr, r)) : PD w0 vars (.func (.func g) fs lb) nr r :=
  fun W hW => planned_ vars g fs lb eg p W (Lib.hid (FV.later HF hW)) h0 h6 nr r (Lib.hid hr)
theorem eVal : ∀ args w, (callFunc 64 args).run Try.prog w = .ok (.enter 64 args) w := enters_of Try.func64 (by kernel_rfl) rfl
theorem drewP (w : World) : Below w.heap.size w w.drew := below_drew (Below.refl _ _)
theorem box2 {w w1 : World} {o1 o2 : Obj} (h : Below ((w.alloc o1).alloc o2).heap.size ((w.alloc o1).alloc o2) w1) : w1.heap[w.heap.size]? = some o1 ∧ w1.heap[w.heap.size + 1]? = some o2 ∧ Below w.heap.size w w1 := by
  have h1 : ((w.alloc o1).alloc o2).heap[w.heap.size]? = some o1 := ((below_alloc (Below.refl _ _) o2).block w.heap.size (by simp)).trans (heap_alloc_new w o1)
  have h2 : ((w.alloc o1).alloc o2).heap[w.heap.size + 1]? = some o2 := by have := heap_alloc_new (w.alloc o1) o2; simpa using this
  exact ⟨(h.block _ (by simp; omega)).trans h1, (h.block _ (by simp)).trans h2, pchain (below_alloc (below_alloc (Below.refl _ _) o1) o2) h⟩
theorem box1 {w w1 : World} {o1 : Obj} (h : Below (w.alloc o1).heap.size (w.alloc o1) w1) : w1.heap[w.heap.size]? = some o1 ∧ Below w.heap.size w w1 :=
  ⟨(h.block _ (by simp)).trans (heap_alloc_new w o1), pchain (below_alloc (Below.refl _ _) o1) h⟩
theorem cells2 {w : World} {g t : Nat} {a b : Value} (h : w.heap[g]? = some (.cells #[a, b] t (0, 0))) : w.cell? ⟨g, 0, none⟩ = some a ∧ w.cell? ⟨g, 1, none⟩ = some b ∧ w.frozen? ⟨g, 0, none⟩ = false ∧ w.frozen? ⟨g, 1, none⟩ = false :=
  ⟨(blk_cell h 0).trans rfl, (blk_cell h 1).trans rfl, blk_frozen h 0, blk_frozen h 1⟩
theorem res2 {w : World} {g t : Nat} {a b : Value} (h : w.heap[g]? = some (.cells #[a, b] t (0, 0))) (x y : Value) : (w.setCell ⟨g, 0, none⟩ x).cell? ⟨g, 0, none⟩ = some x ∧ ((w.setCell ⟨g, 0, none⟩ x).setCell ⟨g, 1, none⟩ y).cell? ⟨g, 1, none⟩ = some y :=
  ⟨(blk_cell (blk_set h 0 x) 0).trans rfl, (blk_cell (blk_set (blk_set h 0 x) 1 y) 1).trans rfl⟩
/-- The method value d.valueAt. -/
theorem fv_value {vars root : Int} {ns : List S97} (hg : DiagA.Good vars root ns) (A : Option Addr) (c : Nat) (w : World) (hC : Kd.C k97 w A ns.length ns) (hc : ns.length ≤ c) : FV w 64 #[.agg #[.int .i64 root, .slice A ns.length c]] #[] (dval ns root) := by
  intro W hW i
  obtain ⟨k, hk⟩ := Ev.rounds (implVal vars root ns i hg)
  exact impl_Diagram_valueAt.calls k root A c ns i _ W (Kd.C_below hC hW) hc hk
set_option maxHeartbeats 2000000 in
theorem red_no (vars root : Int) (A : Option Addr) (c : Nat) (ns : List S97) (k : Nat) (hk : Hid (impl_IsDiagram.f k vars root ns = some false)) (w : World) (hC : Kd.C k97 w A ns.length ns) (hc : ns.length ≤ c) :
    Calls Try.prog 37 #[.int .i64 vars, .agg #[.int .i64 root, .slice A ns.length c]] w fun e w' => ∃ v1_ : Value, e = .returned (.tuple #[.agg #[.int .i64 0, v1_], .bool false]) ∧ Kd.R k97 97 w' w.heap.size (fun _ => True) v1_ [] ∧ Below w.heap.size w w' := by
  have HC := Lib.hid hC
  clear hC
  go_enter Try.func37, Try.ntmps37
  go_wp2_with (first | (go_at_call 17; (with_reducible refine (impl_IsDiagram.calls k _ _ _ _ _ false _ ?hC hc hk.out).mono ?_); (case hC => repeat (first | exact HC.out | (with_reducible refine Kd.C_alloc ?_ _) | (with_reducible refine Kd.C_drewN ?_ _) | (with_reducible refine Kd.C_drew ?_))); rintro e w1 ⟨rfl, hb1⟩; obtain ⟨x1, x2, hbb⟩ := box2 hb1; obtain ⟨p0, p1, p2, p3⟩ := cells2 x1; obtain ⟨q0, q1, q2, q3⟩ := cells2 x2; have X1 := Lib.hid x1; have X2 := Lib.hid x2; have HBB := Lib.hid hbb; clear x1 x2 hb1 hbb))
  obtain ⟨s0, s1⟩ := res2 X2.out (.int .i64 0) (.slice none 0 0)
  refine bodyPost_ret (v := .tuple #[.agg #[.int .i64 0, .slice none 0 0], .bool false]) (by simp [results, Try.results37, go_sem, s0, s1]) rfl ⟨_, rfl, Kd.R_nil k97 _ _ _ _, below_set (below_set HBB.out (by omega)) (by omega)⟩
set_option maxHeartbeats 2000000 in
theorem red_yes (vars root : Int) (A : Option Addr) (c : Nat) (ns : List S97) (k : Nat) (hk : Hid (impl_IsDiagram.f k vars root ns = some true)) (nr : List S97) (r : Int) (hr : Hid (bplan vars (dval ns root) 8 1 0 [] = (nr, r))) (w : World) (hC : Kd.C k97 w A ns.length ns) (hc : ns.length ≤ c) :
    Calls Try.prog 37 #[.int .i64 vars, .agg #[.int .i64 root, .slice A ns.length c]] w fun e w' => ∃ v1_ : Value, e = .returned (.tuple #[.agg #[.int .i64 r, v1_], .bool true]) ∧ Kd.R k97 97 w' w.heap.size (fun _ => True) v1_ nr ∧ Below w.heap.size w w' := by
  have hmf : ∀ (fn : Fn) (first cap : Array Value) (w : World), (Instr.makeFunc fn first cap).run Try.prog w = .ok (.func fn first cap) w := fun _ _ _ _ => rfl
  have hg := good_of hk.out
  have HP := Lib.hid (pd_ w vars 64 #[.agg #[.int .i64 root, .slice A ns.length c]] #[] eVal (dval ns root) (fv_value hg A c w hC hc) hg.1 hg.2.1 nr r hr.out)
  have HC := Lib.hid hC
  clear hC hg
  go_enter Try.func37, Try.ntmps37
  go_wp2_with (first | (go_at_call 17; (with_reducible refine (impl_IsDiagram.calls k _ _ _ _ _ true _ ?hC hc hk.out).mono ?_); (case hC => repeat (first | exact HC.out | (with_reducible refine Kd.C_alloc ?_ _) | (with_reducible refine Kd.C_drewN ?_ _) | (with_reducible refine Kd.C_drew ?_))); rintro e w1 ⟨rfl, hb1⟩; obtain ⟨x1, x2, hbb⟩ := box2 hb1; obtain ⟨p0, p1, p2, p3⟩ := cells2 x1; obtain ⟨q0, q1, q2, q3⟩ := cells2 x2; have X1 := Lib.hid x1; have X2 := Lib.hid x2; have HBB := Lib.hid hbb; clear x1 x2 hb1 hbb))
  (with_reducible refine (PD.use HP _ HBB.out).mono ?_)
  rintro e w2 ⟨v1, rfl, hR, hb2⟩
  obtain ⟨A2, c2, rfl⟩ := Kd.R_slice hR
  have y2 := (hb2.block _ (blk_lt X2.out)).trans X2.out
  obtain ⟨q0, q1, q2, q3⟩ := cells2 y2
  have Y2 := Lib.hid y2
  have HR := Lib.hid hR
  have HB2 := Lib.hid (pchain HBB.out hb2)
  clear y2 hR hb2
  go_wp2_with fail
  obtain ⟨s0, s1⟩ := res2 Y2.out (.int .i64 r) (.slice A2 nr.length c2)
  refine bodyPost_ret (v := .tuple #[.agg #[.int .i64 r, .slice A2 nr.length c2], .bool true]) (by simp [results, Try.results37, go_sem, s0, s1]) rfl ⟨_, rfl, ?_, below_set (below_set HB2.out (by omega)) (by omega)⟩
  have hlt := blk_lt X2.out
  have hle := HBB.out.size
  refine Kd.R_mono (ok' := fun _ => True) (Kd.R_lower (base' := w.heap.size) (Kd.R_far (p := ⟨w.heap.size + 1, 1, none⟩) (Kd.R_far (p := ⟨w.heap.size + 1, 0, none⟩) HR.out ?_ _) ?_ _) hle) (fun _ _ => trivial)
  all_goals
    intro k hk
    show k ≠ w.heap.size + 1
    omega
set_option maxHeartbeats 2000000 in
theorem isr_no (vars root : Int) (A : Option Addr) (c : Nat) (ns : List S97) (k : Nat) (hk : Hid (impl_IsDiagram.f k vars root ns = some false)) (w : World) (hC : Kd.C k97 w A ns.length ns) (hc : ns.length ≤ c) :
    Calls Try.prog 35 #[.int .i64 vars, .agg #[.int .i64 root, .slice A ns.length c]] w fun e w' => e = .returned (.tuple #[.bool false, .bool false]) ∧ Below w.heap.size w w' := by
  have HC := Lib.hid hC
  clear hC
  go_enter Try.func35, Try.ntmps35
  go_wp2_with (first | (go_at_call 17; (with_reducible refine (impl_IsDiagram.calls k _ _ _ _ _ false _ ?hC hc hk.out).mono ?_); (case hC => repeat (first | exact HC.out | (with_reducible refine Kd.C_alloc ?_ _) | (with_reducible refine Kd.C_drewN ?_ _) | (with_reducible refine Kd.C_drew ?_))); rintro e w1 ⟨rfl, hb1⟩))
  go_ret2
  exact ⟨rfl, (box1 hb1).2⟩
set_option maxHeartbeats 2000000 in
theorem isr_yes (vars root : Int) (A : Option Addr) (c : Nat) (ns : List S97) (k : Nat) (hk : Hid (impl_IsDiagram.f k vars root ns = some true)) (nr : List S97) (r : Int) (hr : Hid (bplan vars (dval ns root) 8 1 0 [] = (nr, r))) (b : Bool) (k2 : Nat) (hk2 : Hid (impl_sameDiagram.f k2 root ns r nr = some b)) (w : World) (hC : Kd.C k97 w A ns.length ns) (hc : ns.length ≤ c) :
    Calls Try.prog 35 #[.int .i64 vars, .agg #[.int .i64 root, .slice A ns.length c]] w fun e w' => e = .returned (.tuple #[.bool b, .bool true]) ∧ Below w.heap.size w w' := by
  have hmf : ∀ (fn : Fn) (first cap : Array Value) (w : World), (Instr.makeFunc fn first cap).run Try.prog w = .ok (.func fn first cap) w := fun _ _ _ _ => rfl
  have hg := good_of hk.out
  have HP := Lib.hid (pd_ w vars 64 #[.agg #[.int .i64 root, .slice A ns.length c]] #[] eVal (dval ns root) (fv_value hg A c w hC hc) hg.1 hg.2.1 nr r hr.out)
  have HC := Lib.hid hC
  clear hC hg
  go_enter Try.func35, Try.ntmps35
  go_wp2_with (first | (go_at_call 17; (with_reducible refine (impl_IsDiagram.calls k _ _ _ _ _ true _ ?hC hc hk.out).mono ?_); (case hC => repeat (first | exact HC.out | (with_reducible refine Kd.C_alloc ?_ _) | (with_reducible refine Kd.C_drewN ?_ _) | (with_reducible refine Kd.C_drew ?_))); rintro e w1 ⟨rfl, hb1⟩; obtain ⟨x1, hbb⟩ := box1 hb1; obtain ⟨p0, p1, p2, p3⟩ := cells2 x1; have X1 := Lib.hid x1; have HBB := Lib.hid hbb; clear x1 hb1 hbb))
  go_region_with (first | (go_at_call 69; (with_reducible refine (PD.use HP _ ?hB).mono ?_); (case hB => first | exact HBB.out | exact below_drew HBB.out | exact pw_below_drewN HBB.out _); rintro e w2 ⟨v1, rfl, hR, hb2⟩; obtain ⟨A2, c2, rfl⟩ := Kd.R_slice hR; have x5 := (hb2.block _ (blk_lt X1.out)).trans X1.out; obtain ⟨p4, p5, p6, p7⟩ := cells2 x5; have HR := Lib.hid (Kd.R_reads' hR); have HB2 := Lib.hid hb2; clear x5 hR hb2) | (go_at_call 68; (with_reducible refine (impl_sameDiagram.calls k2 root A c ns r A2 c2 nr b _ ?h1 hc ?h2 ?h3 hk2.out).mono ?_); (case h1 => exact Kd.C_below (Kd.C_below (Kd.C_below HC.out HBB.out) (drewP _)) HB2.out); (case h2 => exact HR.out.2.2); (case h3 => exact HR.out.2.1); rintro e w3 ⟨rfl, hb3⟩))
  all_goals
    go_wp2_with fail
    go_ret2
    exact ⟨rfl, pchain (pchain (pchain HBB.out (drewP _)) HB2.out) hb3⟩
end Go.Proofs.Ytggjpogcimdepaa.Man
namespace Go.Proofs.Ytggjpogcimdepaa.Man
open Go.RowKit Go.Proofs.YtggjpogcimdepaaW.PrintWords Go.Proofs.YtggjpogcimdepaaW.PrintLast Go.Proofs.YtggjpogcimdepaaW.PrintMore Go.Proofs.Ytggjpogcimdepaa.Print Go.Proofs.Ytggjpogcimdepaa.XEv Go.Proofs.Ytggjpogcimdepaa.DiagA
set_option linter.unusedVariables false
set_option linter.unusedSimpArgs false
theorem box3 {w w1 : World} {o1 o2 o3 : Obj} (h : Below (((w.alloc o1).alloc o2).alloc o3).heap.size (((w.alloc o1).alloc o2).alloc o3) w1) : w1.heap[w.heap.size]? = some o1 ∧ w1.heap[w.heap.size + 1]? = some o2 ∧ w1.heap[w.heap.size + 1 + 1]? = some o3 ∧ Below w.heap.size w w1 := by
  obtain ⟨h3, hb⟩ := box1 h
  obtain ⟨h1, h2, hb2⟩ := box2 hb
  exact ⟨h1, h2, by simpa using h3, hb2⟩
theorem box4 {w w1 : World} {o1 o2 o3 o4 : Obj} (h : Below ((((w.alloc o1).alloc o2).alloc o3).alloc o4).heap.size ((((w.alloc o1).alloc o2).alloc o3).alloc o4) w1) : w1.heap[w.heap.size]? = some o1 ∧ w1.heap[w.heap.size + 1]? = some o2 ∧ w1.heap[w.heap.size + 1 + 1]? = some o3 ∧ w1.heap[w.heap.size + 1 + 1 + 1]? = some o4 ∧ Below w.heap.size w w1 := by
  obtain ⟨h3, h4, hb⟩ := box2 h
  obtain ⟨h1, h2, _⟩ := box2 hb
  exact ⟨h1, h2, by simpa using h3, by simpa using h4, pchain (below_alloc (below_alloc (Below.refl _ _) o1) o2) hb⟩
/-- Calls of valueAt from a world on. -/
def VL (w : World) (v : Value) (p : Int → Bool) : Prop := ∀ W : World, Below w.heap.size w W → ∀ i : Int, Calls Try.prog 64 #[v, .int .i64 i] W fun e w' => e = .returned (.bool (p i)) ∧ Below W.heap.size W w'
theorem VL.use {w : World} {v : Value} {p : Int → Bool} (h : Hid (VL w v p)) (W : World) (hW : Below w.heap.size w W) (i : Int) {b : Bool} (hb : Hid (p i = b)) : Calls Try.prog 64 #[v, .int .i64 i] W fun e w' => e = .returned (.bool b) ∧ Below W.heap.size W w' := by
  have := h.out W hW i
  rw [hb.out] at this
  exact this
theorem VL.later {w w1 : World} {v : Value} {p : Int → Bool} (h : VL w v p) (hb : Below w.heap.size w w1) : VL w1 v p := fun W hW i => h W (pchain hb hW) i
theorem vl_ {vars root : Int} {ns : List S97} (hg : DiagA.Good vars root ns) (A : Option Addr) (c : Nat) (w : World) (hC : Kd.C k97 w A ns.length ns) (hc : ns.length ≤ c) : VL w (.agg #[.int .i64 root, .slice A ns.length c]) (dval ns root) := fun W hW i => fv_value hg A c w hC hc W hW i
/-- Calls of the joining function. -/
def OC (G : Nat) (o : Bool → Bool → Bool) : Prop := ∀ (W : World) (a b : Bool), Calls Try.prog G #[.bool a, .bool b] W fun e w' => e = .returned (.bool (o a b)) ∧ w' = W
theorem OC.use {G : Nat} {o : Bool → Bool → Bool} (h : Hid (OC G o)) (W : World) {a b r : Bool} (hr : Hid (o a b = r)) : Calls Try.prog G #[.bool a, .bool b] W fun e w' => e = .returned (.bool r) ∧ w' = W := by
  have := h.out W a b
  rw [hr.out] at this
  exact this
set_option maxHeartbeats 4000000 in
theorem pair_fv (w : World) (G x y z : Nat) (eG : ∀ args w, (callFunc G args).run Try.prog w = .ok (.enter G args) w) (o : Bool → Bool → Bool) (HO : Hid (OC G o)) (root root2 : Int) (A A2 : Option Addr) (c c2 : Nat) (ns ns2 : List S97) (p q : Int → Bool)
    (HP : Hid (VL w (.agg #[.int .i64 root, .slice A ns.length c]) p)) (HQ : Hid (VL w (.agg #[.int .i64 root2, .slice A2 ns2.length c2]) q)) (hx : w.cell? ⟨x, 0, none⟩ = some (.func (.func G) #[] #[]))
    (hy : w.heap[y]? = some (.cells #[.int .i64 root, .slice A ns.length c] 29 (0, 0))) (hz : w.heap[z]? = some (.cells #[.int .i64 root2, .slice A2 ns2.length c2] 29 (0, 0))) :
    FV w 94 #[] #[.pointer (some ⟨x, 0, none⟩), .pointer (some ⟨y, 0, none⟩), .pointer (some ⟨z, 0, none⟩)] (fun i => o (p i) (q i)) := by
  intro W hW i
  obtain ⟨a, ha⟩ : ∃ a, Hid (p i = a) := ⟨_, Lib.hid rfl⟩
  obtain ⟨b, hb⟩ : ∃ b, Hid (q i = b) := ⟨_, Lib.hid rfl⟩
  dsimp only
  rw [ha.out, hb.out]
  obtain ⟨r, hr⟩ : ∃ r, Hid (o a b = r) := ⟨_, Lib.hid rfl⟩
  rw [hr.out]
  show Calls _ _ #[_, _, _, _] _ _
  obtain ⟨y0, y1, _, _⟩ := cells2 hy
  obtain ⟨z0, z1, _, _⟩ := cells2 hz
  have HF := Lib.hid (show ∀ w', Below w.heap.size w w' → w'.cell? ⟨x, 0, none⟩ = some (.func (.func G) #[] #[]) ∧ w'.cell? ⟨y, 0, none⟩ = some (.int .i64 root) ∧ w'.cell? ⟨y, 1, none⟩ = some (.slice A ns.length c) ∧ w'.cell? ⟨z, 0, none⟩ = some (.int .i64 root2) ∧ w'.cell? ⟨z, 1, none⟩ = some (.slice A2 ns2.length c2) from fun w' hb' => ⟨pw_cell_below hb' hx, pw_cell_below hb' y0, pw_cell_below hb' y1, pw_cell_below hb' z0, pw_cell_below hb' z1⟩)
  obtain ⟨m1, m2, m3, m4, m5⟩ := HF.out W hW
  have HW := Lib.hid hW
  have HB0 := Lib.hid (drewP W)
  clear hx hy hz y0 y1 z0 z1 hW
  go_enter Try.func94, Try.ntmps94
  go_wp2_with fail
  go_region_held3 (fun w' => w'.cell? ⟨x, 0, none⟩ = some (.func (.func G) #[] #[]) ∧ w'.cell? ⟨y, 0, none⟩ = some (.int .i64 root) ∧ w'.cell? ⟨y, 1, none⟩ = some (.slice A ns.length c) ∧ w'.cell? ⟨z, 0, none⟩ = some (.int .i64 root2) ∧ w'.cell? ⟨z, 1, none⟩ = some (.slice A2 ns2.length c2)) (go_keep) (first | (go_at_call 64; first | ((with_reducible refine (VL.use HP _ ?hB _ ha).mono ?_); (case hB => first | exact pchain HW.out HBc.out | exact pchain HW.out HB0.out); rintro e w2 ⟨rfl, hb2⟩; (first | (have HBd := Lib.hid (pchain HBc.out hb2); obtain ⟨m1, m2, m3, m4, m5⟩ := HF.out _ (pchain HW.out HBd.out)) | (have HBc := Lib.hid (pchain HB0.out hb2); obtain ⟨m1, m2, m3, m4, m5⟩ := HF.out _ (pchain HW.out HBc.out))); clear hb2) | ((with_reducible refine (VL.use HQ _ ?hB _ hb).mono ?_); (case hB => first | exact pchain HW.out HBc.out | exact pchain HW.out HB0.out); rintro e w2 ⟨rfl, hb2⟩; (first | (have HBd := Lib.hid (pchain HBc.out hb2); obtain ⟨m1, m2, m3, m4, m5⟩ := HF.out _ (pchain HW.out HBd.out)) | (have HBc := Lib.hid (pchain HB0.out hb2); obtain ⟨m1, m2, m3, m4, m5⟩ := HF.out _ (pchain HW.out HBc.out))); clear hb2)) | (go_at_fn G; (with_reducible refine (OC.use HO _ hr).mono ?_); rintro e w3 ⟨rfl, rfl⟩))
  all_goals
    go_wp2_with fail
    go_ret
    exact ⟨rfl, HBd.out⟩
theorem eClo : ∀ args w, (callFunc 94 args).run Try.prog w = .ok (.enter 94 args) w := enters_of Try.func94 (by kernel_rfl) rfl
section
variable (vars root root2 : Int) (A A2 : Option Addr) (c c2 : Nat) (ns ns2 : List S97) (G : Nat) (o : Bool → Bool → Bool)
set_option maxHeartbeats 2000000 in
/-- The first is no diagram. -/
theorem pair_n1 (k : Nat) (hk : Hid (impl_IsDiagram.f k vars root ns = some false)) (w : World) (hC : Kd.C k97 w A ns.length ns) (hc : ns.length ≤ c) :
    Calls Try.prog 72 #[.int .i64 vars, .agg #[.int .i64 root, .slice A ns.length c], .agg #[.int .i64 root2, .slice A2 ns2.length c2], .func (.func G) #[] #[]] w fun e w' => ∃ v1_ : Value, e = .returned (.tuple #[.agg #[.int .i64 0, v1_], .bool false]) ∧ Kd.R k97 97 w' w.heap.size (fun _ => True) v1_ [] ∧ Below w.heap.size w w' := by
  have HC := Lib.hid hC
  clear hC
  go_enter Try.func72, Try.ntmps72
  go_wp2_with (first | ((with_reducible refine gate_callee (f := 17) rfl ?_); refine goesL_ (some 12) rfl rfl Try.func17 (by kernel_rfl) rfl #[.int .i64 vars, .agg #[.int .i64 root, .slice A ns.length c]] rfl (by (try simp only [List.map_toArray, List.map_cons, List.map_nil]); first | done | rfl) ?_; (with_reducible refine (impl_IsDiagram.calls k _ _ _ _ _ false _ ?hC hc hk.out).mono ?_); (case hC => repeat (first | exact HC.out | (with_reducible refine Kd.C_alloc ?_ _) | (with_reducible refine Kd.C_drewN ?_ _) | (with_reducible refine Kd.C_drew ?_))); rintro e w1 ⟨rfl, hb1⟩; refine ⟨_, rfl, ?_⟩; obtain ⟨x1, x2, x3, x4, hbb⟩ := box4 hb1; obtain ⟨q0, q1, q2, q3⟩ := cells2 x4; have X4 := Lib.hid x4; have HBB := Lib.hid hbb; clear x1 x2 x3 x4 hb1 hbb))
  obtain ⟨s0, s1⟩ := res2 X4.out (.int .i64 0) (.slice none 0 0)
  refine bodyPost_ret (v := .tuple #[.agg #[.int .i64 0, .slice none 0 0], .bool false]) (by simp [results, Try.results72, go_sem, s0, s1]) rfl ⟨_, rfl, Kd.R_nil k97 _ _ _ _, below_set (below_set HBB.out (by omega)) (by omega)⟩
set_option maxHeartbeats 2000000 in
/-- The second is none. -/
theorem pair_n2 (k : Nat) (hk : Hid (impl_IsDiagram.f k vars root ns = some true)) (k2 : Nat) (hk2 : Hid (impl_IsDiagram.f k2 vars root2 ns2 = some false)) (w : World) (hC : Kd.C k97 w A ns.length ns) (hc : ns.length ≤ c) (hC2 : Kd.C k97 w A2 ns2.length ns2) (hc2 : ns2.length ≤ c2) :
    Calls Try.prog 72 #[.int .i64 vars, .agg #[.int .i64 root, .slice A ns.length c], .agg #[.int .i64 root2, .slice A2 ns2.length c2], .func (.func G) #[] #[]] w fun e w' => ∃ v1_ : Value, e = .returned (.tuple #[.agg #[.int .i64 0, v1_], .bool false]) ∧ Kd.R k97 97 w' w.heap.size (fun _ => True) v1_ [] ∧ Below w.heap.size w w' := by
  have HC := Lib.hid hC
  have HC2 := Lib.hid hC2
  clear hC hC2
  go_enter Try.func72, Try.ntmps72
  go_wp2_with (first | ((with_reducible refine gate_callee (f := 17) rfl ?_); refine goesL_ (some 12) rfl rfl Try.func17 (by kernel_rfl) rfl #[.int .i64 vars, .agg #[.int .i64 root, .slice A ns.length c]] rfl (by (try simp only [List.map_toArray, List.map_cons, List.map_nil]); first | done | rfl) ?_; (with_reducible refine (impl_IsDiagram.calls k _ _ _ _ _ true _ ?hC hc hk.out).mono ?_); (case hC => repeat (first | exact HC.out | (with_reducible refine Kd.C_alloc ?_ _) | (with_reducible refine Kd.C_drewN ?_ _) | (with_reducible refine Kd.C_drew ?_))); rintro e w1 ⟨rfl, hb1⟩; refine ⟨_, rfl, ?_⟩; obtain ⟨x1, x2, x3, x4, hbb⟩ := box4 hb1; obtain ⟨p0, p1, p2, p3⟩ := cells2 x2; have X1 := Lib.hid x1; have X2 := Lib.hid x2; have X3 := Lib.hid x3; have X4 := Lib.hid x4; have HBB := Lib.hid hbb; clear x1 x2 x3 x4 hb1 hbb) | (go_at_call 17; (with_reducible refine (impl_IsDiagram.calls k2 _ _ _ _ _ false _ ?hC2 hc2 hk2.out).mono ?_); (case hC2 => exact Kd.C_below HC2.out HBB.out); rintro e w2 ⟨rfl, hb2⟩; have y4 := (hb2.block _ (blk_lt X4.out)).trans X4.out; obtain ⟨q0, q1, q2, q3⟩ := cells2 y4; have Y4 := Lib.hid y4; have HBD := Lib.hid (pchain HBB.out hb2); clear y4 hb2))
  obtain ⟨s0, s1⟩ := res2 Y4.out (.int .i64 0) (.slice none 0 0)
  refine bodyPost_ret (v := .tuple #[.agg #[.int .i64 0, .slice none 0 0], .bool false]) (by simp [results, Try.results72, go_sem, s0, s1]) rfl ⟨_, rfl, Kd.R_nil k97 _ _ _ _, below_set (below_set HBD.out (by omega)) (by omega)⟩
set_option maxHeartbeats 4000000 in
/-- Both are. -/
theorem pair_yy (eG : ∀ args w, (callFunc G args).run Try.prog w = .ok (.enter G args) w) (HO : Hid (OC G o)) (k : Nat) (hk : Hid (impl_IsDiagram.f k vars root ns = some true)) (k2 : Nat) (hk2 : Hid (impl_IsDiagram.f k2 vars root2 ns2 = some true)) (nr : List S97) (r : Int) (hr : Hid (bplan vars (fun i => o (dval ns root i) (dval ns2 root2 i)) 8 1 0 [] = (nr, r))) (w : World) (hC : Kd.C k97 w A ns.length ns) (hc : ns.length ≤ c) (hC2 : Kd.C k97 w A2 ns2.length ns2) (hc2 : ns2.length ≤ c2) :
    Calls Try.prog 72 #[.int .i64 vars, .agg #[.int .i64 root, .slice A ns.length c], .agg #[.int .i64 root2, .slice A2 ns2.length c2], .func (.func G) #[] #[]] w fun e w' => ∃ v1_ : Value, e = .returned (.tuple #[.agg #[.int .i64 r, v1_], .bool true]) ∧ Kd.R k97 97 w' w.heap.size (fun _ => True) v1_ nr ∧ Below w.heap.size w w' := by
  have hmf : ∀ (fn : Fn) (first cap : Array Value) (w : World), (Instr.makeFunc fn first cap).run Try.prog w = .ok (.func fn first cap) w := fun _ _ _ _ => rfl
  have hg := good_of hk.out
  have hg2 := good_of hk2.out
  have HV := Lib.hid (vl_ hg A c w hC hc)
  have HV2 := Lib.hid (vl_ hg2 A2 c2 w hC2 hc2)
  have h0 := hg.1
  have h6 := hg.2.1
  have HC := Lib.hid hC
  have HC2 := Lib.hid hC2
  clear hC hC2 hg hg2
  go_enter Try.func72, Try.ntmps72
  go_wp2_with (first | ((with_reducible refine gate_callee (f := 17) rfl ?_); refine goesL_ (some 12) rfl rfl Try.func17 (by kernel_rfl) rfl #[.int .i64 vars, .agg #[.int .i64 root, .slice A ns.length c]] rfl (by (try simp only [List.map_toArray, List.map_cons, List.map_nil]); first | done | rfl) ?_; (with_reducible refine (impl_IsDiagram.calls k _ _ _ _ _ true _ ?hC hc hk.out).mono ?_); (case hC => repeat (first | exact HC.out | (with_reducible refine Kd.C_alloc ?_ _) | (with_reducible refine Kd.C_drewN ?_ _) | (with_reducible refine Kd.C_drew ?_))); rintro e w1 ⟨rfl, hb1⟩; refine ⟨_, rfl, ?_⟩; obtain ⟨x1, x2, x3, x4, hbb⟩ := box4 hb1; obtain ⟨p0, p1, p2, p3⟩ := cells2 x2; have X1 := Lib.hid x1; have X2 := Lib.hid x2; have X3 := Lib.hid x3; have X4 := Lib.hid x4; have HBB := Lib.hid hbb; clear x1 x2 x3 x4 hb1 hbb) | (go_at_call 17; (with_reducible refine (impl_IsDiagram.calls k2 _ _ _ _ _ true _ ?hC2 hc2 hk2.out).mono ?_); (case hC2 => exact Kd.C_below HC2.out HBB.out); rintro e w2 ⟨rfl, hb2⟩; have y1 := (hb2.block _ (blk_lt X1.out)).trans X1.out; have y2 := (hb2.block _ (blk_lt X2.out)).trans X2.out; have y3 := (hb2.block _ (blk_lt X3.out)).trans X3.out; have y4 := (hb2.block _ (blk_lt X4.out)).trans X4.out; obtain ⟨q0, q1, q2, q3⟩ := cells2 y4; have Y1 := Lib.hid y1; have Y2 := Lib.hid y2; have Y3 := Lib.hid y3; have Y4 := Lib.hid y4; have HBD := Lib.hid (pchain HBB.out hb2); clear y1 y2 y3 y4 hb2))
  have HP := Lib.hid (pd_ w2 vars 94 #[] _ eClo _ (pair_fv w2 G w.heap.size.succ.succ w.heap.size w.heap.size.succ eG o HO root root2 A A2 c c2 ns ns2 _ _ (Lib.hid (VL.later HV.out HBD.out)) (Lib.hid (VL.later HV2.out HBD.out)) ((blk_cell Y3.out 0).trans rfl) Y1.out Y2.out) h0 h6 nr r hr.out)
  (with_reducible refine (PD.use HP _ (Below.refl _ _)).mono ?_)
  rintro e w3 ⟨v1, rfl, hR, hb3⟩
  obtain ⟨A3, c3, rfl⟩ := Kd.R_slice hR
  have z4 := (hb3.block _ (blk_lt Y4.out)).trans Y4.out
  obtain ⟨q0, q1, q2, q3⟩ := cells2 z4
  have Z4 := Lib.hid z4
  have HR := Lib.hid hR
  have HB3 := Lib.hid (pchain HBD.out hb3)
  clear z4 hR hb3
  go_wp2_with fail
  obtain ⟨s0, s1⟩ := res2 Z4.out (.int .i64 r) (.slice A3 nr.length c3)
  refine bodyPost_ret (v := .tuple #[.agg #[.int .i64 r, .slice A3 nr.length c3], .bool true]) (by simp [results, Try.results72, go_sem, s0, s1]) rfl ⟨_, rfl, ?_, below_set (below_set HB3.out (by omega)) (by omega)⟩
  have hlt := blk_lt Y4.out
  have hle := HBD.out.size
  refine Kd.R_mono (ok' := fun _ => True) (Kd.R_lower (base' := w.heap.size) (Kd.R_far (p := ⟨w.heap.size + 1 + 1 + 1, 1, none⟩) (Kd.R_far (p := ⟨w.heap.size + 1 + 1 + 1, 0, none⟩) HR.out ?_ _) ?_ _) hle) (fun _ _ => trivial)
  all_goals
    intro k hk
    show k ≠ w.heap.size + 1 + 1 + 1
    omega
end
/-- A call of pairDiagram, from w on. -/
def PRC (w : World) (vars : Int) (x y : Value) (G : Nat) (r : Int) (nr : List S97) (b : Bool) : Prop := ∀ W : World, Below w.heap.size w W → Calls Try.prog 72 #[.int .i64 vars, x, y, .func (.func G) #[] #[]] W fun e w' => ∃ v1_ : Value, e = .returned (.tuple #[.agg #[.int .i64 r, v1_], .bool b]) ∧ Kd.R k97 97 w' W.heap.size (fun _ => True) v1_ nr ∧ Below W.heap.size W w'
theorem PRC.use {w : World} {vars : Int} {x y : Value} {G : Nat} {r : Int} {nr : List S97} {b : Bool} (h : Hid (PRC w vars x y G r nr b)) (W : World) (hW : Below w.heap.size w W) : Calls Try.prog 72 #[.int .i64 vars, x, y, .func (.func G) #[] #[]] W fun e w' => ∃ v1_ : Value, e = .returned (.tuple #[.agg #[.int .i64 r, v1_], .bool b]) ∧ Kd.R k97 97 w' W.heap.size (fun _ => True) v1_ nr ∧ Below W.heap.size W w' := h.out W hW
theorem r_new {w : World} {W : World} {v : Value} {xs : List S97} {ok : Nat → Prop} (h : Kd.R k97 97 w W.heap.size ok v xs) : Kd.R k97 97 w W.heap.size (fun k => W.heap.size ≤ k) v xs := Kd.R_mono (Kd.R_bound h) (fun k hk => hk.2.1)
/-- AndDiagrams. -/
def and_r (a b : Bool) : Bool := a && b
theorem and_e : ∀ args w, (callFunc 75 args).run Try.prog w = .ok (.enter 75 args) w := enters_of Try.func75 (by kernel_rfl) rfl
set_option maxHeartbeats 1000000 in
theorem and_oc : OC 75 and_r := by
  intro W a b
  cases a
  all_goals
    cases b
    all_goals
      go_enter Try.func75, Try.ntmps75
      go_wp2
      go_ret
      exact ⟨rfl, rfl⟩
set_option maxHeartbeats 2000000 in
theorem and_call (vars root root2 : Int) (A A2 : Option Addr) (c c2 : Nat) (ns ns2 : List S97) (r : Int) (nr : List S97) (b : Bool) (w : World) (HP : Hid (PRC w vars (.agg #[.int .i64 root, .slice A ns.length c]) (.agg #[.int .i64 root2, .slice A2 ns2.length c2]) 75 r nr b)) :
    Calls Try.prog 43 #[.int .i64 vars, .agg #[.int .i64 root, .slice A ns.length c], .agg #[.int .i64 root2, .slice A2 ns2.length c2]] w fun e w' => ∃ v1_ : Value, e = .returned (.tuple #[.agg #[.int .i64 r, v1_], .bool b]) ∧ Kd.R k97 97 w' w.heap.size (fun _ => True) v1_ nr ∧ Below w.heap.size w w' := by
  go_enter Try.func43, Try.ntmps43
  go_wp2_with fail
  (with_reducible refine (PRC.use HP _ ?_).mono ?_)
  · exact below_alloc (below_alloc (below_alloc (Below.refl _ _) _) _) _
  rintro e w1 ⟨v1, rfl, hR, hb1⟩
  obtain ⟨A3, c3, rfl⟩ := Kd.R_slice hR
  obtain ⟨x1, x2, xr, hbb⟩ := box3 hb1
  obtain ⟨q0, q1, q2, q3⟩ := cells2 xr
  have XR := Lib.hid xr
  have HB1 := Lib.hid hb1
  have HBB := Lib.hid hbb
  have HR := Lib.hid hR
  clear hR hb1 hbb x1 x2 xr
  go_wp2_with fail
  obtain ⟨s0, s1⟩ := res2 XR.out (.int .i64 r) (.slice A3 nr.length c3)
  refine bodyPost_ret (v := .tuple #[.agg #[.int .i64 r, .slice A3 nr.length c3], .bool b]) (by simp [results, Try.results43, go_sem, s0, s1]) rfl ⟨_, rfl, ?_, below_set (below_set HBB.out (by omega)) (by omega)⟩
  have hsz : (((w.alloc (.cells #[.int .i64 root, .slice A ns.length c] 29)).alloc (.cells #[.int .i64 root2, .slice A2 ns2.length c2] 29)).alloc (.cells #[.int .i64 0, .slice none 0 0] 29)).heap.size = w.heap.size + 1 + 1 + 1 := by simp
  refine Kd.R_mono (ok' := fun _ => True) (Kd.R_lower (base' := w.heap.size) (Kd.R_far (p := ⟨w.heap.size + 1 + 1, 1, none⟩) (Kd.R_far (p := ⟨w.heap.size + 1 + 1, 0, none⟩) (r_new HR.out) ?_ _) ?_ _) (by omega)) (fun _ _ => trivial)
  all_goals
    intro k hk
    rw [hsz] at hk
    show k ≠ w.heap.size + 1 + 1
    omega
/-- OrDiagrams. -/
def or_r (a b : Bool) : Bool := a || b
theorem or_e : ∀ args w, (callFunc 76 args).run Try.prog w = .ok (.enter 76 args) w := enters_of Try.func76 (by kernel_rfl) rfl
set_option maxHeartbeats 1000000 in
theorem or_oc : OC 76 or_r := by
  intro W a b
  cases a
  all_goals
    cases b
    all_goals
      go_enter Try.func76, Try.ntmps76
      go_wp2
      go_ret
      exact ⟨rfl, rfl⟩
set_option maxHeartbeats 2000000 in
theorem or_call (vars root root2 : Int) (A A2 : Option Addr) (c c2 : Nat) (ns ns2 : List S97) (r : Int) (nr : List S97) (b : Bool) (w : World) (HP : Hid (PRC w vars (.agg #[.int .i64 root, .slice A ns.length c]) (.agg #[.int .i64 root2, .slice A2 ns2.length c2]) 76 r nr b)) :
    Calls Try.prog 45 #[.int .i64 vars, .agg #[.int .i64 root, .slice A ns.length c], .agg #[.int .i64 root2, .slice A2 ns2.length c2]] w fun e w' => ∃ v1_ : Value, e = .returned (.tuple #[.agg #[.int .i64 r, v1_], .bool b]) ∧ Kd.R k97 97 w' w.heap.size (fun _ => True) v1_ nr ∧ Below w.heap.size w w' := by
  go_enter Try.func45, Try.ntmps45
  go_wp2_with fail
  (with_reducible refine (PRC.use HP _ ?_).mono ?_)
  · exact below_alloc (below_alloc (below_alloc (Below.refl _ _) _) _) _
  rintro e w1 ⟨v1, rfl, hR, hb1⟩
  obtain ⟨A3, c3, rfl⟩ := Kd.R_slice hR
  obtain ⟨x1, x2, xr, hbb⟩ := box3 hb1
  obtain ⟨q0, q1, q2, q3⟩ := cells2 xr
  have XR := Lib.hid xr
  have HB1 := Lib.hid hb1
  have HBB := Lib.hid hbb
  have HR := Lib.hid hR
  clear hR hb1 hbb x1 x2 xr
  go_wp2_with fail
  obtain ⟨s0, s1⟩ := res2 XR.out (.int .i64 r) (.slice A3 nr.length c3)
  refine bodyPost_ret (v := .tuple #[.agg #[.int .i64 r, .slice A3 nr.length c3], .bool b]) (by simp [results, Try.results45, go_sem, s0, s1]) rfl ⟨_, rfl, ?_, below_set (below_set HBB.out (by omega)) (by omega)⟩
  have hsz : (((w.alloc (.cells #[.int .i64 root, .slice A ns.length c] 29)).alloc (.cells #[.int .i64 root2, .slice A2 ns2.length c2] 29)).alloc (.cells #[.int .i64 0, .slice none 0 0] 29)).heap.size = w.heap.size + 1 + 1 + 1 := by simp
  refine Kd.R_mono (ok' := fun _ => True) (Kd.R_lower (base' := w.heap.size) (Kd.R_far (p := ⟨w.heap.size + 1 + 1, 1, none⟩) (Kd.R_far (p := ⟨w.heap.size + 1 + 1, 0, none⟩) (r_new HR.out) ?_ _) ?_ _) (by omega)) (fun _ _ => trivial)
  all_goals
    intro k hk
    rw [hsz] at hk
    show k ≠ w.heap.size + 1 + 1
    omega
/-- NotDiagram. -/
def not_r (a b : Bool) : Bool := !a
theorem not_e : ∀ args w, (callFunc 73 args).run Try.prog w = .ok (.enter 73 args) w := enters_of Try.func73 (by kernel_rfl) rfl
set_option maxHeartbeats 1000000 in
theorem not_oc : OC 73 not_r := by
  intro W a b
  cases a
  all_goals
    cases b
    all_goals
      go_enter Try.func73, Try.ntmps73
      go_wp2
      go_ret
      exact ⟨rfl, rfl⟩
set_option maxHeartbeats 2000000 in
theorem not_call (vars root root2 : Int) (A A2 : Option Addr) (c c2 : Nat) (ns ns2 : List S97) (r : Int) (nr : List S97) (b : Bool) (w : World) (HP : Hid (PRC w vars (.agg #[.int .i64 root, .slice A ns.length c]) (.agg #[.int .i64 root, .slice A ns.length c]) 73 r nr b)) :
    Calls Try.prog 41 #[.int .i64 vars, .agg #[.int .i64 root, .slice A ns.length c]] w fun e w' => ∃ v1_ : Value, e = .returned (.tuple #[.agg #[.int .i64 r, v1_], .bool b]) ∧ Kd.R k97 97 w' w.heap.size (fun _ => True) v1_ nr ∧ Below w.heap.size w w' := by
  go_enter Try.func41, Try.ntmps41
  go_wp2_with fail
  (with_reducible refine (PRC.use HP _ ?_).mono ?_)
  · exact below_alloc (below_alloc (Below.refl _ _) _) _
  rintro e w1 ⟨v1, rfl, hR, hb1⟩
  obtain ⟨A3, c3, rfl⟩ := Kd.R_slice hR
  obtain ⟨x1, xr, hbb⟩ := box2 hb1
  obtain ⟨q0, q1, q2, q3⟩ := cells2 xr
  have XR := Lib.hid xr
  have HB1 := Lib.hid hb1
  have HBB := Lib.hid hbb
  have HR := Lib.hid hR
  clear hR hb1 hbb x1 xr
  go_wp2_with fail
  obtain ⟨s0, s1⟩ := res2 XR.out (.int .i64 r) (.slice A3 nr.length c3)
  refine bodyPost_ret (v := .tuple #[.agg #[.int .i64 r, .slice A3 nr.length c3], .bool b]) (by simp [results, Try.results41, go_sem, s0, s1]) rfl ⟨_, rfl, ?_, below_set (below_set HBB.out (by omega)) (by omega)⟩
  have hsz : ((w.alloc (.cells #[.int .i64 root, .slice A ns.length c] 29)).alloc (.cells #[.int .i64 0, .slice none 0 0] 29)).heap.size = w.heap.size + 1 + 1 := by simp
  refine Kd.R_mono (ok' := fun _ => True) (Kd.R_lower (base' := w.heap.size) (Kd.R_far (p := ⟨w.heap.size + 1, 1, none⟩) (Kd.R_far (p := ⟨w.heap.size + 1, 0, none⟩) (r_new HR.out) ?_ _) ?_ _) (by omega)) (fun _ _ => trivial)
  all_goals
    intro k hk
    rw [hsz] at hk
    show k ≠ w.heap.size + 1
    omega
end Go.Proofs.Ytggjpogcimdepaa.Man
namespace Go.Proofs.Ytggjpogcimdepaa.Print
open Go.RowKit Go.Proofs.YtggjpogcimdepaaW.PrintWords Go.Proofs.YtggjpogcimdepaaW.PrintLast Go.Proofs.YtggjpogcimdepaaW.PrintMore
attribute [local go_sem] max2_int min2_int max_two min_two max_three min_three max_four min_four   -- for this text's walks alone
set_option linter.unusedVariables false
set_option linter.unusedSimpArgs false

/-! ### impl_OrDiagrams: function 45 -/
-- X IMPORT Derived.Test.YtggjpogcimdepaaManR
def impl_OrDiagrams.f (k : Nat) (a0 : Int) (a1_0 : Int) (l1_1 : List (S97)) (a2_0 : Int) (l2_1 : List (S97)) : Option (Int × (List (S97)) × Bool) := (impl_IsDiagram.f k a0 a1_0 l1_1).bind fun t => (if t = true then ((impl_IsDiagram.f k a0 a2_0 l2_1).bind fun u => (if u = true then (some ((Man.bplan a0 (fun i => Man.or_r (DiagA.dval l1_1 a1_0 i) (DiagA.dval l2_1 a2_0 i)) 8 1 0 []).2, (Man.bplan a0 (fun i => Man.or_r (DiagA.dval l1_1 a1_0 i) (DiagA.dval l2_1 a2_0 i)) 8 1 0 []).1, true)) else (some (0, ([] : List (S97)), false)))) else (some (0, ([] : List (S97)), false)))
theorem impl_OrDiagrams.mono : ∀ a0 a1 a2 a3 a4 k, LeO (impl_OrDiagrams.f k a0 a1 a2 a3 a4) (impl_OrDiagrams.f (k + 1) a0 a1 a2 a3 a4) := by
  intro a0 a1 a2 a3 a4 k
  unfold impl_OrDiagrams.f
  repeat' first
      | (with_reducible exact impl_IsDiagram.mono _ _ _ _)
      | (with_reducible exact LeO.refl _)
      | (with_reducible exact LeO.none _)
      | (with_reducible refine LeO.ite ?_ ?_)
      | (with_reducible refine LeO.bind ?_ (fun _ => ?_))
theorem impl_OrDiagrams.calls (k : Nat) (a0 : Int) (a1_0 : Int) (A1_1 : Option Addr) (c1_1 : Nat) (l1_1 : List (S97)) (a2_0 : Int) (A2_1 : Option Addr) (c2_1 : Nat) (l2_1 : List (S97)) (r1 : Int) (r2 : List (S97)) (r3 : Bool) (w : World) (hr1_1 : Kd.C k97 w A1_1 l1_1.length l1_1) (hc1_1 : l1_1.length ≤ c1_1) (hr2_1 : Kd.C k97 w A2_1 l2_1.length l2_1) (hc2_1 : l2_1.length ≤ c2_1) (h : impl_OrDiagrams.f k a0 a1_0 l1_1 a2_0 l2_1 = some (r1, r2, r3)) :
    Calls Try.prog 45 #[.int .i64 a0, .agg #[.int .i64 a1_0, .slice A1_1 l1_1.length c1_1], .agg #[.int .i64 a2_0, .slice A2_1 l2_1.length c2_1]] w fun e w' => ∃ v1_ : Value, e = .returned (.tuple #[.agg #[.int .i64 r1, v1_], .bool r3]) ∧ Kd.R k97 97 w' w.heap.size (fun _ => True) v1_ r2 ∧ Below w.heap.size w w' := by
  refine Man.or_call a0 a1_0 a2_0 A1_1 A2_1 c1_1 c2_1 l1_1 l2_1 r1 r2 r3 w (Lib.hid fun W hW => ?_)
  have hC1 := Kd.C_below hr1_1 hW
  have hC2 := Kd.C_below hr2_1 hW
  obtain ⟨t, ht, h2⟩ := Option.bind_eq_some_iff.1 h
  cases t with
  | false =>
    cases h2
    exact Man.pair_n1 a0 a1_0 a2_0 A1_1 A2_1 c1_1 c2_1 l1_1 l2_1 _ k (Lib.hid ht) W hC1 hc1_1
  | true =>
    obtain ⟨u, hu, h3⟩ := Option.bind_eq_some_iff.1 h2
    cases u with
    | false =>
      cases h3
      exact Man.pair_n2 a0 a1_0 a2_0 A1_1 A2_1 c1_1 c2_1 l1_1 l2_1 _ k (Lib.hid ht) k (Lib.hid hu) W hC1 hc1_1 hC2 hc2_1
    | true =>
      cases h3
      exact Man.pair_yy a0 a1_0 a2_0 A1_1 A2_1 c1_1 c2_1 l1_1 l2_1 _ Man.or_r Man.or_e (Lib.hid Man.or_oc) k (Lib.hid ht) k (Lib.hid hu) _ _ (Lib.hid rfl) W hC1 hc1_1 hC2 hc2_1

end Go.Proofs.Ytggjpogcimdepaa.Print
