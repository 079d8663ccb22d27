/- The law FnExactIsReducedDiagram holds: called with any arguments of its types it returns true and leaves them as they were. No conditions. (Written by xprint.py, a program of this session, out of the law's Pure and the printed contract; Lean checks it.) -/
import Derived.Test.YtggjpogcimdepaaJIsReducedDiagrama
import Derived.Test.YtggjpogcimdepaaJIsReducedDiagramc
import Derived.Test.YtggjpogcimdepaaJIsReducedDiagrame
import Derived.Test.YtggjpogcimdepaaJIsReducedDiagramd
import Derived.Test.YtggjpogcimdepaaWWords
import Derived.Deep.Slices
import Derived.WideShapes
import Derived.Test.YtggjpogcimdepaaRows
import Derived.WalkKit
import Derived.ProofKit
import Derived.OpenShut
import Derived.ShutString
import Derived.ChangeOld
import Derived.Below
import Derived.SizedLaws
namespace Go.Proofs.Ytggjpogcimdepaa.Print
open Go.RowKit Go.Proofs.YtggjpogcimdepaaW.PrintWords Go.Proofs.YtggjpogcimdepaaW.PrintLast Go.Proofs.YtggjpogcimdepaaW.PrintMore
attribute [local go_sem] max2_int min2_int max_two min_two max_three min_three max_four min_four   -- for this text's walks alone
set_option linter.unusedVariables false
set_option linter.unusedSimpArgs false

/-! ### laws_FnExactIsReducedDiagram: function 8 -/
def laws_FnExactIsReducedDiagram.j0 : Nat → Bool → Int → List (S99) → Int → List (S97) → Option (Bool)
  | 0, _, _, _, _, _ => none
  | k + 1, x38, x102000, x102001, x114000, x114001 => if x38 = true then (some false) else ((laws_toDiagram.f k x102000 x102001).bind fun bt116 => ((laws_eqDiagram.f k x114000 x114001 bt116.1 bt116.2).bind fun t120 => (if t120 = true then (some true) else (some false))))
def laws_FnExactIsReducedDiagram.f (k : Nat) (a0 : Int) (a1_0 : Int) (l1_1 : List (S99)) : Option (Bool) := (laws_szDiagram.f a1_0 l1_1 1048576).bind fun t102 => (if t102 < 0 then (some true) else ((laws_toDiagram.f k a1_0 l1_1).bind fun bt103 => ((spec_IsReducedDiagram.f k a0 bt103.1 bt103.2).bind fun bt107 => ((laws_toDiagram.f k a1_0 l1_1).bind fun bt109 => ((impl_IsReducedDiagram.f k a0 bt109.1 bt109.2).bind fun bt114 => (if (bt114.1 != bt107.1) = true then (laws_FnExactIsReducedDiagram.j0 k true a1_0 l1_1 bt109.1 bt109.2) else (laws_FnExactIsReducedDiagram.j0 k (bt114.2 != bt107.2) a1_0 l1_1 bt109.1 bt109.2)))))))
theorem laws_FnExactIsReducedDiagram.mono_l : ∀ k, (∀ y0 y1 y2 y3 y4, LeO (laws_FnExactIsReducedDiagram.j0 k y0 y1 y2 y3 y4) (laws_FnExactIsReducedDiagram.j0 (k + 1) y0 y1 y2 y3 y4))
  | 0 => fun _ _ _ _ _ r h => by simp [laws_FnExactIsReducedDiagram.j0] at h
  | k + 1 => by
    have ih0 := laws_FnExactIsReducedDiagram.mono_l k
    · intro y0 y1 y2 y3 y4
      unfold laws_FnExactIsReducedDiagram.j0
      repeat' first
      | (with_reducible exact ih0 _ _ _ _ _)
      | (with_reducible exact impl_IsReducedDiagram.mono _ _ _ _)
      | (with_reducible exact laws_eqDiagram.mono _ _ _ _ _)
      | (with_reducible exact laws_toDiagram.mono _ _ _)
      | (with_reducible exact spec_IsReducedDiagram.mono _ _ _ _)
      | (with_reducible exact LeO.refl _)
      | (with_reducible exact LeO.none _)
      | (with_reducible refine LeO.ite ?_ ?_)
      | (with_reducible refine LeO.bind ?_ (fun _ => ?_))
      | exact ih0 _ _ _ _ _
      | exact impl_IsReducedDiagram.mono _ _ _ _
      | exact laws_eqDiagram.mono _ _ _ _ _
      | exact laws_toDiagram.mono _ _ _
      | exact spec_IsReducedDiagram.mono _ _ _ _
      | exact LeO.none _
      | refine LeO.ite ?_ ?_
      | refine LeO.bind ?_ (fun _ => ?_)
theorem laws_FnExactIsReducedDiagram.mono : ∀ a0 a1 a2 k, LeO (laws_FnExactIsReducedDiagram.f k a0 a1 a2) (laws_FnExactIsReducedDiagram.f (k + 1) a0 a1 a2) := by
  intro a0 a1 a2 k
  have ih0 := laws_FnExactIsReducedDiagram.mono_l k
  unfold laws_FnExactIsReducedDiagram.f
  repeat' first
      | (with_reducible exact ih0 _ _ _ _ _)
      | (with_reducible exact impl_IsReducedDiagram.mono _ _ _ _)
      | (with_reducible exact laws_eqDiagram.mono _ _ _ _ _)
      | (with_reducible exact laws_toDiagram.mono _ _ _)
      | (with_reducible exact spec_IsReducedDiagram.mono _ _ _ _)
      | (with_reducible exact LeO.refl _)
      | (with_reducible exact LeO.none _)
      | (with_reducible refine LeO.ite ?_ ?_)
      | (with_reducible refine LeO.bind ?_ (fun _ => ?_))
      | exact ih0 _ _ _ _ _
      | exact impl_IsReducedDiagram.mono _ _ _ _
      | exact laws_eqDiagram.mono _ _ _ _ _
      | exact laws_toDiagram.mono _ _ _
      | exact spec_IsReducedDiagram.mono _ _ _ _
      | exact LeO.none _
      | refine LeO.ite ?_ ?_
      | refine LeO.bind ?_ (fun _ => ?_)
set_option maxHeartbeats 8000000 in
set_option maxRecDepth 100000 in
theorem laws_FnExactIsReducedDiagram.calls (k : Nat) (a0 : Int) (a1_0 : Int) (A1_1 : Option Addr) (c1_1 : Nat) (l1_1 : List (S99)) (r : Bool) (w : World) (hr1_1 : Kd.C k99 w A1_1 l1_1.length l1_1) (hc1_1 : l1_1.length ≤ c1_1) (h : laws_FnExactIsReducedDiagram.f k a0 a1_0 l1_1 = some r) :
    Calls Try.prog 8 #[.int .i64 a0, .agg #[.int .i64 a1_0, .slice A1_1 l1_1.length c1_1]] w fun e w' => e = .returned (.bool r) ∧ Below w.heap.size w w' := by
  have hu24 := Try.underlying24
  have hu29 := Try.underlying29
  have HR1_1 := Aside0.mk hr1_1
  have HC1_1 := Aside0.mk hc1_1
  clear hr1_1 hc1_1
  have HB := Aside0.mk (Below.refl w.heap.size w)
  have H : ((laws_szDiagram.f a1_0 l1_1 1048576).bind fun t102 => (if t102 < 0 then (some true) else ((laws_toDiagram.f k a1_0 l1_1).bind fun bt103 => ((spec_IsReducedDiagram.f k a0 bt103.1 bt103.2).bind fun bt107 => ((laws_toDiagram.f k a1_0 l1_1).bind fun bt109 => ((impl_IsReducedDiagram.f k a0 bt109.1 bt109.2).bind fun bt114 => (if (bt114.1 != bt107.1) = true then (laws_FnExactIsReducedDiagram.j0 k true a1_0 l1_1 bt109.1 bt109.2) else (laws_FnExactIsReducedDiagram.j0 k (bt114.2 != bt107.2) a1_0 l1_1 bt109.1 bt109.2)))))))) = some r := h
  clear h
  replace H := Option.bind_eq_some_iff.mp H
  obtain ⟨t102, A30, H⟩ := H
  replace H : (if t102 < 0 then (some true) else ((laws_toDiagram.f k a1_0 l1_1).bind fun bt103 => ((spec_IsReducedDiagram.f k a0 bt103.1 bt103.2).bind fun bt107 => ((laws_toDiagram.f k a1_0 l1_1).bind fun bt109 => ((impl_IsReducedDiagram.f k a0 bt109.1 bt109.2).bind fun bt114 => (if (bt114.1 != bt107.1) = true then (laws_FnExactIsReducedDiagram.j0 k true a1_0 l1_1 bt109.1 bt109.2) else (laws_FnExactIsReducedDiagram.j0 k (bt114.2 != bt107.2) a1_0 l1_1 bt109.1 bt109.2))))))) = some r := H
  have A3 := Aside0.mk A30
  clear A30
  by_cases c4 : t102 < 0
  · rw [if_pos c4] at H
    have c4b0 : decide (t102 < 0) = true := decide_eq_true c4
    clear c4
    obtain rfl := Option.some.inj H
    go_enter Try.func8, Try.ntmps8
    go_wp2_with (first | ((with_reducible refine gate_dst (N := 3) rfl ?_); refine box_event ?hg (N := 3) ?hd (cs := #[.int .i64 a1_0, .slice A1_1 l1_1.length c1_1]) (t := 24) ?hr ?_; (case hd => rfl); (case hg => rfl); (case hr => first | (go_simp; done) | (go_simp; rfl)); intro gb101 hg w5 hbox hb; have n0_ := Aside0.mk (below_step (by repeat (first | (with_reducible first | exact HB.out | apply below_alloc | apply pw_below_drewN | apply below_drew1) | exact HB.out)) hb); have n1_ := Aside0.mk (hbox); have n2_ := Aside0.mk ((by rw [hg]; exact (below_size (by repeat (first | (with_reducible first | exact HB.out | apply below_alloc | apply pw_below_drewN | apply below_drew1) | exact HB.out))) : w.heap.size ≤ gb101)); have n3_ := Aside0.mk ((by rw [hg]; exact (below_size (by repeat (first | (with_reducible first | exact HB.out | apply below_alloc | apply pw_below_drewN | apply below_drew1) | exact HB.out))) : w.heap.size ≤ gb101)); clear HB; have HB := n0_; have BK101 := n1_; have GW101 := n2_; have GE101 := n3_; clear n0_ n1_ n2_ n3_; clear hb hbox hg; have hcz6_0 : w5.cell? ⟨gb101, 0, none⟩ = some (.int .i64 a1_0) := (blk_cell BK101.out 0).trans rfl; have hcz6_1 : w5.cell? ⟨gb101, 1, none⟩ = some (.slice A1_1 l1_1.length c1_1) := (blk_cell BK101.out 1).trans rfl; have hfz6_0 := blk_frozen BK101.out 0; have hfz6_1 := blk_frozen BK101.out 1) | ((with_reducible refine gate_callee (f := 14) rfl ?_); refine goesL_ (some 13) rfl rfl Try.func14 (by kernel_rfl) rfl #[.agg #[.int .i64 a1_0, .slice A1_1 l1_1.length c1_1], .int .i64 1048576] rfl (by (try simp only [List.map_toArray, List.map_cons, List.map_nil]); first | done | rfl | (simp only [List.length_drop, List.length_take]; rfl)) ?_; (with_reducible refine (laws_szDiagram.calls a1_0 _ _ l1_1 1048576 t102 _ ?side1 ?side2 A3.out).mono ?_); (case side1 => repeat (first | exact (Kd.C_below HR1_1.out HB.out) | (with_reducible refine Kd.C_alloc ?_ _) | (with_reducible refine Kd.C_drewN ?_ _) | (with_reducible refine Kd.C_drew ?_))); (case side2 => exact HC1_1.out); rintro e w7 ⟨rfl, hb⟩; refine ⟨_, rfl, ?_⟩; have n0_ := Aside0.mk (blk_below (g := gb101) (o := .cells #[.int .i64 a1_0, .slice A1_1 l1_1.length c1_1] 24 (0, 0)) (by (with_reducible repeat (first | refine blk_drewN ?_ _ | refine blk_drew ?_ | refine blk_alloc ?_ _)); exact BK101.out) hb); have n1_ := Aside0.mk (below_step (by repeat (first | (with_reducible first | exact HB.out | apply below_alloc | apply pw_below_drewN | apply below_drew1 | refine below_set ?_ GE101.out) | exact HB.out)) hb); clear BK101; clear HB; have BK101 := n0_; have HB := n1_; clear n0_ n1_; (try clear hb); (try clear hb2); (try clear hk); (try clear hi)))
    go_ret
    exact ⟨by first | rfl | (simp [errW_none, errW_some] <;> rfl) | (simp [*, errW_none, errW_some] <;> rfl), by repeat (first | (with_reducible first | exact HB.out | apply below_alloc | apply pw_below_drewN | apply below_drew1 | refine below_set ?_ GE101.out) | exact HB.out)⟩
  · rw [if_neg c4] at H
    have c4b0 : decide (t102 < 0) = false := decide_eq_false c4
    clear c4
    replace H := Option.bind_eq_some_iff.mp H
    obtain ⟨⟨t103, t104⟩, A80, H⟩ := H
    replace H : ((spec_IsReducedDiagram.f k a0 t103 t104).bind fun bt107 => ((laws_toDiagram.f k a1_0 l1_1).bind fun bt109 => ((impl_IsReducedDiagram.f k a0 bt109.1 bt109.2).bind fun bt114 => (if (bt114.1 != bt107.1) = true then (laws_FnExactIsReducedDiagram.j0 k true a1_0 l1_1 bt109.1 bt109.2) else (laws_FnExactIsReducedDiagram.j0 k (bt114.2 != bt107.2) a1_0 l1_1 bt109.1 bt109.2))))) = some r := H
    have A8 := Aside0.mk A80
    clear A80
    replace H := Option.bind_eq_some_iff.mp H
    obtain ⟨⟨t107, t108⟩, A90, H⟩ := H
    replace H : ((laws_toDiagram.f k a1_0 l1_1).bind fun bt109 => ((impl_IsReducedDiagram.f k a0 bt109.1 bt109.2).bind fun bt114 => (if (bt114.1 != t107) = true then (laws_FnExactIsReducedDiagram.j0 k true a1_0 l1_1 bt109.1 bt109.2) else (laws_FnExactIsReducedDiagram.j0 k (bt114.2 != t108) a1_0 l1_1 bt109.1 bt109.2)))) = some r := H
    have A9 := Aside0.mk A90
    clear A90
    replace H := Option.bind_eq_some_iff.mp H
    obtain ⟨⟨t109, t110⟩, A100, H⟩ := H
    replace H : ((impl_IsReducedDiagram.f k a0 t109 t110).bind fun bt114 => (if (bt114.1 != t107) = true then (laws_FnExactIsReducedDiagram.j0 k true a1_0 l1_1 t109 t110) else (laws_FnExactIsReducedDiagram.j0 k (bt114.2 != t108) a1_0 l1_1 t109 t110))) = some r := H
    have A10 := Aside0.mk A100
    clear A100
    replace H := Option.bind_eq_some_iff.mp H
    obtain ⟨⟨t114, t115⟩, A110, H⟩ := H
    replace H : (if (t114 != t107) = true then (laws_FnExactIsReducedDiagram.j0 k true a1_0 l1_1 t109 t110) else (laws_FnExactIsReducedDiagram.j0 k (t115 != t108) a1_0 l1_1 t109 t110)) = some r := H
    have A11 := Aside0.mk A110
    clear A110
    have HC12 := Aside0.mk H
    clear H
    go_enter Try.func8, Try.ntmps8
    go_upto_region 8 with (first | ((with_reducible refine gate_dst (N := 3) rfl ?_); refine box_event ?hg (N := 3) ?hd (cs := #[.int .i64 a1_0, .slice A1_1 l1_1.length c1_1]) (t := 24) ?hr ?_; (case hd => rfl); (case hg => rfl); (case hr => first | (go_simp; done) | (go_simp; rfl)); intro gb101 hg w13 hbox hb; have n0_ := Aside0.mk (below_step (by repeat (first | (with_reducible first | exact HB.out | apply below_alloc | apply pw_below_drewN | apply below_drew1) | exact HB.out)) hb); have n1_ := Aside0.mk (hbox); have n2_ := Aside0.mk ((by rw [hg]; exact (below_size (by repeat (first | (with_reducible first | exact HB.out | apply below_alloc | apply pw_below_drewN | apply below_drew1) | exact HB.out))) : w.heap.size ≤ gb101)); have n3_ := Aside0.mk ((by rw [hg]; exact (below_size (by repeat (first | (with_reducible first | exact HB.out | apply below_alloc | apply pw_below_drewN | apply below_drew1) | exact HB.out))) : w.heap.size ≤ gb101)); clear HB; have HB := n0_; have BK101 := n1_; have GW101 := n2_; have GE101 := n3_; clear n0_ n1_ n2_ n3_; clear hb hbox hg; have hcz14_0 : w13.cell? ⟨gb101, 0, none⟩ = some (.int .i64 a1_0) := (blk_cell BK101.out 0).trans rfl; have hcz14_1 : w13.cell? ⟨gb101, 1, none⟩ = some (.slice A1_1 l1_1.length c1_1) := (blk_cell BK101.out 1).trans rfl; have hfz14_0 := blk_frozen BK101.out 0; have hfz14_1 := blk_frozen BK101.out 1) | ((with_reducible refine gate_callee (f := 14) rfl ?_); refine goesL_ (some 13) rfl rfl Try.func14 (by kernel_rfl) rfl #[.agg #[.int .i64 a1_0, .slice A1_1 l1_1.length c1_1], .int .i64 1048576] rfl (by (try simp only [List.map_toArray, List.map_cons, List.map_nil]); first | done | rfl | (simp only [List.length_drop, List.length_take]; rfl)) ?_; (with_reducible refine (laws_szDiagram.calls a1_0 _ _ l1_1 1048576 t102 _ ?side1 ?side2 A3.out).mono ?_); (case side1 => repeat (first | exact (Kd.C_below HR1_1.out HB.out) | (with_reducible refine Kd.C_alloc ?_ _) | (with_reducible refine Kd.C_drewN ?_ _) | (with_reducible refine Kd.C_drew ?_))); (case side2 => exact HC1_1.out); rintro e w15 ⟨rfl, hb⟩; refine ⟨_, rfl, ?_⟩; have n0_ := Aside0.mk (blk_below (g := gb101) (o := .cells #[.int .i64 a1_0, .slice A1_1 l1_1.length c1_1] 24 (0, 0)) (by (with_reducible repeat (first | refine blk_drewN ?_ _ | refine blk_drew ?_ | refine blk_alloc ?_ _)); exact BK101.out) hb); have n1_ := Aside0.mk (below_step (by repeat (first | (with_reducible first | exact HB.out | apply below_alloc | apply pw_below_drewN | apply below_drew1 | refine below_set ?_ GE101.out) | exact HB.out)) hb); clear BK101; clear HB; have BK101 := n0_; have HB := n1_; clear n0_ n1_; (try clear hb); (try clear hb2); (try clear hk); (try clear hi); have hcz16_0 : w15.cell? ⟨gb101, 0, none⟩ = some (.int .i64 a1_0) := (blk_cell BK101.out 0).trans rfl; have hcz16_1 : w15.cell? ⟨gb101, 1, none⟩ = some (.slice A1_1 l1_1.length c1_1) := (blk_cell BK101.out 1).trans rfl; have hfz16_0 := blk_frozen BK101.out 0; have hfz16_1 := blk_frozen BK101.out 1) | ((with_reducible refine gate_callee (f := 16) rfl ?_); refine goesL_ (some 19) rfl rfl Try.func16 (by kernel_rfl) rfl #[.agg #[.int .i64 a1_0, .slice A1_1 l1_1.length c1_1]] rfl (by (try simp only [List.map_toArray, List.map_cons, List.map_nil]); first | done | rfl | (simp only [List.length_drop, List.length_take]; rfl)) ?_; (with_reducible refine (laws_toDiagram.calls k a1_0 _ _ l1_1 t103 t104 _ ?side1 ?side2 A8.out).mono ?_); (case side1 => repeat (first | exact (Kd.C_below HR1_1.out HB.out) | (with_reducible refine Kd.C_alloc ?_ _) | (with_reducible refine Kd.C_drewN ?_ _) | (with_reducible refine Kd.C_drew ?_))); (case side2 => exact HC1_1.out); rintro e w17 ⟨v105, rfl, ho0, hb⟩; refine ⟨_, rfl, ?_⟩; have n0_ := Aside0.mk (Kd.R_lower ho0 (below_size (by repeat (first | (with_reducible first | exact HB.out | apply below_alloc | apply pw_below_drewN | apply below_drew1 | refine below_set ?_ GE101.out) | exact HB.out)))); have n1_ := Aside0.mk (blk_below (g := gb101) (o := .cells #[.int .i64 a1_0, .slice A1_1 l1_1.length c1_1] 24 (0, 0)) (by (with_reducible repeat (first | refine blk_drewN ?_ _ | refine blk_drew ?_ | refine blk_alloc ?_ _)); exact BK101.out) hb); have n2_ := Aside0.mk (below_step (by repeat (first | (with_reducible first | exact HB.out | apply below_alloc | apply pw_below_drewN | apply below_drew1 | refine below_set ?_ GE101.out) | exact HB.out)) hb); clear BK101; clear HB; have HO106 := n0_; have BK101 := n1_; have HB := n2_; clear n0_ n1_ n2_; (try clear hb); (try clear hb2); (try clear hk); (try clear hi); (try clear ho0); obtain ⟨Ao18, co18, eo18⟩ := Kd.R_slice HO106.out; subst eo18) | ((with_reducible refine gate_callee (f := 34) rfl ?_); refine goesL_ (some 20) rfl rfl Try.func34 (by kernel_rfl) rfl #[.int .i64 a0, .agg #[.int .i64 t103, .slice Ao18 t104.length co18]] rfl (by (try simp only [List.map_toArray, List.map_cons, List.map_nil]); first | done | rfl | (simp only [List.length_drop, List.length_take]; rfl)) ?_; (with_reducible refine (spec_IsReducedDiagram.calls k a0 t103 _ _ t104 t107 t108 _ ?side1 ?side2 A9.out).mono ?_); (case side1 => repeat (first | exact (Kd.R_reads' HO106.out).2.2 | (with_reducible refine Kd.C_alloc ?_ _) | (with_reducible refine Kd.C_drewN ?_ _) | (with_reducible refine Kd.C_drew ?_))); (case side2 => exact (Kd.R_reads' HO106.out).2.1); rintro e w19 ⟨rfl, hb⟩; refine ⟨_, rfl, ?_⟩; have n0_ := Aside0.mk (Kd.R_below (by (with_reducible repeat (first | apply Kd.R_alloc | apply Kd.R_drewN | apply Kd.R_drew)); exact HO106.out) hb); have n1_ := Aside0.mk (blk_below (g := gb101) (o := .cells #[.int .i64 a1_0, .slice A1_1 l1_1.length c1_1] 24 (0, 0)) (by (with_reducible repeat (first | refine blk_drewN ?_ _ | refine blk_drew ?_ | refine blk_alloc ?_ _)); exact BK101.out) hb); have n2_ := Aside0.mk (below_step (by repeat (first | (with_reducible first | exact HB.out | apply below_alloc | apply pw_below_drewN | apply below_drew1 | refine below_set ?_ GE101.out) | exact HB.out)) hb); clear HO106; clear BK101; clear HB; have HO106 := n0_; have BK101 := n1_; have HB := n2_; clear n0_ n1_ n2_; (try clear hb); (try clear hb2); (try clear hk); (try clear hi); have hcz20_0 : w19.cell? ⟨gb101, 0, none⟩ = some (.int .i64 a1_0) := (blk_cell BK101.out 0).trans rfl; have hcz20_1 : w19.cell? ⟨gb101, 1, none⟩ = some (.slice A1_1 l1_1.length c1_1) := (blk_cell BK101.out 1).trans rfl; have hfz20_0 := blk_frozen BK101.out 0; have hfz20_1 := blk_frozen BK101.out 1) | ((with_reducible refine gate_callee (f := 16) rfl ?_); refine goesL_ (some 24) rfl rfl Try.func16 (by kernel_rfl) rfl #[.agg #[.int .i64 a1_0, .slice A1_1 l1_1.length c1_1]] rfl (by (try simp only [List.map_toArray, List.map_cons, List.map_nil]); first | done | rfl | (simp only [List.length_drop, List.length_take]; rfl)) ?_; (with_reducible refine (laws_toDiagram.calls k a1_0 _ _ l1_1 t109 t110 _ ?side1 ?side2 A10.out).mono ?_); (case side1 => repeat (first | exact (Kd.C_below HR1_1.out HB.out) | (with_reducible refine Kd.C_alloc ?_ _) | (with_reducible refine Kd.C_drewN ?_ _) | (with_reducible refine Kd.C_drew ?_))); (case side2 => exact HC1_1.out); rintro e w21 ⟨v111, rfl, ho0, hb⟩; refine ⟨_, rfl, ?_⟩; have n0_ := Aside0.mk (Kd.R_elder' (by (with_reducible repeat (first | apply Kd.R_alloc | apply Kd.R_drewN | apply Kd.R_drew)); exact HO106.out) (Kd.R_base ho0) hb); have n1_ := Aside0.mk (Kd.R_lower (Kd.R_new' ho0 (Kd.R_lt (by (with_reducible repeat (first | apply Kd.R_alloc | apply Kd.R_drewN | apply Kd.R_drew)); exact HO106.out))) (below_size (by repeat (first | (with_reducible first | exact HB.out | apply below_alloc | apply pw_below_drewN | apply below_drew1 | refine below_set ?_ GE101.out) | exact HB.out)))); have n2_ := Aside0.mk (blk_below (g := gb101) (o := .cells #[.int .i64 a1_0, .slice A1_1 l1_1.length c1_1] 24 (0, 0)) (by (with_reducible repeat (first | refine blk_drewN ?_ _ | refine blk_drew ?_ | refine blk_alloc ?_ _)); exact BK101.out) hb); have n3_ := Aside0.mk (below_step (by repeat (first | (with_reducible first | exact HB.out | apply below_alloc | apply pw_below_drewN | apply below_drew1 | refine below_set ?_ GE101.out) | exact HB.out)) hb); clear HO106; clear BK101; clear HB; have HO106 := n0_; have HO112 := n1_; have BK101 := n2_; have HB := n3_; clear n0_ n1_ n2_ n3_; (try clear hb); (try clear hb2); (try clear hk); (try clear hi); (try clear ho0)) | ((with_reducible refine gate_dst (N := 8) rfl ?_); refine box_event ?hg (N := 8) ?hd (cs := #[.int .i64 0, .slice none 0 0]) (t := 29) ?hr ?_; (case hd => rfl); (case hg => rfl); (case hr => first | (go_simp; done) | (go_simp; rfl)); intro gb113 hg w22 hbox hb; have n0_ := Aside0.mk (Kd.R_below (by (with_reducible repeat (first | apply Kd.R_alloc | apply Kd.R_drewN | apply Kd.R_drew)); exact HO106.out) hb); have n1_ := Aside0.mk (Kd.R_below (by (with_reducible repeat (first | apply Kd.R_alloc | apply Kd.R_drewN | apply Kd.R_drew)); exact HO112.out) hb); have n2_ := Aside0.mk (blk_below (g := gb101) (o := .cells #[.int .i64 a1_0, .slice A1_1 l1_1.length c1_1] 24 (0, 0)) (by (with_reducible repeat (first | refine blk_drewN ?_ _ | refine blk_drew ?_ | refine blk_alloc ?_ _)); exact BK101.out) hb); have n3_ := Aside0.mk (below_step (by repeat (first | (with_reducible first | exact HB.out | apply below_alloc | apply pw_below_drewN | apply below_drew1 | refine below_set ?_ GE101.out) | exact HB.out)) hb); have n4_ := Aside0.mk (hbox); have n5_ := Aside0.mk ((by rw [hg]; exact (below_size (by repeat (first | (with_reducible first | exact HB.out | apply below_alloc | apply pw_below_drewN | apply below_drew1 | refine below_set ?_ GE101.out) | exact HB.out))) : w.heap.size ≤ gb113)); have n6_ := Aside0.mk ((by rw [hg]; exact (below_size (by repeat (first | (with_reducible first | exact HB.out | apply below_alloc | apply pw_below_drewN | apply below_drew1 | refine below_set ?_ GE101.out) | exact HB.out))) : w.heap.size ≤ gb113)); have n7_ := Aside0.mk ((by rw [hg]; exact Nat.ne_of_lt (blk_lt (g := gb101) (o := .cells #[.int .i64 a1_0, .slice A1_1 l1_1.length c1_1] 24 (0, 0)) (by (with_reducible repeat (first | refine blk_drewN ?_ _ | refine blk_drew ?_ | refine blk_alloc ?_ _)); exact BK101.out)) : gb101 ≠ gb113)); have n8_ := Aside0.mk ((by rw [hg]; exact Nat.ne_of_gt (blk_lt (g := gb101) (o := .cells #[.int .i64 a1_0, .slice A1_1 l1_1.length c1_1] 24 (0, 0)) (by (with_reducible repeat (first | refine blk_drewN ?_ _ | refine blk_drew ?_ | refine blk_alloc ?_ _)); exact BK101.out)) : gb113 ≠ gb101)); clear HO106; clear HO112; clear BK101; clear HB; have HO106 := n0_; have HO112 := n1_; have BK101 := n2_; have HB := n3_; have BK113 := n4_; have GW113 := n5_; have GE113 := n6_; have NB101_113 := n7_; have NB113_101 := n8_; clear n0_ n1_ n2_ n3_ n4_ n5_ n6_ n7_ n8_; clear hb hbox hg; have hnb23 := NB113_101.out; have hnc23 := NB101_113.out; have hcz24_0 : w22.cell? ⟨gb113, 0, none⟩ = some (.int .i64 0) := (blk_cell BK113.out 0).trans rfl; have hcz24_1 : w22.cell? ⟨gb113, 1, none⟩ = some (.slice none 0 0) := (blk_cell BK113.out 1).trans rfl; have hfz24_0 := blk_frozen BK113.out 0; have hfz24_1 := blk_frozen BK113.out 1; obtain ⟨Ao25, co25, eo25⟩ := Kd.R_slice HO112.out; subst eo25) | ((with_reducible refine gate_callee (f := 35) rfl ?_); refine goesL_ (some 28) rfl rfl Try.func35 (by kernel_rfl) rfl #[.int .i64 a0, .agg #[.int .i64 t109, .slice Ao25 t110.length co25]] rfl (by (try simp only [List.map_toArray, List.map_cons, List.map_nil]); first | done | rfl | (simp only [List.length_drop, List.length_take]; rfl)) ?_; (with_reducible refine (impl_IsReducedDiagram.calls k a0 t109 _ _ t110 t114 t115 _ ?side1 ?side2 A11.out).mono ?_); (case side1 => refine (Kd.R_reads' (e := 97) (base := w.heap.size) (ok := fun k_ => (True ∧ some k_ ≠ (.slice Ao18 t104.length co18 : Value).ownBlock)) (n := t110.length) (c := co25) ?_).2.2; exact (by (with_reducible repeat (first | apply Kd.R_alloc | apply Kd.R_drewN | apply Kd.R_drew)); exact (Kd.R_mono (Kd.R_far (p := ⟨gb113, 1, none⟩) (Kd.R_far (p := ⟨gb113, 0, none⟩) (Kd.R_types HO112.out BK113.out (by decide)) (fun _ hk => hk.2) (.int .i64 t109)) (fun _ hk => hk.2) (.slice Ao25 t110.length co25)) (fun _ h_ => h_.1)))); (case side2 => exact (Kd.R_reads' HO112.out).2.1); rintro e w26 ⟨rfl, hb⟩; refine ⟨_, rfl, ?_⟩; have n0_ := Aside0.mk (Kd.R_below (by (with_reducible repeat (first | apply Kd.R_alloc | apply Kd.R_drewN | apply Kd.R_drew)); exact (Kd.R_mono (Kd.R_far (p := ⟨gb113, 1, none⟩) (Kd.R_far (p := ⟨gb113, 0, none⟩) (Kd.R_types HO106.out BK113.out (by decide)) (fun _ hk => hk.2) (.int .i64 t109)) (fun _ hk => hk.2) (.slice Ao25 t110.length co25)) (fun _ h_ => h_.1))) hb); have n1_ := Aside0.mk (Kd.R_below (by (with_reducible repeat (first | apply Kd.R_alloc | apply Kd.R_drewN | apply Kd.R_drew)); exact (Kd.R_mono (Kd.R_far (p := ⟨gb113, 1, none⟩) (Kd.R_far (p := ⟨gb113, 0, none⟩) (Kd.R_types HO112.out BK113.out (by decide)) (fun _ hk => hk.2) (.int .i64 t109)) (fun _ hk => hk.2) (.slice Ao25 t110.length co25)) (fun _ h_ => h_.1))) hb); have n2_ := Aside0.mk (blk_below (g := gb101) (o := .cells #[.int .i64 a1_0, .slice A1_1 l1_1.length c1_1] 24 (0, 0)) (by (with_reducible repeat (first | refine blk_drewN ?_ _ | refine blk_drew ?_ | refine blk_alloc ?_ _)); refine blk_far ?_ NB101_113.out _; (with_reducible repeat (first | refine blk_drewN ?_ _ | refine blk_drew ?_ | refine blk_alloc ?_ _)); refine blk_far ?_ NB101_113.out _; (with_reducible repeat (first | refine blk_drewN ?_ _ | refine blk_drew ?_ | refine blk_alloc ?_ _)); exact BK101.out) hb); have n3_ := Aside0.mk (blk_below (g := gb113) (o := .cells #[.int .i64 t109, .slice Ao25 t110.length co25] 29 (0, 0)) (by (with_reducible repeat (first | refine blk_drewN ?_ _ | refine blk_drew ?_ | refine blk_alloc ?_ _)); refine blk_put (cs := #[.int .i64 t109, .slice none 0 0]) ?_ 1 _ rfl; (with_reducible repeat (first | refine blk_drewN ?_ _ | refine blk_drew ?_ | refine blk_alloc ?_ _)); refine blk_put (cs := #[.int .i64 0, .slice none 0 0]) ?_ 0 _ rfl; (with_reducible repeat (first | refine blk_drewN ?_ _ | refine blk_drew ?_ | refine blk_alloc ?_ _)); exact BK113.out) hb); have n4_ := Aside0.mk (below_step (by repeat (first | (with_reducible first | exact HB.out | apply below_alloc | apply pw_below_drewN | apply below_drew1 | refine below_set ?_ GE101.out | refine below_set ?_ GE113.out) | exact HB.out)) hb); clear HO106; clear HO112; clear BK101; clear BK113; clear HB; have HO106 := n0_; have HO112 := n1_; have BK101 := n2_; have BK113 := n3_; have HB := n4_; clear n0_ n1_ n2_ n3_ n4_; (try clear hb); (try clear hb2); (try clear hk); (try clear hi)))
    (try simp only [Act.put, List.setIfInBounds_toArray, List.set_cons_zero, List.set_cons_succ])
    go_cut [38] (fun v38 wc => ∃ (kq : Nat) (x38_11 : Bool), v38 = .bool x38_11 ∧ Aside0 (laws_FnExactIsReducedDiagram.j0 kq x38_11 a1_0 l1_1 t109 t110 = some r) ∧ Aside0 (kq ≤ k) ∧ Aside0 (Kd.R k97 97 wc w.heap.size (fun _ => True) (.slice Ao25 t110.length co25) t110) ∧ Aside0 (wc.heap[gb101]? = some (.cells #[.int .i64 a1_0, (.slice A1_1 l1_1.length c1_1)] 24 (0, 0))) ∧ Aside0 (wc.heap[gb113]? = some (.cells #[.int .i64 t109, (.slice Ao25 t110.length co25)] 29 (0, 0))) ∧ Aside0 (Below w.heap.size w wc))
    case first =>
      have H := HC12.out
      clear HC12
      by_cases c27 : (t114 != t107) = true
      · rw [if_pos c27] at H
        have c27b0 : (t114 != t107) = true := c27
        (try (have c27b1 : decide (t114 = t107) = false := by simpa using c27))
        (try (have c27b2 : (t114 == t107) = false := by simpa using c27))
        (try (have c27b3 : ¬ (t114 = t107) := by simpa using c27))
        clear c27
        (first | rw [c27b0] | (simp only [i64_w, i32_w]; rw [c27b0]) | skip)
        have H' := Aside0.mk H
        clear H
        go_wp2
        go_meet
        case rel => exact ⟨_, (true), (by first | rfl | (simp; done) | (simp [*]; done)), H', ⟨by first | omega | exact Nat.le_refl _⟩, ⟨by (with_reducible repeat (first | apply Kd.R_alloc | apply Kd.R_drewN | apply Kd.R_drew)); exact Kd.R_mono HO112.out (fun _ hk => trivial)⟩, ⟨by (with_reducible repeat (first | refine blk_drewN ?_ _ | refine blk_drew ?_ | refine blk_alloc ?_ _)); exact BK101.out⟩, ⟨by (with_reducible repeat (first | refine blk_drewN ?_ _ | refine blk_drew ?_ | refine blk_alloc ?_ _)); exact BK113.out⟩, ⟨by repeat (first | (with_reducible first | exact HB.out | apply below_alloc | apply pw_below_drewN | apply below_drew1 | refine below_set ?_ GE101.out | refine below_set ?_ GE113.out) | exact HB.out)⟩⟩
      · rw [if_neg c27] at H
        have c27b0 : (t114 != t107) = false := by simpa using c27
        (try (have c27b1 : decide (t114 = t107) = true := by simpa using c27))
        (try (have c27b2 : (t114 == t107) = true := by simpa using c27))
        clear c27
        (first | rw [c27b0] | (simp only [i64_w, i32_w]; rw [c27b0]) | skip)
        have H' := Aside0.mk H
        clear H
        go_wp2
        go_meet
        case rel => exact ⟨_, ((t115 != t108)), (by first | rfl | (simp; done) | (simp [*]; done)), H', ⟨by first | omega | exact Nat.le_refl _⟩, ⟨by (with_reducible repeat (first | apply Kd.R_alloc | apply Kd.R_drewN | apply Kd.R_drew)); exact Kd.R_mono HO112.out (fun _ hk => trivial)⟩, ⟨by (with_reducible repeat (first | refine blk_drewN ?_ _ | refine blk_drew ?_ | refine blk_alloc ?_ _)); exact BK101.out⟩, ⟨by (with_reducible repeat (first | refine blk_drewN ?_ _ | refine blk_drew ?_ | refine blk_alloc ?_ _)); exact BK113.out⟩, ⟨by repeat (first | (with_reducible first | exact HB.out | apply below_alloc | apply pw_below_drewN | apply below_drew1 | refine below_set ?_ GE101.out | refine below_set ?_ GE113.out) | exact HB.out)⟩⟩
    case rest =>
      clear HC12
      try clear c1
      try clear c2
      try clear p2
      try clear c3
      try clear c4
      try clear c4b0
      try clear c8
      try clear c14
      try clear c16
      try clear c23
      try clear c27
      try clear c27b0
      try clear c27b1
      try clear c27b2
      try clear hcz14_0
      try clear hcz14_1
      try clear hcz16_0
      try clear hcz16_1
      try clear hcz20_0
      try clear hcz20_1
      try clear hcz24_0
      try clear hcz24_1
      try clear hcz6_0
      try clear hcz6_1
      try clear hfz14_0
      try clear hfz14_1
      try clear hfz16_0
      try clear hfz16_1
      try clear hfz20_0
      try clear hfz20_1
      try clear hfz24_0
      try clear hfz24_1
      try clear hfz6_0
      try clear hfz6_1
      obtain ⟨kq, x38_11, rfl, HA, HJ11, HO_114001, BK101, BK113, HB⟩ := hcut
      cases kq with
      | zero => exact absurd HA.out (by simp [laws_FnExactIsReducedDiagram.j0])
      | succ kj11 =>
        have H := HA.out
        clear HA
        simp only [laws_FnExactIsReducedDiagram.j0] at H
        by_cases c28 : x38_11 = true
        · subst c28
          have H1 : (some false) = some r := by rw [if_pos rfl] at H; exact H
          clear H
          have H := H1
          clear H1
          obtain rfl := Option.some.inj H
          go_wp2
          go_ret
          exact ⟨by first | rfl | (simp [errW_none, errW_some] <;> rfl) | (simp [*, errW_none, errW_some] <;> rfl), by repeat (first | (with_reducible first | exact HB.out | apply below_alloc | apply pw_below_drewN | apply below_drew1 | refine below_set ?_ GE101.out | refine below_set ?_ GE113.out) | exact HB.out)⟩
        · replace c28 := Bool.eq_false_iff.mpr c28
          subst c28
          have H1 : ((laws_toDiagram.f kj11 a1_0 l1_1).bind fun bt116 => ((laws_eqDiagram.f kj11 t109 t110 bt116.1 bt116.2).bind fun t120 => (if t120 = true then (some true) else (some false)))) = some r := by rw [if_neg (show ¬ (false = true) by decide)] at H; exact H
          clear H
          have H := H1
          clear H1
          replace H := Option.bind_eq_some_iff.mp H
          obtain ⟨⟨t116, t117⟩, A290, H⟩ := H
          replace H : ((laws_eqDiagram.f kj11 t109 t110 t116 t117).bind fun t120 => (if t120 = true then (some true) else (some false))) = some r := H
          have A29 := Aside0.mk A290
          clear A290
          replace H := Option.bind_eq_some_iff.mp H
          obtain ⟨t120, A300, H⟩ := H
          replace H : (if t120 = true then (some true) else (some false)) = some r := H
          have A30 := Aside0.mk A300
          clear A300
          by_cases c31 : t120 = true
          · subst c31
            have H1 : (some true) = some r := by rw [if_pos rfl] at H; exact H
            clear H
            have H := H1
            clear H1
            obtain rfl := Option.some.inj H
            try go_wp2
            have n0_ := Aside0.mk (Kd.R_drew HO_114001.out)
            have n1_ := Aside0.mk (blk_drew BK101.out)
            have n2_ := Aside0.mk (blk_drew BK113.out)
            have n3_ := Aside0.mk (below_drew1 HB.out)
            clear HO_114001
            clear BK101
            clear BK113
            clear HB
            have HO_114001 := n0_
            have BK101 := n1_
            have BK113 := n2_
            have HB := n3_
            clear n0_ n1_ n2_ n3_
            refine start_ (n := 5) (S := fun w' => w'.cell? ⟨gb113, 0, none⟩ = some (.int .i64 t109) ∧ w'.cell? ⟨gb113, 1, none⟩ = some (.slice Ao25 t110.length co25) ∧ w'.cell? ⟨gb101, 0, none⟩ = some (.int .i64 a1_0) ∧ w'.cell? ⟨gb101, 1, none⟩ = some (.slice A1_1 l1_1.length c1_1)) (ds := []) #[false, false, false, false, false] (by kernel_rfl) rfl rfl ⟨(blk_cell BK113.out 0).trans rfl, (blk_cell BK113.out 1).trans rfl, (blk_cell BK101.out 0).trans rfl, (blk_cell BK101.out 1).trans rfl⟩ (fun hHeld => ?_)
            generalize wc.drew = w32 at HO_114001 BK101 BK113 HB hHeld ⊢
            refine take_ (i := 0) (N := some 39) (v := ?_) (a' := ?_) #[true, false, false, false, false] rfl rfl (by kernel_rfl) (fun _ _ _ h => h) (Or.inl ⟨by rfl, ?_⟩) hHeld ?_ ?_
            rotate_left
            · rintro w' ⟨s0, s1, s2, s3⟩
              go_simp
              with_reducible rfl
            rotate_left
            · simp only [Act.put, List.setIfInBounds_toArray, List.set_cons_zero, List.set_cons_succ, i64_w, i32_w]
              rfl
            refine take_ (i := 1) (N := some 40) (v := ?_) (a' := ?_) #[true, true, false, false, false] rfl rfl (by kernel_rfl) (fun _ _ _ h => h) (Or.inl ⟨by rfl, ?_⟩) hHeld ?_ ?_
            rotate_left
            · rintro w' ⟨s0, s1, s2, s3⟩
              go_simp
              with_reducible rfl
            rotate_left
            · simp only [Act.put, List.setIfInBounds_toArray, List.set_cons_zero, List.set_cons_succ, i64_w, i32_w]
              rfl
            refine one_ (i := 2) (N := some 41) #[true, true, true, false, false] rfl rfl (by kernel_rfl) (by decide) (fun K hK => ?_)
            refine goes_ Try.func16 (by kernel_rfl) rfl #[.agg #[.int .i64 a1_0, .slice A1_1 l1_1.length c1_1]] (by rfl) rfl rfl (by (try simp only [List.map_toArray, List.map_cons, List.map_nil]); first | done | rfl | (simp only [List.length_drop, List.length_take]; rfl)) ?_
            with_reducible refine (laws_toDiagram.calls kj11 a1_0 _ _ l1_1 t116 t117 _ ?side1 ?side2 A29.out).mono ?_
            (case side1 => repeat (first | exact (Kd.C_below HR1_1.out HB.out) | (with_reducible refine Kd.C_alloc ?_ _) | (with_reducible refine Kd.C_drewN ?_ _) | (with_reducible refine Kd.C_drew ?_)))
            (case side2 => exact HC1_1.out)
            rintro e w33 ⟨v118, rfl, ho0, hb⟩
            refine ⟨_, rfl, ?_⟩
            have n0_ := Aside0.mk (Kd.R_elder' (by (with_reducible repeat (first | apply Kd.R_alloc | apply Kd.R_drewN | apply Kd.R_drew)); exact HO_114001.out) (Kd.R_base ho0) hb)
            have n1_ := Aside0.mk (Kd.R_lower (Kd.R_new' ho0 (Kd.R_lt (by (with_reducible repeat (first | apply Kd.R_alloc | apply Kd.R_drewN | apply Kd.R_drew)); exact HO_114001.out))) (below_size (by repeat (first | (with_reducible first | exact HB.out | apply below_alloc | apply pw_below_drewN | apply below_drew1 | refine below_set ?_ GE101.out | refine below_set ?_ GE113.out) | exact HB.out))))
            have n2_ := Aside0.mk (blk_below (g := gb101) (o := .cells #[.int .i64 a1_0, .slice A1_1 l1_1.length c1_1] 24 (0, 0)) (by (with_reducible repeat (first | refine blk_drewN ?_ _ | refine blk_drew ?_ | refine blk_alloc ?_ _)); exact BK101.out) hb)
            have n3_ := Aside0.mk (blk_below (g := gb113) (o := .cells #[.int .i64 t109, .slice Ao25 t110.length co25] 29 (0, 0)) (by (with_reducible repeat (first | refine blk_drewN ?_ _ | refine blk_drew ?_ | refine blk_alloc ?_ _)); exact BK113.out) hb)
            have n4_ := Aside0.mk (below_step (by repeat (first | (with_reducible first | exact HB.out | apply below_alloc | apply pw_below_drewN | apply below_drew1 | refine below_set ?_ GE101.out | refine below_set ?_ GE113.out) | exact HB.out)) hb)
            clear HO_114001
            clear BK101
            clear BK113
            clear HB
            have HO_114001 := n0_
            have HO119 := n1_
            have BK101 := n2_
            have BK113 := n3_
            have HB := n4_
            clear n0_ n1_ n2_ n3_ n4_
            (try clear hb)
            (try clear hb2)
            (try clear hk)
            (try clear hi)
            (try clear ho0)
            obtain ⟨Ao34, co34, eo34⟩ := Kd.R_slice HO119.out
            (first | subst eo34 | (injection eo34 with f1_ f2_ f3_; have f4_ := f1_.symm; have f5_ := f3_.symm; clear f1_ f2_ f3_; subst f4_; subst f5_))
            refine hK.out _ _ ⟨(blk_cell BK113.out 0).trans rfl, (blk_cell BK113.out 1).trans rfl, (blk_cell BK101.out 0).trans rfl, (blk_cell BK101.out 1).trans rfl⟩ (fun hHeld => ?_)
            clear hK K
            refine norm_ (a' := ?_) ?_ ?_
            rotate_left
            · show Act.put _ (some 41) _ = _
              simp only [Act.put, List.setIfInBounds_toArray, List.set_cons_zero, List.set_cons_succ, i64_w, i32_w]
              rfl
            refine one_ (i := 3) (N := some 42) #[true, true, true, true, false] rfl rfl (by kernel_rfl) (by decide) (fun K hK => ?_)
            refine goes_ Try.func18 (by kernel_rfl) rfl #[.agg #[.int .i64 t109, .slice Ao25 t110.length co25], .agg #[.int .i64 t116, .slice Ao34 t117.length co34]] (by rfl) rfl rfl (by (try simp only [List.map_toArray, List.map_cons, List.map_nil]); first | done | rfl | (simp only [List.length_drop, List.length_take]; rfl)) ?_
            with_reducible refine (laws_eqDiagram.calls kj11 t109 _ _ t110 t116 _ _ t117 true _ ?side1 ?side2 ?side3 ?side4 A30.out).mono ?_
            (case side1 => repeat (first | exact (Kd.R_reads' HO_114001.out).2.2 | (with_reducible refine Kd.C_alloc ?_ _) | (with_reducible refine Kd.C_drewN ?_ _) | (with_reducible refine Kd.C_drew ?_)))
            (case side2 => exact (Kd.R_reads' HO_114001.out).2.1)
            (case side3 => repeat (first | exact (Kd.R_reads' HO119.out).2.2 | (with_reducible refine Kd.C_alloc ?_ _) | (with_reducible refine Kd.C_drewN ?_ _) | (with_reducible refine Kd.C_drew ?_)))
            (case side4 => exact (Kd.R_reads' HO119.out).2.1)
            rintro e w35 ⟨rfl, hb⟩
            refine ⟨_, rfl, ?_⟩
            have n0_ := Aside0.mk (Kd.R_below (by (with_reducible repeat (first | apply Kd.R_alloc | apply Kd.R_drewN | apply Kd.R_drew)); exact HO_114001.out) hb)
            have n1_ := Aside0.mk (Kd.R_below (by (with_reducible repeat (first | apply Kd.R_alloc | apply Kd.R_drewN | apply Kd.R_drew)); exact HO119.out) hb)
            have n2_ := Aside0.mk (blk_below (g := gb101) (o := .cells #[.int .i64 a1_0, .slice A1_1 l1_1.length c1_1] 24 (0, 0)) (by (with_reducible repeat (first | refine blk_drewN ?_ _ | refine blk_drew ?_ | refine blk_alloc ?_ _)); exact BK101.out) hb)
            have n3_ := Aside0.mk (blk_below (g := gb113) (o := .cells #[.int .i64 t109, .slice Ao25 t110.length co25] 29 (0, 0)) (by (with_reducible repeat (first | refine blk_drewN ?_ _ | refine blk_drew ?_ | refine blk_alloc ?_ _)); exact BK113.out) hb)
            have n4_ := Aside0.mk (below_step (by repeat (first | (with_reducible first | exact HB.out | apply below_alloc | apply pw_below_drewN | apply below_drew1 | refine below_set ?_ GE101.out | refine below_set ?_ GE113.out) | exact HB.out)) hb)
            clear HO_114001
            clear HO119
            clear BK101
            clear BK113
            clear HB
            have HO_114001 := n0_
            have HO119 := n1_
            have BK101 := n2_
            have BK113 := n3_
            have HB := n4_
            clear n0_ n1_ n2_ n3_ n4_
            (try clear hb)
            (try clear hb2)
            (try clear hk)
            (try clear hi)
            refine hK.out _ _ ⟨(blk_cell BK113.out 0).trans rfl, (blk_cell BK113.out 1).trans rfl, (blk_cell BK101.out 0).trans rfl, (blk_cell BK101.out 1).trans rfl⟩ (fun hHeld => ?_)
            clear hK K
            refine norm_ (a' := ?_) ?_ ?_
            rotate_left
            · show Act.put _ (some 42) _ = _
              simp only [Act.put, List.setIfInBounds_toArray, List.set_cons_zero, List.set_cons_succ, i64_w, i32_w]
              rfl
            refine pure_ (i := 4) (N := some 43) (v := ?_) (a' := ?_) #[true, true, true, true, true] rfl rfl (by kernel_rfl) (fun _ _ _ h => h) (Or.inl ⟨by rfl, ?_⟩) ?_ ?_
            rotate_left
            · intro w'
              go_simp
              with_reducible rfl
            rotate_left
            · simp only [Act.put, List.setIfInBounds_toArray, List.set_cons_zero, List.set_cons_succ, i64_w, i32_w]
              rfl
            refine done_ (by kernel_rfl) ?_
            try go_wp2
            go_ret
            exact ⟨by first | rfl | (simp [errW_none, errW_some] <;> rfl) | (simp [*, errW_none, errW_some] <;> rfl), by repeat (first | (with_reducible first | exact HB.out | apply below_alloc | apply pw_below_drewN | apply below_drew1 | refine below_set ?_ GE101.out | refine below_set ?_ GE113.out) | exact HB.out)⟩
          · replace c31 := Bool.eq_false_iff.mpr c31
            subst c31
            have H1 : (some false) = some r := by rw [if_neg (show ¬ (false = true) by decide)] at H; exact H
            clear H
            have H := H1
            clear H1
            obtain rfl := Option.some.inj H
            try go_wp2
            have n0_ := Aside0.mk (Kd.R_drew HO_114001.out)
            have n1_ := Aside0.mk (blk_drew BK101.out)
            have n2_ := Aside0.mk (blk_drew BK113.out)
            have n3_ := Aside0.mk (below_drew1 HB.out)
            clear HO_114001
            clear BK101
            clear BK113
            clear HB
            have HO_114001 := n0_
            have BK101 := n1_
            have BK113 := n2_
            have HB := n3_
            clear n0_ n1_ n2_ n3_
            refine start_ (n := 5) (S := fun w' => w'.cell? ⟨gb113, 0, none⟩ = some (.int .i64 t109) ∧ w'.cell? ⟨gb113, 1, none⟩ = some (.slice Ao25 t110.length co25) ∧ w'.cell? ⟨gb101, 0, none⟩ = some (.int .i64 a1_0) ∧ w'.cell? ⟨gb101, 1, none⟩ = some (.slice A1_1 l1_1.length c1_1)) (ds := []) #[false, false, false, false, false] (by kernel_rfl) rfl rfl ⟨(blk_cell BK113.out 0).trans rfl, (blk_cell BK113.out 1).trans rfl, (blk_cell BK101.out 0).trans rfl, (blk_cell BK101.out 1).trans rfl⟩ (fun hHeld => ?_)
            generalize wc.drew = w36 at HO_114001 BK101 BK113 HB hHeld ⊢
            refine take_ (i := 0) (N := some 39) (v := ?_) (a' := ?_) #[true, false, false, false, false] rfl rfl (by kernel_rfl) (fun _ _ _ h => h) (Or.inl ⟨by rfl, ?_⟩) hHeld ?_ ?_
            rotate_left
            · rintro w' ⟨s0, s1, s2, s3⟩
              go_simp
              with_reducible rfl
            rotate_left
            · simp only [Act.put, List.setIfInBounds_toArray, List.set_cons_zero, List.set_cons_succ, i64_w, i32_w]
              rfl
            refine take_ (i := 1) (N := some 40) (v := ?_) (a' := ?_) #[true, true, false, false, false] rfl rfl (by kernel_rfl) (fun _ _ _ h => h) (Or.inl ⟨by rfl, ?_⟩) hHeld ?_ ?_
            rotate_left
            · rintro w' ⟨s0, s1, s2, s3⟩
              go_simp
              with_reducible rfl
            rotate_left
            · simp only [Act.put, List.setIfInBounds_toArray, List.set_cons_zero, List.set_cons_succ, i64_w, i32_w]
              rfl
            refine one_ (i := 2) (N := some 41) #[true, true, true, false, false] rfl rfl (by kernel_rfl) (by decide) (fun K hK => ?_)
            refine goes_ Try.func16 (by kernel_rfl) rfl #[.agg #[.int .i64 a1_0, .slice A1_1 l1_1.length c1_1]] (by rfl) rfl rfl (by (try simp only [List.map_toArray, List.map_cons, List.map_nil]); first | done | rfl | (simp only [List.length_drop, List.length_take]; rfl)) ?_
            with_reducible refine (laws_toDiagram.calls kj11 a1_0 _ _ l1_1 t116 t117 _ ?side1 ?side2 A29.out).mono ?_
            (case side1 => repeat (first | exact (Kd.C_below HR1_1.out HB.out) | (with_reducible refine Kd.C_alloc ?_ _) | (with_reducible refine Kd.C_drewN ?_ _) | (with_reducible refine Kd.C_drew ?_)))
            (case side2 => exact HC1_1.out)
            rintro e w37 ⟨v118, rfl, ho0, hb⟩
            refine ⟨_, rfl, ?_⟩
            have n0_ := Aside0.mk (Kd.R_elder' (by (with_reducible repeat (first | apply Kd.R_alloc | apply Kd.R_drewN | apply Kd.R_drew)); exact HO_114001.out) (Kd.R_base ho0) hb)
            have n1_ := Aside0.mk (Kd.R_lower (Kd.R_new' ho0 (Kd.R_lt (by (with_reducible repeat (first | apply Kd.R_alloc | apply Kd.R_drewN | apply Kd.R_drew)); exact HO_114001.out))) (below_size (by repeat (first | (with_reducible first | exact HB.out | apply below_alloc | apply pw_below_drewN | apply below_drew1 | refine below_set ?_ GE101.out | refine below_set ?_ GE113.out) | exact HB.out))))
            have n2_ := Aside0.mk (blk_below (g := gb101) (o := .cells #[.int .i64 a1_0, .slice A1_1 l1_1.length c1_1] 24 (0, 0)) (by (with_reducible repeat (first | refine blk_drewN ?_ _ | refine blk_drew ?_ | refine blk_alloc ?_ _)); exact BK101.out) hb)
            have n3_ := Aside0.mk (blk_below (g := gb113) (o := .cells #[.int .i64 t109, .slice Ao25 t110.length co25] 29 (0, 0)) (by (with_reducible repeat (first | refine blk_drewN ?_ _ | refine blk_drew ?_ | refine blk_alloc ?_ _)); exact BK113.out) hb)
            have n4_ := Aside0.mk (below_step (by repeat (first | (with_reducible first | exact HB.out | apply below_alloc | apply pw_below_drewN | apply below_drew1 | refine below_set ?_ GE101.out | refine below_set ?_ GE113.out) | exact HB.out)) hb)
            clear HO_114001
            clear BK101
            clear BK113
            clear HB
            have HO_114001 := n0_
            have HO119 := n1_
            have BK101 := n2_
            have BK113 := n3_
            have HB := n4_
            clear n0_ n1_ n2_ n3_ n4_
            (try clear hb)
            (try clear hb2)
            (try clear hk)
            (try clear hi)
            (try clear ho0)
            obtain ⟨Ao38, co38, eo38⟩ := Kd.R_slice HO119.out
            (first | subst eo38 | (injection eo38 with f1_ f2_ f3_; have f4_ := f1_.symm; have f5_ := f3_.symm; clear f1_ f2_ f3_; subst f4_; subst f5_))
            refine hK.out _ _ ⟨(blk_cell BK113.out 0).trans rfl, (blk_cell BK113.out 1).trans rfl, (blk_cell BK101.out 0).trans rfl, (blk_cell BK101.out 1).trans rfl⟩ (fun hHeld => ?_)
            clear hK K
            refine norm_ (a' := ?_) ?_ ?_
            rotate_left
            · show Act.put _ (some 41) _ = _
              simp only [Act.put, List.setIfInBounds_toArray, List.set_cons_zero, List.set_cons_succ, i64_w, i32_w]
              rfl
            refine one_ (i := 3) (N := some 42) #[true, true, true, true, false] rfl rfl (by kernel_rfl) (by decide) (fun K hK => ?_)
            refine goes_ Try.func18 (by kernel_rfl) rfl #[.agg #[.int .i64 t109, .slice Ao25 t110.length co25], .agg #[.int .i64 t116, .slice Ao38 t117.length co38]] (by rfl) rfl rfl (by (try simp only [List.map_toArray, List.map_cons, List.map_nil]); first | done | rfl | (simp only [List.length_drop, List.length_take]; rfl)) ?_
            with_reducible refine (laws_eqDiagram.calls kj11 t109 _ _ t110 t116 _ _ t117 false _ ?side1 ?side2 ?side3 ?side4 A30.out).mono ?_
            (case side1 => repeat (first | exact (Kd.R_reads' HO_114001.out).2.2 | (with_reducible refine Kd.C_alloc ?_ _) | (with_reducible refine Kd.C_drewN ?_ _) | (with_reducible refine Kd.C_drew ?_)))
            (case side2 => exact (Kd.R_reads' HO_114001.out).2.1)
            (case side3 => repeat (first | exact (Kd.R_reads' HO119.out).2.2 | (with_reducible refine Kd.C_alloc ?_ _) | (with_reducible refine Kd.C_drewN ?_ _) | (with_reducible refine Kd.C_drew ?_)))
            (case side4 => exact (Kd.R_reads' HO119.out).2.1)
            rintro e w39 ⟨rfl, hb⟩
            refine ⟨_, rfl, ?_⟩
            have n0_ := Aside0.mk (Kd.R_below (by (with_reducible repeat (first | apply Kd.R_alloc | apply Kd.R_drewN | apply Kd.R_drew)); exact HO_114001.out) hb)
            have n1_ := Aside0.mk (Kd.R_below (by (with_reducible repeat (first | apply Kd.R_alloc | apply Kd.R_drewN | apply Kd.R_drew)); exact HO119.out) hb)
            have n2_ := Aside0.mk (blk_below (g := gb101) (o := .cells #[.int .i64 a1_0, .slice A1_1 l1_1.length c1_1] 24 (0, 0)) (by (with_reducible repeat (first | refine blk_drewN ?_ _ | refine blk_drew ?_ | refine blk_alloc ?_ _)); exact BK101.out) hb)
            have n3_ := Aside0.mk (blk_below (g := gb113) (o := .cells #[.int .i64 t109, .slice Ao25 t110.length co25] 29 (0, 0)) (by (with_reducible repeat (first | refine blk_drewN ?_ _ | refine blk_drew ?_ | refine blk_alloc ?_ _)); exact BK113.out) hb)
            have n4_ := Aside0.mk (below_step (by repeat (first | (with_reducible first | exact HB.out | apply below_alloc | apply pw_below_drewN | apply below_drew1 | refine below_set ?_ GE101.out | refine below_set ?_ GE113.out) | exact HB.out)) hb)
            clear HO_114001
            clear HO119
            clear BK101
            clear BK113
            clear HB
            have HO_114001 := n0_
            have HO119 := n1_
            have BK101 := n2_
            have BK113 := n3_
            have HB := n4_
            clear n0_ n1_ n2_ n3_ n4_
            (try clear hb)
            (try clear hb2)
            (try clear hk)
            (try clear hi)
            refine hK.out _ _ ⟨(blk_cell BK113.out 0).trans rfl, (blk_cell BK113.out 1).trans rfl, (blk_cell BK101.out 0).trans rfl, (blk_cell BK101.out 1).trans rfl⟩ (fun hHeld => ?_)
            clear hK K
            refine norm_ (a' := ?_) ?_ ?_
            rotate_left
            · show Act.put _ (some 42) _ = _
              simp only [Act.put, List.setIfInBounds_toArray, List.set_cons_zero, List.set_cons_succ, i64_w, i32_w]
              rfl
            refine pure_ (i := 4) (N := some 43) (v := ?_) (a' := ?_) #[true, true, true, true, true] rfl rfl (by kernel_rfl) (fun _ _ _ h => h) (Or.inl ⟨by rfl, ?_⟩) ?_ ?_
            rotate_left
            · intro w'
              go_simp
              with_reducible rfl
            rotate_left
            · simp only [Act.put, List.setIfInBounds_toArray, List.set_cons_zero, List.set_cons_succ, i64_w, i32_w]
              rfl
            refine done_ (by kernel_rfl) ?_
            try go_wp2
            go_ret
            exact ⟨by first | rfl | (simp [errW_none, errW_some] <;> rfl) | (simp [*, errW_none, errW_some] <;> rfl), by repeat (first | (with_reducible first | exact HB.out | apply below_alloc | apply pw_below_drewN | apply below_drew1 | refine below_set ?_ GE101.out | refine below_set ?_ GE113.out) | exact HB.out)⟩

end Go.Proofs.Ytggjpogcimdepaa.Print
namespace Go.Proofs.Ytggjpogcimdepaa.Print
def laws_FnExactIsReducedDiagram.Pure : Prop := ∀ (a0 : Int) (a1_0 : Int) (l1_1 : List (S99)), (Lit.int .i64 a0).wf = true → ((Lit.int .i64 a1_0).wf = true ∧ (l1_1.length ≤ maxLen ∧ ∀ x22 ∈ l1_1, ((Lit.int .i64 x22.f0).wf = true ∧ (Lit.int .i64 x22.f1).wf = true ∧ (Lit.int .i64 x22.f2).wf = true))) → ∃ k, laws_FnExactIsReducedDiagram.f k a0 a1_0 l1_1 = some true
end Go.Proofs.Ytggjpogcimdepaa.Print
namespace Go.Proofs.Ytggjpogcimdepaa.DiagA
open Go.RowKit Go.Proofs.YtggjpogcimdepaaW.PrintWords Go.Proofs.YtggjpogcimdepaaW.PrintMore Go.Proofs.Ytggjpogcimdepaa.XEv Go.Proofs.Ytggjpogcimdepaa.Print Go.Proofs.Ytggjpogcimdepaa.Man
set_option linter.unusedVariables false
set_option linter.unusedSimpArgs false
def ob (v b : Nat) : Int := Go.bits .or .i64 (b : Int) (wrap64 (2 ^ (v - 1)))
theorem ob_all : ∀ v, v < 7 → ∀ b, b < 32 → 1 ≤ v → b < 2 ^ (v - 1) → 0 ≤ ob v b ∧ ob v b < ((2 ^ v : Nat) : Int) := by decide +kernel
theorem ob_range {v bits : Int} (h1 : 1 ≤ v) (h6 : v ≤ 6) (h0 : 0 ≤ bits) (hb : bits < ((2 ^ (v.toNat - 1) : Nat) : Int)) :
    0 ≤ Go.bits .or .i64 bits (wrap64 (2 ^ (v.toNat - 1))) ∧ Go.bits .or .i64 bits (wrap64 (2 ^ (v.toNat - 1))) < ((2 ^ v.toNat : Nat) : Int) := by
  obtain ⟨n, rfl⟩ := Int.eq_ofNat_of_zero_le (show 0 ≤ v by omega)
  obtain ⟨b, rfl⟩ := Int.eq_ofNat_of_zero_le h0
  rw [Int.toNat_natCast] at hb ⊢
  have h5 : (2 : Nat) ^ (n - 1) ≤ 2 ^ 5 := Nat.pow_le_pow_right (by omega) (by omega)
  exact ob_all n (by omega) b (by omega) (by omega) (by omega)
theorem shl1' {v : Int} (h1 : 1 ≤ v) (h6 : v ≤ 6) : shl .i64 1 (wrap64 (v - 1)) = wrap64 (2 ^ (v.toNat - 1)) := by
  rw [wrap_in (n := v - 1) (by omega) (by omega), shl1 (by omega) (by omega)]
  obtain ⟨n, rfl⟩ := Int.eq_ofNat_of_zero_le (show 0 ≤ v by omega)
  rw [Int.toNat_natCast, show ((n : Int) - 1).toNat = n - 1 by omega]
  have h5 : (2 : Nat) ^ (n - 1) ≤ 2 ^ 5 := Nat.pow_le_pow_right (by omega) (by omega)
  have e : ((2 : Int) ^ (n - 1)) = ((2 ^ (n - 1) : Nat) : Int) := (Int.natCast_pow 2 (n - 1)).symm
  rw [e]
  have h7 : (2 : Nat) ^ 5 = 32 := rfl
  rw [h7] at h5
  generalize (2 : Nat) ^ (n - 1) = q at h5 ⊢
  rw [wrap_in (by omega) (by omega)]
theorem bq (a b : Int) : (a == b) = (b == a) := BEq.comm
theorem find_ (nodes : List S97) (hl : nodes.length ≤ 1000) (n : S97) : ∀ (r q : List S97), nodes = q ++ r →
    Ev (fun k => spec_l26Plan.l0 k nodes (q.length : Int) n.f0 n.f1 n.f2) (if nidx r n < 0 then (nodes ++ [n], (nodes.length : Int) + 2) else (nodes, (q.length : Int) + nidx r n + 2))
  | [], q, h => by
    subst h
    refine estep (fun k => spec_l26Plan.l0.eq_2 (k := k) ..) (eneg (by simp) (epos (by omega) (eok ?_)))
    rw [wrap_in (by omega) (by omega)]
    simp [nidx]
  | x :: r, q, h => by
    have hr : rd_T97 nodes (q.length : Int) = x := by subst h; simp [rd_T97]
    have hl2 : (q.length : Int) < nodes.length := by subst h; simp; omega
    refine estep (fun k => spec_l26Plan.l0.eq_2 (k := k) ..) (epos hl2 (epos (by omega) ?_))
    rw [hr, bq x.f0, bq x.f1, bq x.f2]
    by_cases e : (n.f0 == x.f0 && (n.f1 == x.f1 && n.f2 == x.f2)) = true
    · refine epos e (eok ?_)
      rw [nidx_hit e, wrap_in (by omega) (by omega)]
      simp
    · refine eneg e ?_
      rw [wrap_in (by omega) (by omega), show (q.length : Int) + 1 = ((q ++ [x]).length : Int) by simp]
      refine ecast (find_ nodes hl n r (q ++ [x]) (by rw [h]; simp)) ?_
      have hge := nidx_ge n r
      rw [nidx_miss e]
      by_cases h0 : nidx r n < 0
      · simp [h0]
      · rw [if_neg h0, if_neg h0, if_neg (by omega)]
        simp
        omega
theorem plan_ (vars : Int) (h0 : 0 ≤ vars) (h6 : vars ≤ 6) (values : List Bool) (p : Int → Bool) (hlen : values.length = 2 ^ vars.toNat) (hval : ∀ b : Nat, b < 2 ^ vars.toNat → rdOf false values (b : Int) = p (b : Int)) :
    ∀ (m : Nat) (v bits : Int) (nodes : List S97), 1 ≤ v → v ≤ vars + 1 → vars + 1 - v < m → 0 ≤ bits → bits < ((2 ^ (v.toNat - 1) : Nat) : Int) → nodes.length + 2 ^ m ≤ 1000 →
      Ev (fun k => spec_l26Plan.f k vars values v bits nodes) (bplan vars p m v bits nodes)
  | 0, v, bits, nodes, h1, h2, h3, h4, h5, h6 => by omega
  | m + 1, v, bits, nodes, h1, h2, h3, h4, h5, hn => by
    rw [bplan]
    refine estep (fun k => spec_l26Plan.f.eq_2 (k := k) ..) ?_
    by_cases hv : v > vars
    · obtain ⟨b, rfl⟩ := Int.eq_ofNat_of_zero_le h4
      have hvv : v.toNat - 1 = vars.toNat := by omega
      rw [hvv] at h5
      refine epos hv (epos h4 (epos (by rw [hlen]; exact h5) ?_))
      rw [if_pos hv, hval b (by omega)]
      by_cases hp : p (b : Int) = true
      · exact epos hp (eok (by simp [hp]))
      · exact eneg hp (eok (by simp [hp]))
    · have hp2 : 2 ^ (m + 1) = 2 ^ m + 2 ^ m := by rw [Nat.pow_succ]; omega
      have hq : 1 ≤ 2 ^ m := Nat.one_le_two_pow
      have hvt : (v + 1).toNat - 1 = v.toNat := by omega
      have hmono : (2 : Nat) ^ (v.toNat - 1) ≤ 2 ^ v.toNat := Nat.pow_le_pow_right (by omega) (by omega)
      have hob := ob_range h1 (by omega) h4 h5
      have ha := plan_ vars h0 h6 values p hlen hval m (v + 1) bits nodes (by omega) (by omega) (by omega) h4 (by rw [hvt]; omega) (by omega)
      have hla := bplan_len vars p m (v + 1) bits nodes
      have hb := plan_ vars h0 h6 values p hlen hval m (v + 1) (Go.bits .or .i64 bits (wrap64 (2 ^ (v.toNat - 1)))) (bplan vars p m (v + 1) bits nodes).1 (by omega) (by omega) (by omega) hob.1 (by rw [hvt]; exact hob.2) (by omega)
      have hlb := bplan_len vars p m (v + 1) (Go.bits .or .i64 bits (wrap64 (2 ^ (v.toNat - 1)))) (bplan vars p m (v + 1) bits nodes).1
      rw [if_neg hv]
      refine eneg hv ?_
      rw [wrap_in (n := v + 1) (by omega) (by omega), shl1' h1 (by omega)]
      refine ebind ha (epos (by rw [wrap_in (by omega) (by omega)]; omega) (ebind hb ?_))
      dsimp only
      generalize bplan vars p m (v + 1) bits nodes = a at *
      generalize bplan vars p m (v + 1) (Go.bits .or .i64 bits (wrap64 (2 ^ (v.toNat - 1)))) a.1 = b at *
      by_cases he : a.2 = b.2
      · rw [if_pos he]
        exact epos he (eok rfl)
      · rw [if_neg he]
        refine eneg he ?_
        have hf := find_ b.1 (by omega) ⟨v, a.2, b.2⟩ b.1 [] rfl
        refine ecast hf ?_
        by_cases hi : nidx b.1 ⟨v, a.2, b.2⟩ < 0
        · rw [if_pos hi, if_pos hi]
        · rw [if_neg hi, if_neg hi]
          simp
/-- The reference's diagram of values. -/
theorem of_ (vars : Int) (h0 : 0 ≤ vars) (h6 : vars ≤ 6) (values : List Bool) (p : Int → Bool) (hlen : values.length = 2 ^ vars.toNat) (hval : ∀ b : Nat, b < 2 ^ vars.toNat → rdOf false values (b : Int) = p (b : Int)) :
    Ev (fun k => spec_l26Of.f k vars values) ((bplan vars p 8 1 0 []).2, (bplan vars p 8 1 0 []).1) := by
  unfold spec_l26Of.f
  exact ebind (plan_ vars h0 h6 values p hlen hval 8 1 0 [] (by omega) (by omega) (by omega) (by omega) (by decide) (by decide)) (eok rfl)
theorem rdOf_at (l : List Bool) (n : Nat) (h : n < l.length) : rdOf false l (n : Int) = l[n] := by simp [rdOf, h]
theorem ofVals (vars root : Int) (ns : List S97) (hg : Good vars root ns) : Ev (fun k => spec_l26Of.f k vars (values vars root ns)) ((bplan vars (dval ns root) 8 1 0 []).2, (bplan vars (dval ns root) 8 1 0 []).1) :=
  of_ vars hg.1 hg.2.1 _ _ (values_length vars root ns) (fun b hb => by
    have h1 := values_at vars root ns b hb
    obtain ⟨hlt, he⟩ := List.getElem?_eq_some_iff.1 h1
    rw [rdOf_at _ _ hlt, he])
end Go.Proofs.Ytggjpogcimdepaa.DiagA
namespace Go.Proofs.Ytggjpogcimdepaa.DiagA
open Go.RowKit Go.Proofs.YtggjpogcimdepaaW.PrintWords Go.Proofs.YtggjpogcimdepaaW.PrintMore Go.Proofs.Ytggjpogcimdepaa.XEv Go.Proofs.Ytggjpogcimdepaa.Print
set_option linter.unusedVariables false
set_option linter.unusedSimpArgs false
theorem nne (x y : S97) : (!(x.f0 == y.f0) || (!(x.f1 == y.f1) || !(x.f2 == y.f2))) = !decide (x = y) := by
  cases x
  cases y
  rw [Bool.eq_iff_iff]
  simp only [Bool.or_eq_true, Bool.not_eq_true', beq_eq_false_iff_ne, decide_eq_false_iff_not, S97.mk.injEq, ne_eq]
  constructor
  · rintro (h | h | h) ⟨h1, h2, h3⟩
    · exact h h1
    · exact h h2
    · exact h h3
  · intro h
    by_cases h1 : ‹Int› = ‹Int›
    all_goals omega
theorem rdN_at (l : List S97) (n : Nat) (h : n < l.length) : rd_T97 l (n : Int) = l[n] := by simp [rd_T97, h]
theorem specSame_l (a b : Int) (l m : List S97) (hl : l.length ≤ 1048576) (hm : l.length = m.length) : ∀ (d : Nat) (i : Nat), i + d = l.length →
    Ev (fun k => spec_l26Same.l0 k (i : Int) a l b m) (decide (l.drop i = m.drop i)) ∧ Ev (fun k => impl_BddNode_92.l0 k l m (l.length : Int) (i : Int)) (decide (l.drop i = m.drop i)) := by
  intro d
  induction d with
  | zero =>
    intro i hi
    have e : decide (l.drop i = m.drop i) = true := by rw [List.drop_of_length_le (by omega), List.drop_of_length_le (by omega)]; rfl
    rw [e]
    exact ⟨estep (fun k => spec_l26Same.l0.eq_2 (k := k) ..) (eneg (by omega) (eok rfl)), estep (fun k => impl_BddNode_92.l0.eq_2 (k := k) ..) (eneg (by omega) (eok rfl))⟩
  | succ d ih =>
    intro i hi
    have h1 : i < l.length := by omega
    have h2 : i < m.length := by omega
    have hdl : l.drop i = l[i] :: l.drop (i + 1) := List.drop_eq_getElem_cons h1
    have hdm : m.drop i = m[i] :: m.drop (i + 1) := List.drop_eq_getElem_cons h2
    obtain ⟨i1, i2⟩ := ih (i + 1) (by omega)
    have hw : wrap64 ((i : Int) + 1) = ((i + 1 : Nat) : Int) := by rw [wrap_in (by omega) (by omega)]; omega
    by_cases he : l[i] = m[i]
    · have e : decide (l.drop i = m.drop i) = decide (l.drop (i + 1) = m.drop (i + 1)) := by rw [hdl, hdm, he]; simp only [List.cons.injEq, true_and]
      have hn : ¬ (!(l[i].f0 == m[i].f0) || (!(l[i].f1 == m[i].f1) || !(l[i].f2 == m[i].f2))) = true := by rw [nne]; simp [he]
      rw [e]
      refine ⟨estep (fun k => spec_l26Same.l0.eq_2 (k := k) ..) (epos (by omega) (epos (by omega) (epos (by omega) ?_))), estep (fun k => impl_BddNode_92.l0.eq_2 (k := k) ..) (epos (by omega) (epos (by omega) (epos (by omega) (epos (by omega) ?_))))⟩
      · rw [rdN_at l i h1, rdN_at m i h2, hw]
        exact eneg hn i1
      · rw [rdN_at l i h1, rdN_at m i h2, hw]
        exact eneg hn i2
    · have e : decide (l.drop i = m.drop i) = false := by rw [hdl, hdm]; simp only [List.cons.injEq, he, false_and, decide_false]
      have hn : (!(l[i].f0 == m[i].f0) || (!(l[i].f1 == m[i].f1) || !(l[i].f2 == m[i].f2))) = true := by rw [nne]; simp [he]
      rw [e]
      refine ⟨estep (fun k => spec_l26Same.l0.eq_2 (k := k) ..) (epos (by omega) (epos (by omega) (epos (by omega) ?_))), estep (fun k => impl_BddNode_92.l0.eq_2 (k := k) ..) (epos (by omega) (epos (by omega) (epos (by omega) (epos (by omega) ?_))))⟩
      · rw [rdN_at l i h1, rdN_at m i h2]
        exact epos hn (eok rfl)
      · rw [rdN_at l i h1, rdN_at m i h2]
        exact epos hn (eok rfl)
theorem specSame (a b : Int) (l m : List S97) (hl : l.length ≤ 1048576) : Ev (fun k => spec_l26Same.f k a l b m) (decide (a = b ∧ l = m)) := by
  unfold spec_l26Same.f
  by_cases hab : a = b
  · refine epos hab (estep (fun k => spec_l26Same.j0.eq_2 (k := k) ..) ?_)
    by_cases hlm : l.length = m.length
    · refine eneg (by simp [hlm]) (ecast (specSame_l a b l m hl hlm l.length 0 (by omega)).1 ?_)
      simp [hab]
    · refine epos (by simp; omega) (eok ?_)
      have : l ≠ m := fun h => hlm (by rw [h])
      simp [this]
  · exact eneg hab (estep (fun k => spec_l26Same.j0.eq_2 (k := k) ..) (epos rfl (eok (by simp [hab]))))
theorem implSame (a b : Int) (l m : List S97) (hl : l.length ≤ 1048576) : Ev (fun k => impl_sameDiagram.f k a l b m) (decide (a = b ∧ l = m)) := by
  unfold impl_sameDiagram.f
  by_cases hab : a = b
  · refine epos hab (ebind (a := decide (l = m)) ?_ (eok (by simp [hab])))
    unfold impl_BddNode_92.f
    by_cases hlm : l.length = m.length
    · refine epos (by omega) (ecast (specSame_l a b l m hl hlm l.length 0 (by omega)).2 ?_)
      simp
    · refine eneg (by omega) (eok ?_)
      have : l ≠ m := fun h => hlm (by rw [h])
      simp [this]
  · exact eneg hab (eok (by simp [hab]))
end Go.Proofs.Ytggjpogcimdepaa.DiagA
namespace Go.Proofs.Ytggjpogcimdepaa.Pure
open Go.RowKit Go.Proofs.YtggjpogcimdepaaW.PrintWords Go.Proofs.YtggjpogcimdepaaW.PrintMore Go.Proofs.Ytggjpogcimdepaa.XEv Go.Proofs.Ytggjpogcimdepaa.Print Go.Proofs.Ytggjpogcimdepaa.DiagA Go.Proofs.Ytggjpogcimdepaa.Man
set_option linter.unusedVariables false
set_option linter.unusedSimpArgs false
theorem FnExactIsReducedDiagram : laws_FnExactIsReducedDiagram.Pure := by
  intro vars root l _ h
  obtain ⟨_, hl, _⟩ := h
  refine Ev.rounds ?_
  unfold laws_FnExactIsReducedDiagram.f
  refine ebind1 (sz root l 1048576 hl (by omega)) ?_
  by_cases hs : (l.length : Int) ≤ 1048576
  case neg => exact epos (by rw [if_neg hs]; omega) (eok rfl)
  refine eneg (by rw [if_pos hs]; omega) ?_
  have hl2 : l.length ≤ 1048576 := by omega
  have hc : (l.map conv).length ≤ 1048576 := by rw [List.length_map]; exact hl2
  have hboth : ∃ r, Ev (fun k => spec_IsReducedDiagram.f k vars root (l.map conv)) r ∧ Ev (fun k => impl_IsReducedDiagram.f k vars root (l.map conv)) r := by
    unfold spec_IsReducedDiagram.f impl_IsReducedDiagram.f
    obtain ⟨r, h1, h2, hr⟩ := good_both vars root (l.map conv) hc
    cases r with
    | false => exact ⟨(false, false), ebind h1 (eneg (by simp) (eok rfl)), ebind h2 (eneg (by simp) (eok rfl))⟩
    | true =>
      have hg := hr.1 rfl
      exact ⟨_, ebind h1 (epos rfl (ebind (specVals vars root _ hg) (ebind (ofVals vars root _ hg) (ebind (specSame _ _ _ _ hc) (eok rfl))))), ebind h2 (epos rfl (ebind (implSame _ _ _ _ hc) (eok rfl)))⟩
  obtain ⟨r, hs1, hs2⟩ := hboth
  refine ebind (toD root l hl2) (ebind hs1 (ebind (toD root l hl2) (ebind hs2 (eneg (by simp) ?_))))
  refine estep (fun k => laws_FnExactIsReducedDiagram.j0.eq_2 (k := k) ..) (eneg (by simp) (ebind (toD root l hl2) (ebind (eqD _ _ _ _ hc) (epos (by simp) (eok rfl)))))
end Go.Proofs.Ytggjpogcimdepaa.Pure
namespace Go.Proofs.Ytggjpogcimdepaa.XOpen
open Go.RowKit Go.Proofs.YtggjpogcimdepaaW.PrintWords Go.ChangeShapes Go.WideShapes Go.Deep
set_option linter.unusedVariables false
set_option linter.unusedSimpArgs false

/-- What reads as data of type t holds an x of kind d, and ok x. -/
structure Opens (P : Program) (t : TypeId) {α : Type} (d : Kd α) (ok : α → Prop) : Prop where
  cells : P.cellsOf t = d.sz
  down : ∀ {H : Type} {enc : TypeId × Value → H} {w : World} {base : Nat} {sp : Nat → Bool} {hd : Bool} {fuel : Nat} {cs : List Value} {x : DataW H × List MemPlace},
    DataW.trod enc P w base sp hd fuel t cs = some x → ∃ a, d.K w a cs ∧ ok a

theorem Opens.int {P : Program} {t : TypeId} {k : IntKind} (ht : P.underlying t = some (.int k)) (hc : P.cellsOf t = 1) : Opens P t (Kd.int k) (fun n => (Lit.int k n).wf = true) :=
  ⟨hc, fun h => by
    obtain ⟨n, rfl, _, hw⟩ := DataW.trod_int ht h
    exact ⟨n, rfl, hw⟩⟩
theorem Opens.bool {P : Program} {t : TypeId} (ht : P.underlying t = some .bool) (hc : P.cellsOf t = 1) : Opens P t Kd.bool (fun _ => True) :=
  ⟨hc, fun h => by
    obtain ⟨n, rfl, _⟩ := DataW.trod_bool ht h
    exact ⟨n, rfl, trivial⟩⟩
theorem Opens.string {P : Program} {t : TypeId} (ht : P.underlying t = some .string) (hc : P.cellsOf t = 1) : Opens P t Kd.string (fun s => s.size ≤ maxLen) :=
  ⟨hc, fun h => by
    obtain ⟨s, rfl, _, hs⟩ := DataW.trod_string ht h
    exact ⟨s, rfl, hs⟩⟩

theorem cells_eq {w : World} {base n : Nat} {a : Addr} {cs : List Value} (h : w.cells? base a n = some cs) : cs.length = n ∧ ∀ i u, cs[i]? = some u → w.cell? (a.add i) = some u := by
  obtain ⟨_, hl, hc⟩ := World.cells?_some h
  refine ⟨hl, fun i u hu => ?_⟩
  have hi : i < n := by
    have := (List.getElem?_eq_some_iff.1 hu).1
    omega
  rw [hc i hi, hu]

theorem Opens.slice {P : Program} {t e : TypeId} {α : Type} {d : Kd α} {ok : α → Prop} (ht : P.underlying t = some (.slice e)) (hc : P.cellsOf t = 1) (h : Opens P e d ok) :
    Opens P t (Kd.slice e d) (fun xs => xs.length ≤ maxLen ∧ ∀ x ∈ xs, ok x) :=
  ⟨hc, fun {H enc w base sp hd fuel cs x} hx => by
    rcases open_slice ht hx with ⟨rfl, _⟩ | ⟨a, len, cap, m, n, D, Pl, rfl, hb, hl, hm, hmm, _, hel⟩
    · exact ⟨[], ⟨none, 0, rfl, Nat.le_refl _, rfl, by simp, fun h0 => absurd h0 (by simp)⟩, by simp, by simp⟩
    · have hlm : len ≤ m := by rw [hmm]; split <;> omega
      have key : ∀ i, i < len → ∃ x : α, ∃ cs', w.cells? base (a.add (i * d.sz)) d.sz = some cs' ∧ d.K w x cs' ∧ ok x := fun i hi => by
        obtain ⟨cs', h1, h2⟩ := hel i (by omega)
        obtain ⟨x, h3, h4⟩ := h.down h2
        rw [h.cells] at h1
        exact ⟨x, cs', h1, h3, h4⟩
      have hL : ∀ k, k ≤ len → ∃ xs : List α, xs.length = k ∧ ∀ i x, xs[i]? = some x → ∃ cs', w.cells? base (a.add (i * d.sz)) d.sz = some cs' ∧ d.K w x cs' ∧ ok x := by
        intro k
        induction k with
        | zero => exact fun _ => ⟨[], rfl, fun i x hx => by simp at hx⟩
        | succ k ih =>
          intro hk
          obtain ⟨xs, hl1, hx1⟩ := ih (by omega)
          obtain ⟨x, hx2⟩ := key k (by omega)
          refine ⟨xs ++ [x], by simp [hl1], fun i y hy => ?_⟩
          by_cases hi : i < xs.length
          · rw [List.getElem?_append_left hi] at hy
            exact hx1 i y hy
          · have hi2 : i = k := by
              have := (List.getElem?_eq_some_iff.1 hy).1
              simp [hl1] at this
              omega
            subst hi2
            rw [List.getElem?_append_right (by omega), hl1] at hy
            simp at hy
            subst hy
            exact hx2
      obtain ⟨xs, hl1, hx1⟩ := hL len (Nat.le_refl _)
      refine ⟨xs, ⟨some a, cap, by rw [hl1], by omega, rfl, ?_, fun h0 => ⟨a, rfl, fun j p hp => ?_⟩⟩, by omega, fun x hx => ?_⟩
      · have : maxLen = 9223372036854775807 := rfl
        omega
      · obtain ⟨cs', h1, h2, _⟩ := hx1 j p hp
        obtain ⟨hlen, hcell⟩ := cells_eq h1
        refine ⟨cs', hlen, h2, fun i u hu => ?_⟩
        rw [← Deep.add_add]
        exact hcell i u hu
      · obtain ⟨i, hi⟩ := List.mem_iff_getElem?.1 hx
        obtain ⟨_, _, _, h3⟩ := hx1 i x hi
        exact h3⟩

theorem Opens.iso {P : Program} {t : TypeId} {α β : Type} {d : Kd α} {ok : α → Prop} (h : Opens P t d ok) (f : β → α) (g : α → β) (hfg : ∀ a, f (g a) = a) : Opens P t (Kd.iso d f) (fun b => ok (f b)) :=
  ⟨h.cells, fun hx => by
    obtain ⟨a, h1, h2⟩ := h.down hx
    exact ⟨g a, by show d.K _ (f (g a)) _; rw [hfg]; exact h1, by rw [hfg]; exact h2⟩⟩

/-- The same for the fields of a struct from cell 'off' on. -/
structure OpensF (P : Program) (off : Nat) (fs : List Field) {α : Type} (d : Kd α) (ok : α → Prop) : Prop where
  down : ∀ {H : Type} {enc : TypeId × Value → H} {w : World} {base : Nat} {sp : Nat → Bool} {hd : Bool} {fuel : Nat} {cs : List Value},
    cs.length = off + d.sz → (∀ f ∈ fs, ∃ x, DataW.trod enc P w base sp hd fuel f.type ((cs.drop f.offset).take (P.cellsOf f.type)) = some x) → ∃ a, d.K w a (cs.drop off) ∧ ok a

theorem OpensF.one {P : Program} {off : Nat} {f : Field} {α : Type} {d : Kd α} {ok : α → Prop} (h : Opens P f.type d ok) (ho : f.offset = off) : OpensF P off [f] d ok :=
  ⟨fun {H enc w base sp hd fuel cs} hl hx => by
    obtain ⟨x, hx⟩ := hx f (by simp)
    rw [h.cells, ho, List.take_of_length_le (by rw [List.length_drop]; omega)] at hx
    exact h.down hx⟩
theorem OpensF.cons {P : Program} {off : Nat} {f : Field} {fs : List Field} {α β : Type} {d : Kd α} {d' : Kd β} {ok : α → Prop} {ok' : β → Prop} (h : Opens P f.type d ok) (ho : f.offset = off) (hr : OpensF P (off + d.sz) fs d' ok') :
    OpensF P off (f :: fs) (Kd.pair d d') (fun x => ok x.1 ∧ ok' x.2) :=
  ⟨fun {H enc w base sp hd fuel cs} hl hx => by
    have hsz : (Kd.pair d d').sz = d.sz + d'.sz := rfl
    obtain ⟨x, h0⟩ := hx f (by simp)
    rw [h.cells, ho] at h0
    obtain ⟨a, ha, oka⟩ := h.down h0
    obtain ⟨b, hb, okb⟩ := hr.down (by rw [hl, hsz]; omega) (fun g hg => hx g (by simp [hg]))
    refine ⟨(a, b), ⟨_, _, ?_, ha, hb⟩, oka, okb⟩
    rw [← List.drop_drop, List.take_append_drop]⟩
theorem Opens.struct {P : Program} {t : TypeId} {fs : Array Field} {α : Type} {d : Kd α} {ok : α → Prop} (ht : P.underlying t = some (.struct fs)) (hc : P.cellsOf t = d.sz) (h : OpensF P 0 fs.toList d ok) : Opens P t d ok :=
  ⟨hc, fun {H enc w base sp hd fuel cs x} hx => by
    obtain ⟨xs, n, rfl, rfl, hl, hxl, hf⟩ := DataW.trod_struct ht hx
    obtain ⟨a, h1, h2⟩ := h.down (enc := enc) (w := w) (base := base) (sp := sp) (hd := hd) (fuel := n) (cs := cs) (by omega) (fun f hf1 => by
      obtain ⟨i, hi⟩ := List.mem_iff_getElem?.1 hf1
      rw [Array.getElem?_toList] at hi
      have h3 := hf i f hi
      have hi2 : i < fs.size := (Array.getElem?_eq_some_iff.1 hi).1
      rw [List.getElem?_eq_getElem (by omega)] at h3
      exact ⟨_, h3⟩)
    exact ⟨a, by simpa using h1, h2⟩⟩

/-- A slice's or a struct's argument, as the law's contract wants it. -/
theorem Opens.arg {P : Program} {t : TypeId} {α : Type} {d : Kd α} {ok : α → Prop} (h : Opens P t d ok) {H : Type} {enc : TypeId × Value → H} {w : World} {base : Nat} {sp : Nat → Bool} {hd : Bool} {v : Value} {y : DataW H} {ps : List MemPlace}
    (hx : DataW.Trod enc P w base sp hd t v y ps) : ∃ a, d.K w a v.cells.toList ∧ ok a := by
  obtain ⟨fuel, hf⟩ := hx
  exact h.down hf
theorem agg_of {P : Program} {w : World} {r : Reach} {base : Nat} {t : TypeId} {v : Value} {fs : Array Field} (ht : P.underlying t = some (.struct fs)) (hv : Value.okWide P w r base t v) {l : List Value} (h : v.cells.toList = l) : v = .agg l.toArray := by
  obtain ⟨cs, rfl, _⟩ := okWide_struct ht hv
  simp [Value.cells] at h
  rw [← h]
theorem slice_of {P : Program} {w : World} {r : Reach} {base : Nat} {t e : TypeId} {v u : Value} (ht : P.underlying t = some (.slice e)) (hv : Value.okWide P w r base t v) (h : v.cells.toList = [u]) : v = u := by
  obtain ⟨a, len, cap, rfl⟩ := okWide_slice ht hv
  simpa [Value.cells] using h
theorem wf64 {n : Int} (h : (Lit.int .i64 n).wf = true) : -9223372036854775808 ≤ n ∧ n ≤ 9223372036854775807 := by
  simp [Lit.wf, IntKind.min, IntKind.max, IntKind.signed, IntKind.bits] at h
  omega
end Go.Proofs.Ytggjpogcimdepaa.XOpen
namespace Go.Proofs.Ytggjpogcimdepaa.fnExactIsReducedDiagram
open Go.ChangeShapes Go.WideShapes Go.ChangeAt Go.RowKit Go.Proofs.Ytggjpogcimdepaa.XOpen Go.Proofs.Ytggjpogcimdepaa.Print
open Go.Proofs.YtggjpogcimdepaaW.PrintWords
open Go.ChangeMaps (open_string shut_string)
set_option linter.unusedVariables false
theorem own : ownKnob Try.prog.godebug = none := by kernel_rfl
theorem laidOut : laidOutB Try.prog = true := by kernel_rfl
theorem op3 : Opens Try.prog 3 (Kd.int .i64) (fun n : Int => (Lit.int .i64 n).wf = true) := Opens.int Try.underlying3 (by kernel_rfl)
theorem op99 : Opens Try.prog 99 k99 (fun x : S99 => (fun x : ((Int) × (Int) × (Int)) => (fun n : Int => (Lit.int .i64 n).wf = true) x.1 ∧ (fun x : ((Int) × (Int)) => (fun n : Int => (Lit.int .i64 n).wf = true) x.1 ∧ (fun n : Int => (Lit.int .i64 n).wf = true) x.2) x.2) (x.f0, x.f1, x.f2)) := Opens.iso (ok := (fun x : ((Int) × (Int) × (Int)) => (fun n : Int => (Lit.int .i64 n).wf = true) x.1 ∧ (fun x : ((Int) × (Int)) => (fun n : Int => (Lit.int .i64 n).wf = true) x.1 ∧ (fun n : Int => (Lit.int .i64 n).wf = true) x.2) x.2)) (Opens.struct (P := Try.prog) (t := 99) (ok := (fun x : ((Int) × (Int) × (Int)) => (fun n : Int => (Lit.int .i64 n).wf = true) x.1 ∧ (fun x : ((Int) × (Int)) => (fun n : Int => (Lit.int .i64 n).wf = true) x.1 ∧ (fun n : Int => (Lit.int .i64 n).wf = true) x.2) x.2)) Try.underlying99 (by kernel_rfl) (OpensF.cons (ok := (fun n : Int => (Lit.int .i64 n).wf = true)) (ok' := (fun x : ((Int) × (Int)) => (fun n : Int => (Lit.int .i64 n).wf = true) x.1 ∧ (fun n : Int => (Lit.int .i64 n).wf = true) x.2)) op3 rfl (OpensF.cons (ok := (fun n : Int => (Lit.int .i64 n).wf = true)) (ok' := (fun n : Int => (Lit.int .i64 n).wf = true)) op3 rfl (OpensF.one (ok := (fun n : Int => (Lit.int .i64 n).wf = true)) op3 rfl)))) (fun x : S99 => (x.f0, x.f1, x.f2)) (fun p => ⟨p.1, p.2.1, p.2.2⟩) (fun _ => rfl)
theorem op22 : Opens Try.prog 22 (Kd.slice 99 k99) (fun xs : (List (S99)) => xs.length ≤ maxLen ∧ ∀ x ∈ xs, (fun x : S99 => (fun x : ((Int) × (Int) × (Int)) => (fun n : Int => (Lit.int .i64 n).wf = true) x.1 ∧ (fun x : ((Int) × (Int)) => (fun n : Int => (Lit.int .i64 n).wf = true) x.1 ∧ (fun n : Int => (Lit.int .i64 n).wf = true) x.2) x.2) (x.f0, x.f1, x.f2)) x) := Opens.slice (ok := (fun x : S99 => (fun x : ((Int) × (Int) × (Int)) => (fun n : Int => (Lit.int .i64 n).wf = true) x.1 ∧ (fun x : ((Int) × (Int)) => (fun n : Int => (Lit.int .i64 n).wf = true) x.1 ∧ (fun n : Int => (Lit.int .i64 n).wf = true) x.2) x.2) (x.f0, x.f1, x.f2))) Try.underlying22 (by kernel_rfl) op99
theorem op24r : Opens Try.prog 24 (Kd.pair (Kd.int .i64) (Kd.slice 99 k99)) (fun x : ((Int) × (List (S99))) => (fun n : Int => (Lit.int .i64 n).wf = true) x.1 ∧ (fun xs : (List (S99)) => xs.length ≤ maxLen ∧ ∀ x ∈ xs, (fun x : S99 => (fun x : ((Int) × (Int) × (Int)) => (fun n : Int => (Lit.int .i64 n).wf = true) x.1 ∧ (fun x : ((Int) × (Int)) => (fun n : Int => (Lit.int .i64 n).wf = true) x.1 ∧ (fun n : Int => (Lit.int .i64 n).wf = true) x.2) x.2) (x.f0, x.f1, x.f2)) x) x.2) := (Opens.struct (P := Try.prog) (t := 24) (ok := (fun x : ((Int) × (List (S99))) => (fun n : Int => (Lit.int .i64 n).wf = true) x.1 ∧ (fun xs : (List (S99)) => xs.length ≤ maxLen ∧ ∀ x ∈ xs, (fun x : S99 => (fun x : ((Int) × (Int) × (Int)) => (fun n : Int => (Lit.int .i64 n).wf = true) x.1 ∧ (fun x : ((Int) × (Int)) => (fun n : Int => (Lit.int .i64 n).wf = true) x.1 ∧ (fun n : Int => (Lit.int .i64 n).wf = true) x.2) x.2) (x.f0, x.f1, x.f2)) x) x.2)) Try.underlying24 (by kernel_rfl) (OpensF.cons (ok := (fun n : Int => (Lit.int .i64 n).wf = true)) (ok' := (fun xs : (List (S99)) => xs.length ≤ maxLen ∧ ∀ x ∈ xs, (fun x : S99 => (fun x : ((Int) × (Int) × (Int)) => (fun n : Int => (Lit.int .i64 n).wf = true) x.1 ∧ (fun x : ((Int) × (Int)) => (fun n : Int => (Lit.int .i64 n).wf = true) x.1 ∧ (fun n : Int => (Lit.int .i64 n).wf = true) x.2) x.2) (x.f0, x.f1, x.f2)) x)) op3 rfl (OpensF.one (ok := (fun xs : (List (S99)) => xs.length ≤ maxLen ∧ ∀ x ∈ xs, (fun x : S99 => (fun x : ((Int) × (Int) × (Int)) => (fun n : Int => (Lit.int .i64 n).wf = true) x.1 ∧ (fun x : ((Int) × (Int)) => (fun n : Int => (Lit.int .i64 n).wf = true) x.1 ∧ (fun n : Int => (Lit.int .i64 n).wf = true) x.2) x.2) (x.f0, x.f1, x.f2)) x)) op22 rfl)))
set_option maxRecDepth 100000 in
theorem lifted (os : Os) (started : os.Started) (H : Type) (enc : TypeId × Value → H) :
    ReturnsInHanded {} Try.checked os 8 .any (Rows.fnExactIsReducedDiagramSpec.pre6 enc Try.prog Try.f8 Rows.fnExactIsReducedDiagramRow.domain false) (Rows.fnExactIsReducedDiagramSpec.post enc Try.prog Try.f8 false true false false) := by
  refine returnsInHanded_of_change_sized (C := Try.checked) own started (by kernel_rfl) Try.func8
    (ChangeSpec.witness6 (enc := enc) (C := Try.checked) false ⟨#[], #[.int .i64 0, .agg #[.int .i64 0, .slice none 0 0]], []⟩ 8 (by kernel_rfl) (by kernel_rfl) (by kernel_rfl) (by kernel_rfl)) ?_
  intro W base args ds gs before hval0 hW hcnd hsz0 _
  have hval : ∀ (j : Nat) t v, Try.f8.params[j]? = some t → args[j]? = some v → Value.okWide Try.prog W .any base t v := hval0
  have hW' := hW
  obtain ⟨p, q, hA0, hV, rfl, hfz, hnd⟩ := hW
  have hA : DataW.TrodAll enc Try.prog W 0 (fun _ => true) true Try.f8.params.toList args.toList ds p := hA0
  rw [Try.params8] at hA hval
  obtain ⟨v0, vs0, d0, ds0, p0, q0, hargs, rfl, rfl, h0, r0⟩ := trodAll_cons hA
  obtain ⟨v1, vs1, d1, ds1, p1, q1, rfl, rfl, rfl, h1, r1⟩ := trodAll_cons r0
  obtain ⟨rfl, rfl, rfl⟩ := trodAll_nil r1
  obtain rfl : args = #[v0, v1] := by cases args; simp_all
  obtain ⟨rfl, rfl⟩ := trodVars_none hV
  obtain ⟨a0, rfl, rfl, rfl, w0⟩ := open_int Try.underlying3 (hval 0 3 v0 rfl rfl) h0
  have k1 := h1
  have lt1 : ∀ x ∈ p1, x.block < W.heap.size := by obtain ⟨m, hm⟩ := k1; exact DataW.trod_lt m _ _ _ hm
  obtain ⟨⟨a1_0, l1_1⟩, hK1, ok1⟩ := op24r.arg h1
  obtain ⟨_, _, hE1, rfl, ⟨A1_1, c1_1, rfl, hc1_1, hr1_1⟩⟩ := hK1
  obtain rfl : v1 = .agg #[.int .i64 a1_0, .slice A1_1 l1_1.length c1_1] := agg_of Try.underlying24 (hval 1 24 v1 rfl rfl) hE1
  clear hA0 hval0 hsz0
  obtain ⟨k, hP⟩ := Pure.FnExactIsReducedDiagram a0 a1_0 l1_1 w0 ok1
  refine (Print.laws_FnExactIsReducedDiagram.calls k a0 a1_0 A1_1 c1_1 l1_1 true W hr1_1 hc1_1 hP).mono fun e W' ⟨he, bel0⟩ => ?_
  have bel : Below W.heap.size W W' := bel0
  subst he
  exact ⟨_, rfl, _, _, _, [], _, [], hW', trodAll_mk1 (shut_bool Try.underlying4 _), (trodAll_cons_mk (shut_int Try.underlying3 w0) (trodAll_cons_mk (Below.trod laidOut (by kernel_rfl) (of_decide_eq_true (by kernel_rfl)) k1 bel lt1) trodAll_mk0)), rfl, bel.frame _, fun h => by cases h⟩
theorem over : Rows.fnExactIsReducedDiagramRow.holds Try.pinned (OpenSpec.ofChange Rows.fnExactIsReducedDiagramSpec) :=
  OpenClaim.holds_of_wide 8 Try.f8 rfl rfl rfl rfl rfl rfl rfl ⟨rfl, rfl, rfl, rfl, rfl⟩ rfl rfl rfl rfl rfl (by kernel_rfl) Try.func8 (by kernel_rfl)
    (of_decide_eq_true (by kernel_rfl)) (by unfold Func.isWrapper; first | (rw [if_pos (by decide +kernel)]; kernel_rfl) | (rw [if_neg (by decide +kernel)]; exact ⟨rfl, rfl⟩))
    (fun os started H enc _ => lifted os started H enc)
theorem proved : Rows.FnExactIsReducedDiagramSaid := over
#print axioms proved
end Go.Proofs.Ytggjpogcimdepaa.fnExactIsReducedDiagram
namespace Go.Proofs.Ytggjpogcimdepaa
/-- The row, under a short name, for the claim. -/
theorem fnExactIsReducedDiagram_holds : Rows.FnExactIsReducedDiagramSaid := fnExactIsReducedDiagram.proved
end Go.Proofs.Ytggjpogcimdepaa
