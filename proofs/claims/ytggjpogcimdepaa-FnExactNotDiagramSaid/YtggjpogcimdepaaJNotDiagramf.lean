/- Part 6 of 7 of the proof of FnExactNotDiagram: contracts and plain halves, packed by merge.py (a program of this session) out of texts that build alone too. No condition of its own. -/
import Derived.Test.YtggjpogcimdepaaJNotDiagrama
import Derived.Test.YtggjpogcimdepaaJNotDiagramb
import Derived.Test.YtggjpogcimdepaaJNotDiagramc
import Derived.Test.YtggjpogcimdepaaJNotDiagrame
namespace Go.Proofs.Ytggjpogcimdepaa.Print
open Go.RowKit Go.Proofs.YtggjpogcimdepaaW.PrintWords Go.Proofs.YtggjpogcimdepaaW.PrintLast Go.Proofs.YtggjpogcimdepaaW.PrintMore
attribute [local go_sem] max2_int min2_int max_two min_two max_three min_three max_four min_four   -- for this text's walks alone
set_option linter.unusedVariables false
set_option linter.unusedSimpArgs false

/-! ### laws_FnExactNotDiagram: function 10 -/
mutual
def laws_FnExactNotDiagram.j0 : Nat → Int → Bool → Bool → Bool → Int → List (S99) → Int → List (S97) → Int → List (S97) → Int → List (S97) → Option (Bool)
  | 0, _, _, _, _, _, _, _, _, _, _, _, _ => none
  | k + 1, x0, x7, x10, x44, x102000, x102001, x113000, x113001, x118000, x118001, x124000, x124001 => if x44 = true then (some false) else ((laws_toDiagram.f k x102000 x102001).bind fun bt125 => ((laws_eqDiagram.f k x118000 x118001 bt125.1 bt125.2).bind fun t129 => (if t129 = true then ((laws_markDiagram.f k x118000 x118001 1).bind fun bt130 => (if bt130.1 < 0 then (laws_FnExactNotDiagram.j1 k x0 x7 true x102000 x102001 x113000 x113001 x124000 x124001) else ((laws_eqDiagram.f k x124000 x124001 x113000 x113001).bind fun t132 => (if t132 = true then (laws_FnExactNotDiagram.j1 k x0 x7 (x10 != x7) x102000 x102001 x113000 x113001 x124000 x124001) else (laws_FnExactNotDiagram.j1 k x0 x7 true x102000 x102001 x113000 x113001 x124000 x124001))))) else (some false))))
def laws_FnExactNotDiagram.j1 : Nat → Int → Bool → Bool → Int → List (S99) → Int → List (S97) → Int → List (S97) → Option (Bool)
  | 0, _, _, _, _, _, _, _, _, _ => none
  | k + 1, x0, x7, x65, x102000, x102001, x113000, x113001, x124000, x124001 => if x65 = true then (some false) else ((laws_markDiagram.f k x124000 x124001 1).bind fun bt133 => ((laws_heldDiagram.f k x124000 bt133.2 1).bind fun t135 => (if t135 < 0 then (some false) else (if t135 = bt133.1 then ((laws_toDiagram.f k x102000 x102001).bind fun bt136 => ((impl_NotDiagram.f k x0 bt136.1 bt136.2).bind fun bt140 => ((laws_eqDiagram.f k bt140.1 bt140.2.1 x113000 x113001).bind fun t146 => (if t146 = true then (laws_FnExactNotDiagram.j2 k bt133.1 (bt140.2.2 != x7) x124000 bt133.2) else (laws_FnExactNotDiagram.j2 k bt133.1 true x124000 bt133.2))))) else (some false)))))
def laws_FnExactNotDiagram.j2 : Nat → Int → Bool → Int → List (S97) → Option (Bool)
  | 0, _, _, _, _ => none
  | k + 1, x12, x92, x124000, x124001 => if x92 = true then (some false) else ((laws_heldDiagram.f k x124000 x124001 1).bind fun t147 => (if t147 < 0 then (some false) else (if t147 = x12 then (some true) else (some false))))
end
def laws_FnExactNotDiagram.f (k : Nat) (a0 : Int) (a1_0 : Int) (l1_1 : List (S99)) : Option (Bool) := (laws_szDiagram.f a1_0 l1_1 1048576).bind fun t102 => (if t102 < 0 then (some true) else ((laws_toDiagram.f k a1_0 l1_1).bind fun bt103 => ((spec_NotDiagram.f k a0 bt103.1 bt103.2).bind fun bt107 => ((laws_toDiagram.f k a1_0 l1_1).bind fun bt113 => ((impl_NotDiagram.f k a0 bt113.1 bt113.2).bind fun bt118 => ((laws_eqDiagram.f k bt118.1 bt118.2.1 bt107.1 bt107.2.1).bind fun t124 => (if t124 = true then (laws_FnExactNotDiagram.j0 k a0 bt107.2.2 bt118.2.2 (bt118.2.2 != bt107.2.2) a1_0 l1_1 bt107.1 bt107.2.1 bt113.1 bt113.2 bt118.1 bt118.2.1) else (laws_FnExactNotDiagram.j0 k a0 bt107.2.2 bt118.2.2 true a1_0 l1_1 bt107.1 bt107.2.1 bt113.1 bt113.2 bt118.1 bt118.2.1))))))))
theorem laws_FnExactNotDiagram.mono_l : ∀ k, (∀ y0 y1 y2 y3 y4 y5 y6 y7 y8 y9 y10 y11, LeO (laws_FnExactNotDiagram.j0 k y0 y1 y2 y3 y4 y5 y6 y7 y8 y9 y10 y11) (laws_FnExactNotDiagram.j0 (k + 1) y0 y1 y2 y3 y4 y5 y6 y7 y8 y9 y10 y11)) ∧ (∀ y0 y1 y2 y3 y4 y5 y6 y7 y8, LeO (laws_FnExactNotDiagram.j1 k y0 y1 y2 y3 y4 y5 y6 y7 y8) (laws_FnExactNotDiagram.j1 (k + 1) y0 y1 y2 y3 y4 y5 y6 y7 y8)) ∧ (∀ y0 y1 y2 y3, LeO (laws_FnExactNotDiagram.j2 k y0 y1 y2 y3) (laws_FnExactNotDiagram.j2 (k + 1) y0 y1 y2 y3))
  | 0 => ⟨fun _ _ _ _ _ _ _ _ _ _ _ _ r h => by simp [laws_FnExactNotDiagram.j0] at h, fun _ _ _ _ _ _ _ _ _ r h => by simp [laws_FnExactNotDiagram.j1] at h, fun _ _ _ _ r h => by simp [laws_FnExactNotDiagram.j2] at h⟩
  | k + 1 => by
    obtain ⟨ih0, ih1, ih2⟩ := laws_FnExactNotDiagram.mono_l k
    refine ⟨?_, ?_, ?_⟩
    · intro y0 y1 y2 y3 y4 y5 y6 y7 y8 y9 y10 y11
      unfold laws_FnExactNotDiagram.j0
      repeat' first
      | (with_reducible exact ih0 _ _ _ _ _ _ _ _ _ _ _ _)
      | (with_reducible exact ih1 _ _ _ _ _ _ _ _ _)
      | (with_reducible exact ih2 _ _ _ _)
      | (with_reducible exact impl_NotDiagram.mono _ _ _ _)
      | (with_reducible exact laws_eqDiagram.mono _ _ _ _ _)
      | (with_reducible exact laws_heldDiagram.mono _ _ _ _)
      | (with_reducible exact laws_markDiagram.mono _ _ _ _)
      | (with_reducible exact laws_toDiagram.mono _ _ _)
      | (with_reducible exact spec_NotDiagram.mono _ _ _ _)
      | (with_reducible exact LeO.refl _)
      | (with_reducible exact LeO.none _)
      | (with_reducible refine LeO.ite ?_ ?_)
      | (with_reducible refine LeO.bind ?_ (fun _ => ?_))
      | exact ih0 _ _ _ _ _ _ _ _ _ _ _ _
      | exact ih1 _ _ _ _ _ _ _ _ _
      | exact ih2 _ _ _ _
      | exact impl_NotDiagram.mono _ _ _ _
      | exact laws_eqDiagram.mono _ _ _ _ _
      | exact laws_heldDiagram.mono _ _ _ _
      | exact laws_markDiagram.mono _ _ _ _
      | exact laws_toDiagram.mono _ _ _
      | exact spec_NotDiagram.mono _ _ _ _
      | exact LeO.none _
      | refine LeO.ite ?_ ?_
      | refine LeO.bind ?_ (fun _ => ?_)
    · intro y0 y1 y2 y3 y4 y5 y6 y7 y8
      unfold laws_FnExactNotDiagram.j1
      repeat' first
      | (with_reducible exact ih0 _ _ _ _ _ _ _ _ _ _ _ _)
      | (with_reducible exact ih1 _ _ _ _ _ _ _ _ _)
      | (with_reducible exact ih2 _ _ _ _)
      | (with_reducible exact impl_NotDiagram.mono _ _ _ _)
      | (with_reducible exact laws_eqDiagram.mono _ _ _ _ _)
      | (with_reducible exact laws_heldDiagram.mono _ _ _ _)
      | (with_reducible exact laws_markDiagram.mono _ _ _ _)
      | (with_reducible exact laws_toDiagram.mono _ _ _)
      | (with_reducible exact spec_NotDiagram.mono _ _ _ _)
      | (with_reducible exact LeO.refl _)
      | (with_reducible exact LeO.none _)
      | (with_reducible refine LeO.ite ?_ ?_)
      | (with_reducible refine LeO.bind ?_ (fun _ => ?_))
      | exact ih0 _ _ _ _ _ _ _ _ _ _ _ _
      | exact ih1 _ _ _ _ _ _ _ _ _
      | exact ih2 _ _ _ _
      | exact impl_NotDiagram.mono _ _ _ _
      | exact laws_eqDiagram.mono _ _ _ _ _
      | exact laws_heldDiagram.mono _ _ _ _
      | exact laws_markDiagram.mono _ _ _ _
      | exact laws_toDiagram.mono _ _ _
      | exact spec_NotDiagram.mono _ _ _ _
      | exact LeO.none _
      | refine LeO.ite ?_ ?_
      | refine LeO.bind ?_ (fun _ => ?_)
    · intro y0 y1 y2 y3
      unfold laws_FnExactNotDiagram.j2
      repeat' first
      | (with_reducible exact ih0 _ _ _ _ _ _ _ _ _ _ _ _)
      | (with_reducible exact ih1 _ _ _ _ _ _ _ _ _)
      | (with_reducible exact ih2 _ _ _ _)
      | (with_reducible exact impl_NotDiagram.mono _ _ _ _)
      | (with_reducible exact laws_eqDiagram.mono _ _ _ _ _)
      | (with_reducible exact laws_heldDiagram.mono _ _ _ _)
      | (with_reducible exact laws_markDiagram.mono _ _ _ _)
      | (with_reducible exact laws_toDiagram.mono _ _ _)
      | (with_reducible exact spec_NotDiagram.mono _ _ _ _)
      | (with_reducible exact LeO.refl _)
      | (with_reducible exact LeO.none _)
      | (with_reducible refine LeO.ite ?_ ?_)
      | (with_reducible refine LeO.bind ?_ (fun _ => ?_))
      | exact ih0 _ _ _ _ _ _ _ _ _ _ _ _
      | exact ih1 _ _ _ _ _ _ _ _ _
      | exact ih2 _ _ _ _
      | exact impl_NotDiagram.mono _ _ _ _
      | exact laws_eqDiagram.mono _ _ _ _ _
      | exact laws_heldDiagram.mono _ _ _ _
      | exact laws_markDiagram.mono _ _ _ _
      | exact laws_toDiagram.mono _ _ _
      | exact spec_NotDiagram.mono _ _ _ _
      | exact LeO.none _
      | refine LeO.ite ?_ ?_
      | refine LeO.bind ?_ (fun _ => ?_)
theorem laws_FnExactNotDiagram.mono : ∀ a0 a1 a2 k, LeO (laws_FnExactNotDiagram.f k a0 a1 a2) (laws_FnExactNotDiagram.f (k + 1) a0 a1 a2) := by
  intro a0 a1 a2 k
  obtain ⟨ih0, ih1, ih2⟩ := laws_FnExactNotDiagram.mono_l k
  unfold laws_FnExactNotDiagram.f
  repeat' first
      | (with_reducible exact ih0 _ _ _ _ _ _ _ _ _ _ _ _)
      | (with_reducible exact ih1 _ _ _ _ _ _ _ _ _)
      | (with_reducible exact ih2 _ _ _ _)
      | (with_reducible exact impl_NotDiagram.mono _ _ _ _)
      | (with_reducible exact laws_eqDiagram.mono _ _ _ _ _)
      | (with_reducible exact laws_heldDiagram.mono _ _ _ _)
      | (with_reducible exact laws_markDiagram.mono _ _ _ _)
      | (with_reducible exact laws_toDiagram.mono _ _ _)
      | (with_reducible exact spec_NotDiagram.mono _ _ _ _)
      | (with_reducible exact LeO.refl _)
      | (with_reducible exact LeO.none _)
      | (with_reducible refine LeO.ite ?_ ?_)
      | (with_reducible refine LeO.bind ?_ (fun _ => ?_))
      | exact ih0 _ _ _ _ _ _ _ _ _ _ _ _
      | exact ih1 _ _ _ _ _ _ _ _ _
      | exact ih2 _ _ _ _
      | exact impl_NotDiagram.mono _ _ _ _
      | exact laws_eqDiagram.mono _ _ _ _ _
      | exact laws_heldDiagram.mono _ _ _ _
      | exact laws_markDiagram.mono _ _ _ _
      | exact laws_toDiagram.mono _ _ _
      | exact spec_NotDiagram.mono _ _ _ _
      | exact LeO.none _
      | refine LeO.ite ?_ ?_
      | refine LeO.bind ?_ (fun _ => ?_)
set_option maxHeartbeats 8000000 in
set_option maxRecDepth 100000 in
theorem laws_FnExactNotDiagram.calls (k : Nat) (a0 : Int) (a1_0 : Int) (A1_1 : Option Addr) (c1_1 : Nat) (l1_1 : List (S99)) (r : Bool) (w : World) (hr1_1 : Kd.C k99 w A1_1 l1_1.length l1_1) (hc1_1 : l1_1.length ≤ c1_1) (h : laws_FnExactNotDiagram.f k a0 a1_0 l1_1 = some r) :
    Calls Try.prog 10 #[.int .i64 a0, .agg #[.int .i64 a1_0, .slice A1_1 l1_1.length c1_1]] w fun e w' => e = .returned (.bool r) ∧ Below w.heap.size w w' := by
  have hu24 := Try.underlying24
  have hu29 := Try.underlying29
  have HR1_1 := Aside0.mk hr1_1
  have HC1_1 := Aside0.mk hc1_1
  clear hr1_1 hc1_1
  have HB := Aside0.mk (Below.refl w.heap.size w)
  have H : ((laws_szDiagram.f a1_0 l1_1 1048576).bind fun t102 => (if t102 < 0 then (some true) else ((laws_toDiagram.f k a1_0 l1_1).bind fun bt103 => ((spec_NotDiagram.f k a0 bt103.1 bt103.2).bind fun bt107 => ((laws_toDiagram.f k a1_0 l1_1).bind fun bt113 => ((impl_NotDiagram.f k a0 bt113.1 bt113.2).bind fun bt118 => ((laws_eqDiagram.f k bt118.1 bt118.2.1 bt107.1 bt107.2.1).bind fun t124 => (if t124 = true then (laws_FnExactNotDiagram.j0 k a0 bt107.2.2 bt118.2.2 (bt118.2.2 != bt107.2.2) a1_0 l1_1 bt107.1 bt107.2.1 bt113.1 bt113.2 bt118.1 bt118.2.1) else (laws_FnExactNotDiagram.j0 k a0 bt107.2.2 bt118.2.2 true a1_0 l1_1 bt107.1 bt107.2.1 bt113.1 bt113.2 bt118.1 bt118.2.1))))))))) = some r := h
  clear h
  replace H := Option.bind_eq_some_iff.mp H
  obtain ⟨t102, A30, H⟩ := H
  replace H : (if t102 < 0 then (some true) else ((laws_toDiagram.f k a1_0 l1_1).bind fun bt103 => ((spec_NotDiagram.f k a0 bt103.1 bt103.2).bind fun bt107 => ((laws_toDiagram.f k a1_0 l1_1).bind fun bt113 => ((impl_NotDiagram.f k a0 bt113.1 bt113.2).bind fun bt118 => ((laws_eqDiagram.f k bt118.1 bt118.2.1 bt107.1 bt107.2.1).bind fun t124 => (if t124 = true then (laws_FnExactNotDiagram.j0 k a0 bt107.2.2 bt118.2.2 (bt118.2.2 != bt107.2.2) a1_0 l1_1 bt107.1 bt107.2.1 bt113.1 bt113.2 bt118.1 bt118.2.1) else (laws_FnExactNotDiagram.j0 k a0 bt107.2.2 bt118.2.2 true a1_0 l1_1 bt107.1 bt107.2.1 bt113.1 bt113.2 bt118.1 bt118.2.1)))))))) = some r := H
  have A3 := Aside0.mk A30
  clear A30
  by_cases c4 : t102 < 0
  · rw [if_pos c4] at H
    have c4b0 : decide (t102 < 0) = true := decide_eq_true c4
    clear c4
    obtain rfl := Option.some.inj H
    go_enter Try.func10, Try.ntmps10
    go_wp2_with (first | ((with_reducible refine gate_dst (N := 3) rfl ?_); refine box_event ?hg (N := 3) ?hd (cs := #[.int .i64 a1_0, .slice A1_1 l1_1.length c1_1]) (t := 24) ?hr ?_; (case hd => rfl); (case hg => rfl); (case hr => first | (go_simp; done) | (go_simp; rfl)); intro gb101 hg w5 hbox hb; have n0_ := Aside0.mk (below_step (by repeat (first | (with_reducible first | exact HB.out | apply below_alloc | apply pw_below_drewN | apply below_drew1) | exact HB.out)) hb); have n1_ := Aside0.mk (hbox); have n2_ := Aside0.mk ((by rw [hg]; exact (below_size (by repeat (first | (with_reducible first | exact HB.out | apply below_alloc | apply pw_below_drewN | apply below_drew1) | exact HB.out))) : w.heap.size ≤ gb101)); have n3_ := Aside0.mk ((by rw [hg]; exact (below_size (by repeat (first | (with_reducible first | exact HB.out | apply below_alloc | apply pw_below_drewN | apply below_drew1) | exact HB.out))) : w.heap.size ≤ gb101)); clear HB; have HB := n0_; have BK101 := n1_; have GW101 := n2_; have GE101 := n3_; clear n0_ n1_ n2_ n3_; clear hb hbox hg; have hcz6_0 : w5.cell? ⟨gb101, 0, none⟩ = some (.int .i64 a1_0) := (blk_cell BK101.out 0).trans rfl; have hcz6_1 : w5.cell? ⟨gb101, 1, none⟩ = some (.slice A1_1 l1_1.length c1_1) := (blk_cell BK101.out 1).trans rfl; have hfz6_0 := blk_frozen BK101.out 0; have hfz6_1 := blk_frozen BK101.out 1) | ((with_reducible refine gate_callee (f := 14) rfl ?_); refine goesL_ (some 18) rfl rfl Try.func14 (by kernel_rfl) rfl #[.agg #[.int .i64 a1_0, .slice A1_1 l1_1.length c1_1], .int .i64 1048576] rfl (by (try simp only [List.map_toArray, List.map_cons, List.map_nil]); first | done | rfl | (simp only [List.length_drop, List.length_take]; rfl)) ?_; (with_reducible refine (laws_szDiagram.calls a1_0 _ _ l1_1 1048576 t102 _ ?side1 ?side2 A3.out).mono ?_); (case side1 => repeat (first | exact (Kd.C_below HR1_1.out HB.out) | (with_reducible refine Kd.C_alloc ?_ _) | (with_reducible refine Kd.C_drewN ?_ _) | (with_reducible refine Kd.C_drew ?_))); (case side2 => exact HC1_1.out); rintro e w7 ⟨rfl, hb⟩; refine ⟨_, rfl, ?_⟩; have n0_ := Aside0.mk (blk_below (g := gb101) (o := .cells #[.int .i64 a1_0, .slice A1_1 l1_1.length c1_1] 24 (0, 0)) (by (with_reducible repeat (first | refine blk_drewN ?_ _ | refine blk_drew ?_ | refine blk_alloc ?_ _)); exact BK101.out) hb); have n1_ := Aside0.mk (below_step (by repeat (first | (with_reducible first | exact HB.out | apply below_alloc | apply pw_below_drewN | apply below_drew1 | refine below_set ?_ GE101.out) | exact HB.out)) hb); clear BK101; clear HB; have BK101 := n0_; have HB := n1_; clear n0_ n1_; (try clear hb); (try clear hb2); (try clear hk); (try clear hi)))
    go_ret
    exact ⟨by first | rfl | (simp [errW_none, errW_some] <;> rfl) | (simp [*, errW_none, errW_some] <;> rfl), by repeat (first | (with_reducible first | exact HB.out | apply below_alloc | apply pw_below_drewN | apply below_drew1 | refine below_set ?_ GE101.out) | exact HB.out)⟩
  · rw [if_neg c4] at H
    have c4b0 : decide (t102 < 0) = false := decide_eq_false c4
    clear c4
    replace H := Option.bind_eq_some_iff.mp H
    obtain ⟨⟨t103, t104⟩, A80, H⟩ := H
    replace H : ((spec_NotDiagram.f k a0 t103 t104).bind fun bt107 => ((laws_toDiagram.f k a1_0 l1_1).bind fun bt113 => ((impl_NotDiagram.f k a0 bt113.1 bt113.2).bind fun bt118 => ((laws_eqDiagram.f k bt118.1 bt118.2.1 bt107.1 bt107.2.1).bind fun t124 => (if t124 = true then (laws_FnExactNotDiagram.j0 k a0 bt107.2.2 bt118.2.2 (bt118.2.2 != bt107.2.2) a1_0 l1_1 bt107.1 bt107.2.1 bt113.1 bt113.2 bt118.1 bt118.2.1) else (laws_FnExactNotDiagram.j0 k a0 bt107.2.2 bt118.2.2 true a1_0 l1_1 bt107.1 bt107.2.1 bt113.1 bt113.2 bt118.1 bt118.2.1)))))) = some r := H
    have A8 := Aside0.mk A80
    clear A80
    replace H := Option.bind_eq_some_iff.mp H
    obtain ⟨⟨t107, t108, t111⟩, A90, H⟩ := H
    replace H : ((laws_toDiagram.f k a1_0 l1_1).bind fun bt113 => ((impl_NotDiagram.f k a0 bt113.1 bt113.2).bind fun bt118 => ((laws_eqDiagram.f k bt118.1 bt118.2.1 t107 t108).bind fun t124 => (if t124 = true then (laws_FnExactNotDiagram.j0 k a0 t111 bt118.2.2 (bt118.2.2 != t111) a1_0 l1_1 t107 t108 bt113.1 bt113.2 bt118.1 bt118.2.1) else (laws_FnExactNotDiagram.j0 k a0 t111 bt118.2.2 true a1_0 l1_1 t107 t108 bt113.1 bt113.2 bt118.1 bt118.2.1))))) = some r := H
    have A9 := Aside0.mk A90
    clear A90
    replace H := Option.bind_eq_some_iff.mp H
    obtain ⟨⟨t113, t114⟩, A100, H⟩ := H
    replace H : ((impl_NotDiagram.f k a0 t113 t114).bind fun bt118 => ((laws_eqDiagram.f k bt118.1 bt118.2.1 t107 t108).bind fun t124 => (if t124 = true then (laws_FnExactNotDiagram.j0 k a0 t111 bt118.2.2 (bt118.2.2 != t111) a1_0 l1_1 t107 t108 t113 t114 bt118.1 bt118.2.1) else (laws_FnExactNotDiagram.j0 k a0 t111 bt118.2.2 true a1_0 l1_1 t107 t108 t113 t114 bt118.1 bt118.2.1)))) = some r := H
    have A10 := Aside0.mk A100
    clear A100
    replace H := Option.bind_eq_some_iff.mp H
    obtain ⟨⟨t118, t119, t122⟩, A110, H⟩ := H
    replace H : ((laws_eqDiagram.f k t118 t119 t107 t108).bind fun t124 => (if t124 = true then (laws_FnExactNotDiagram.j0 k a0 t111 t122 (t122 != t111) a1_0 l1_1 t107 t108 t113 t114 t118 t119) else (laws_FnExactNotDiagram.j0 k a0 t111 t122 true a1_0 l1_1 t107 t108 t113 t114 t118 t119))) = some r := H
    have A11 := Aside0.mk A110
    clear A110
    have HC12 := Aside0.mk H
    clear H
    go_enter Try.func10, Try.ntmps10
    go_upto_region 8 with (first | ((with_reducible refine gate_dst (N := 3) rfl ?_); refine box_event ?hg (N := 3) ?hd (cs := #[.int .i64 a1_0, .slice A1_1 l1_1.length c1_1]) (t := 24) ?hr ?_; (case hd => rfl); (case hg => rfl); (case hr => first | (go_simp; done) | (go_simp; rfl)); intro gb101 hg w13 hbox hb; have n0_ := Aside0.mk (below_step (by repeat (first | (with_reducible first | exact HB.out | apply below_alloc | apply pw_below_drewN | apply below_drew1) | exact HB.out)) hb); have n1_ := Aside0.mk (hbox); have n2_ := Aside0.mk ((by rw [hg]; exact (below_size (by repeat (first | (with_reducible first | exact HB.out | apply below_alloc | apply pw_below_drewN | apply below_drew1) | exact HB.out))) : w.heap.size ≤ gb101)); have n3_ := Aside0.mk ((by rw [hg]; exact (below_size (by repeat (first | (with_reducible first | exact HB.out | apply below_alloc | apply pw_below_drewN | apply below_drew1) | exact HB.out))) : w.heap.size ≤ gb101)); clear HB; have HB := n0_; have BK101 := n1_; have GW101 := n2_; have GE101 := n3_; clear n0_ n1_ n2_ n3_; clear hb hbox hg; have hcz14_0 : w13.cell? ⟨gb101, 0, none⟩ = some (.int .i64 a1_0) := (blk_cell BK101.out 0).trans rfl; have hcz14_1 : w13.cell? ⟨gb101, 1, none⟩ = some (.slice A1_1 l1_1.length c1_1) := (blk_cell BK101.out 1).trans rfl; have hfz14_0 := blk_frozen BK101.out 0; have hfz14_1 := blk_frozen BK101.out 1) | ((with_reducible refine gate_callee (f := 14) rfl ?_); refine goesL_ (some 18) rfl rfl Try.func14 (by kernel_rfl) rfl #[.agg #[.int .i64 a1_0, .slice A1_1 l1_1.length c1_1], .int .i64 1048576] rfl (by (try simp only [List.map_toArray, List.map_cons, List.map_nil]); first | done | rfl | (simp only [List.length_drop, List.length_take]; rfl)) ?_; (with_reducible refine (laws_szDiagram.calls a1_0 _ _ l1_1 1048576 t102 _ ?side1 ?side2 A3.out).mono ?_); (case side1 => repeat (first | exact (Kd.C_below HR1_1.out HB.out) | (with_reducible refine Kd.C_alloc ?_ _) | (with_reducible refine Kd.C_drewN ?_ _) | (with_reducible refine Kd.C_drew ?_))); (case side2 => exact HC1_1.out); rintro e w15 ⟨rfl, hb⟩; refine ⟨_, rfl, ?_⟩; have n0_ := Aside0.mk (blk_below (g := gb101) (o := .cells #[.int .i64 a1_0, .slice A1_1 l1_1.length c1_1] 24 (0, 0)) (by (with_reducible repeat (first | refine blk_drewN ?_ _ | refine blk_drew ?_ | refine blk_alloc ?_ _)); exact BK101.out) hb); have n1_ := Aside0.mk (below_step (by repeat (first | (with_reducible first | exact HB.out | apply below_alloc | apply pw_below_drewN | apply below_drew1 | refine below_set ?_ GE101.out) | exact HB.out)) hb); clear BK101; clear HB; have BK101 := n0_; have HB := n1_; clear n0_ n1_; (try clear hb); (try clear hb2); (try clear hk); (try clear hi); have hcz16_0 : w15.cell? ⟨gb101, 0, none⟩ = some (.int .i64 a1_0) := (blk_cell BK101.out 0).trans rfl; have hcz16_1 : w15.cell? ⟨gb101, 1, none⟩ = some (.slice A1_1 l1_1.length c1_1) := (blk_cell BK101.out 1).trans rfl; have hfz16_0 := blk_frozen BK101.out 0; have hfz16_1 := blk_frozen BK101.out 1) | ((with_reducible refine gate_callee (f := 16) rfl ?_); refine goesL_ (some 24) rfl rfl Try.func16 (by kernel_rfl) rfl #[.agg #[.int .i64 a1_0, .slice A1_1 l1_1.length c1_1]] rfl (by (try simp only [List.map_toArray, List.map_cons, List.map_nil]); first | done | rfl | (simp only [List.length_drop, List.length_take]; rfl)) ?_; (with_reducible refine (laws_toDiagram.calls k a1_0 _ _ l1_1 t103 t104 _ ?side1 ?side2 A8.out).mono ?_); (case side1 => repeat (first | exact (Kd.C_below HR1_1.out HB.out) | (with_reducible refine Kd.C_alloc ?_ _) | (with_reducible refine Kd.C_drewN ?_ _) | (with_reducible refine Kd.C_drew ?_))); (case side2 => exact HC1_1.out); rintro e w17 ⟨v105, rfl, ho0, hb⟩; refine ⟨_, rfl, ?_⟩; have n0_ := Aside0.mk (Kd.R_lower ho0 (below_size (by repeat (first | (with_reducible first | exact HB.out | apply below_alloc | apply pw_below_drewN | apply below_drew1 | refine below_set ?_ GE101.out) | exact HB.out)))); have n1_ := Aside0.mk (blk_below (g := gb101) (o := .cells #[.int .i64 a1_0, .slice A1_1 l1_1.length c1_1] 24 (0, 0)) (by (with_reducible repeat (first | refine blk_drewN ?_ _ | refine blk_drew ?_ | refine blk_alloc ?_ _)); exact BK101.out) hb); have n2_ := Aside0.mk (below_step (by repeat (first | (with_reducible first | exact HB.out | apply below_alloc | apply pw_below_drewN | apply below_drew1 | refine below_set ?_ GE101.out) | exact HB.out)) hb); clear BK101; clear HB; have HO106 := n0_; have BK101 := n1_; have HB := n2_; clear n0_ n1_ n2_; (try clear hb); (try clear hb2); (try clear hk); (try clear hi); (try clear ho0); obtain ⟨Ao18, co18, eo18⟩ := Kd.R_slice HO106.out; subst eo18) | ((with_reducible refine gate_callee (f := 40) rfl ?_); refine goesL_ (some 25) rfl rfl Try.func40 (by kernel_rfl) rfl #[.int .i64 a0, .agg #[.int .i64 t103, .slice Ao18 t104.length co18]] rfl (by (try simp only [List.map_toArray, List.map_cons, List.map_nil]); first | done | rfl | (simp only [List.length_drop, List.length_take]; rfl)) ?_; (with_reducible refine (spec_NotDiagram.calls k a0 t103 _ _ t104 t107 t108 t111 _ ?side1 ?side2 A9.out).mono ?_); (case side1 => repeat (first | exact (Kd.R_reads' HO106.out).2.2 | (with_reducible refine Kd.C_alloc ?_ _) | (with_reducible refine Kd.C_drewN ?_ _) | (with_reducible refine Kd.C_drew ?_))); (case side2 => exact (Kd.R_reads' HO106.out).2.1); rintro e w19 ⟨v109, rfl, ho0, hb⟩; refine ⟨_, rfl, ?_⟩; have n0_ := Aside0.mk (Kd.R_elder' (by (with_reducible repeat (first | apply Kd.R_alloc | apply Kd.R_drewN | apply Kd.R_drew)); exact HO106.out) (Kd.R_base ho0) hb); have n1_ := Aside0.mk (Kd.R_lower (Kd.R_new' ho0 (Kd.R_lt (by (with_reducible repeat (first | apply Kd.R_alloc | apply Kd.R_drewN | apply Kd.R_drew)); exact HO106.out))) (below_size (by repeat (first | (with_reducible first | exact HB.out | apply below_alloc | apply pw_below_drewN | apply below_drew1 | refine below_set ?_ GE101.out) | exact HB.out)))); have n2_ := Aside0.mk (blk_below (g := gb101) (o := .cells #[.int .i64 a1_0, .slice A1_1 l1_1.length c1_1] 24 (0, 0)) (by (with_reducible repeat (first | refine blk_drewN ?_ _ | refine blk_drew ?_ | refine blk_alloc ?_ _)); exact BK101.out) hb); have n3_ := Aside0.mk (below_step (by repeat (first | (with_reducible first | exact HB.out | apply below_alloc | apply pw_below_drewN | apply below_drew1 | refine below_set ?_ GE101.out) | exact HB.out)) hb); clear HO106; clear BK101; clear HB; have HO106 := n0_; have HO110 := n1_; have BK101 := n2_; have HB := n3_; clear n0_ n1_ n2_ n3_; (try clear hb); (try clear hb2); (try clear hk); (try clear hi); (try clear ho0)) | ((with_reducible refine gate_dst (N := 6) rfl ?_); refine box_event ?hg (N := 6) ?hd (cs := #[.int .i64 0, .slice none 0 0]) (t := 29) ?hr ?_; (case hd => rfl); (case hg => rfl); (case hr => first | (go_simp; done) | (go_simp; rfl)); intro gb112 hg w20 hbox hb; have n0_ := Aside0.mk (Kd.R_below (by (with_reducible repeat (first | apply Kd.R_alloc | apply Kd.R_drewN | apply Kd.R_drew)); exact HO106.out) hb); have n1_ := Aside0.mk (Kd.R_below (by (with_reducible repeat (first | apply Kd.R_alloc | apply Kd.R_drewN | apply Kd.R_drew)); exact HO110.out) hb); have n2_ := Aside0.mk (blk_below (g := gb101) (o := .cells #[.int .i64 a1_0, .slice A1_1 l1_1.length c1_1] 24 (0, 0)) (by (with_reducible repeat (first | refine blk_drewN ?_ _ | refine blk_drew ?_ | refine blk_alloc ?_ _)); exact BK101.out) hb); have n3_ := Aside0.mk (below_step (by repeat (first | (with_reducible first | exact HB.out | apply below_alloc | apply pw_below_drewN | apply below_drew1 | refine below_set ?_ GE101.out) | exact HB.out)) hb); have n4_ := Aside0.mk (hbox); have n5_ := Aside0.mk ((by rw [hg]; exact (below_size (by repeat (first | (with_reducible first | exact HB.out | apply below_alloc | apply pw_below_drewN | apply below_drew1 | refine below_set ?_ GE101.out) | exact HB.out))) : w.heap.size ≤ gb112)); have n6_ := Aside0.mk ((by rw [hg]; exact (below_size (by repeat (first | (with_reducible first | exact HB.out | apply below_alloc | apply pw_below_drewN | apply below_drew1 | refine below_set ?_ GE101.out) | exact HB.out))) : w.heap.size ≤ gb112)); have n7_ := Aside0.mk ((by rw [hg]; exact Nat.ne_of_lt (blk_lt (g := gb101) (o := .cells #[.int .i64 a1_0, .slice A1_1 l1_1.length c1_1] 24 (0, 0)) (by (with_reducible repeat (first | refine blk_drewN ?_ _ | refine blk_drew ?_ | refine blk_alloc ?_ _)); exact BK101.out)) : gb101 ≠ gb112)); have n8_ := Aside0.mk ((by rw [hg]; exact Nat.ne_of_gt (blk_lt (g := gb101) (o := .cells #[.int .i64 a1_0, .slice A1_1 l1_1.length c1_1] 24 (0, 0)) (by (with_reducible repeat (first | refine blk_drewN ?_ _ | refine blk_drew ?_ | refine blk_alloc ?_ _)); exact BK101.out)) : gb112 ≠ gb101)); clear HO106; clear HO110; clear BK101; clear HB; have HO106 := n0_; have HO110 := n1_; have BK101 := n2_; have HB := n3_; have BK112 := n4_; have GW112 := n5_; have GE112 := n6_; have NB101_112 := n7_; have NB112_101 := n8_; clear n0_ n1_ n2_ n3_ n4_ n5_ n6_ n7_ n8_; clear hb hbox hg; have hnb21 := NB112_101.out; have hnc21 := NB101_112.out; have hcz22_0 : w20.cell? ⟨gb112, 0, none⟩ = some (.int .i64 0) := (blk_cell BK112.out 0).trans rfl; have hcz22_1 : w20.cell? ⟨gb112, 1, none⟩ = some (.slice none 0 0) := (blk_cell BK112.out 1).trans rfl; have hfz22_0 := blk_frozen BK112.out 0; have hfz22_1 := blk_frozen BK112.out 1; obtain ⟨Ao23, co23, eo23⟩ := Kd.R_slice HO110.out; subst eo23; have hcz24_0 : w20.cell? ⟨gb101, 0, none⟩ = some (.int .i64 a1_0) := (blk_cell BK101.out 0).trans rfl; have hcz24_1 : w20.cell? ⟨gb101, 1, none⟩ = some (.slice A1_1 l1_1.length c1_1) := (blk_cell BK101.out 1).trans rfl; have hfz24_0 := blk_frozen BK101.out 0; have hfz24_1 := blk_frozen BK101.out 1) | ((with_reducible refine gate_callee (f := 16) rfl ?_); refine goesL_ (some 29) rfl rfl Try.func16 (by kernel_rfl) rfl #[.agg #[.int .i64 a1_0, .slice A1_1 l1_1.length c1_1]] rfl (by (try simp only [List.map_toArray, List.map_cons, List.map_nil]); first | done | rfl | (simp only [List.length_drop, List.length_take]; rfl)) ?_; (with_reducible refine (laws_toDiagram.calls k a1_0 _ _ l1_1 t113 t114 _ ?side1 ?side2 A10.out).mono ?_); (case side1 => exact Kd.C_below HR1_1.out (by repeat (first | (with_reducible first | exact HB.out | apply below_alloc | apply pw_below_drewN | apply below_drew1 | refine below_set ?_ GE101.out | refine below_set ?_ GE112.out) | exact HB.out))); (case side2 => exact HC1_1.out); rintro e w25 ⟨v115, rfl, ho0, hb⟩; refine ⟨_, rfl, ?_⟩; have n0_ := Aside0.mk (Kd.R_elder' (by (with_reducible repeat (first | apply Kd.R_alloc | apply Kd.R_drewN | apply Kd.R_drew)); exact (Kd.R_mono (Kd.R_far (p := ⟨gb112, 1, none⟩) (Kd.R_far (p := ⟨gb112, 0, none⟩) (Kd.R_types HO106.out BK112.out (by decide)) (fun _ hk => hk.2) (.int .i64 t107)) (fun _ hk => hk.2) (.slice Ao23 t108.length co23)) (fun _ h_ => h_.1))) (Kd.R_base ho0) hb); have n1_ := Aside0.mk (Kd.R_elder' (by (with_reducible repeat (first | apply Kd.R_alloc | apply Kd.R_drewN | apply Kd.R_drew)); exact (Kd.R_mono (Kd.R_far (p := ⟨gb112, 1, none⟩) (Kd.R_far (p := ⟨gb112, 0, none⟩) (Kd.R_types HO110.out BK112.out (by decide)) (fun _ hk => hk.2) (.int .i64 t107)) (fun _ hk => hk.2) (.slice Ao23 t108.length co23)) (fun _ h_ => h_.1))) (Kd.R_base ho0) hb); have n2_ := Aside0.mk (Kd.R_lower (Kd.R_new' (Kd.R_new' ho0 (Kd.R_lt (by (with_reducible repeat (first | apply Kd.R_alloc | apply Kd.R_drewN | apply Kd.R_drew)); exact (Kd.R_mono (Kd.R_far (p := ⟨gb112, 1, none⟩) (Kd.R_far (p := ⟨gb112, 0, none⟩) (Kd.R_types HO106.out BK112.out (by decide)) (fun _ hk => hk.2) (.int .i64 t107)) (fun _ hk => hk.2) (.slice Ao23 t108.length co23)) (fun _ h_ => h_.1))))) (Kd.R_lt (by (with_reducible repeat (first | apply Kd.R_alloc | apply Kd.R_drewN | apply Kd.R_drew)); exact (Kd.R_mono (Kd.R_far (p := ⟨gb112, 1, none⟩) (Kd.R_far (p := ⟨gb112, 0, none⟩) (Kd.R_types HO110.out BK112.out (by decide)) (fun _ hk => hk.2) (.int .i64 t107)) (fun _ hk => hk.2) (.slice Ao23 t108.length co23)) (fun _ h_ => h_.1))))) (below_size (by repeat (first | (with_reducible first | exact HB.out | apply below_alloc | apply pw_below_drewN | apply below_drew1 | refine below_set ?_ GE101.out | refine below_set ?_ GE112.out) | exact HB.out)))); have n3_ := Aside0.mk (blk_below (g := gb101) (o := .cells #[.int .i64 a1_0, .slice A1_1 l1_1.length c1_1] 24 (0, 0)) (by (with_reducible repeat (first | refine blk_drewN ?_ _ | refine blk_drew ?_ | refine blk_alloc ?_ _)); refine blk_far ?_ NB101_112.out _; (with_reducible repeat (first | refine blk_drewN ?_ _ | refine blk_drew ?_ | refine blk_alloc ?_ _)); refine blk_far ?_ NB101_112.out _; (with_reducible repeat (first | refine blk_drewN ?_ _ | refine blk_drew ?_ | refine blk_alloc ?_ _)); exact BK101.out) hb); have n4_ := Aside0.mk (blk_below (g := gb112) (o := .cells #[.int .i64 t107, .slice Ao23 t108.length co23] 29 (0, 0)) (by (with_reducible repeat (first | refine blk_drewN ?_ _ | refine blk_drew ?_ | refine blk_alloc ?_ _)); refine blk_put (cs := #[.int .i64 t107, .slice none 0 0]) ?_ 1 _ rfl; (with_reducible repeat (first | refine blk_drewN ?_ _ | refine blk_drew ?_ | refine blk_alloc ?_ _)); refine blk_put (cs := #[.int .i64 0, .slice none 0 0]) ?_ 0 _ rfl; (with_reducible repeat (first | refine blk_drewN ?_ _ | refine blk_drew ?_ | refine blk_alloc ?_ _)); exact BK112.out) hb); have n5_ := Aside0.mk (below_step (by repeat (first | (with_reducible first | exact HB.out | apply below_alloc | apply pw_below_drewN | apply below_drew1 | refine below_set ?_ GE101.out | refine below_set ?_ GE112.out) | exact HB.out)) hb); clear HO106; clear HO110; clear BK101; clear BK112; clear HB; have HO106 := n0_; have HO110 := n1_; have HO116 := n2_; have BK101 := n3_; have BK112 := n4_; have HB := n5_; clear n0_ n1_ n2_ n3_ n4_ n5_; (try clear hb); (try clear hb2); (try clear hk); (try clear hi); (try clear ho0)) | ((with_reducible refine gate_dst (N := 8) rfl ?_); refine box_event ?hg (N := 8) ?hd (cs := #[.int .i64 0, .slice none 0 0]) (t := 29) ?hr ?_; (case hd => rfl); (case hg => rfl); (case hr => first | (go_simp; done) | (go_simp; rfl)); intro gb117 hg w26 hbox hb; have n0_ := Aside0.mk (Kd.R_below (by (with_reducible repeat (first | apply Kd.R_alloc | apply Kd.R_drewN | apply Kd.R_drew)); exact HO106.out) hb); have n1_ := Aside0.mk (Kd.R_below (by (with_reducible repeat (first | apply Kd.R_alloc | apply Kd.R_drewN | apply Kd.R_drew)); exact HO110.out) hb); have n2_ := Aside0.mk (Kd.R_below (by (with_reducible repeat (first | apply Kd.R_alloc | apply Kd.R_drewN | apply Kd.R_drew)); exact HO116.out) hb); have n3_ := Aside0.mk (blk_below (g := gb101) (o := .cells #[.int .i64 a1_0, .slice A1_1 l1_1.length c1_1] 24 (0, 0)) (by (with_reducible repeat (first | refine blk_drewN ?_ _ | refine blk_drew ?_ | refine blk_alloc ?_ _)); exact BK101.out) hb); have n4_ := Aside0.mk (blk_below (g := gb112) (o := .cells #[.int .i64 t107, .slice Ao23 t108.length co23] 29 (0, 0)) (by (with_reducible repeat (first | refine blk_drewN ?_ _ | refine blk_drew ?_ | refine blk_alloc ?_ _)); exact BK112.out) hb); have n5_ := Aside0.mk (below_step (by repeat (first | (with_reducible first | exact HB.out | apply below_alloc | apply pw_below_drewN | apply below_drew1 | refine below_set ?_ GE101.out | refine below_set ?_ GE112.out) | exact HB.out)) hb); have n6_ := Aside0.mk (hbox); have n7_ := Aside0.mk ((by rw [hg]; exact (below_size (by repeat (first | (with_reducible first | exact HB.out | apply below_alloc | apply pw_below_drewN | apply below_drew1 | refine below_set ?_ GE101.out | refine below_set ?_ GE112.out) | exact HB.out))) : w.heap.size ≤ gb117)); have n8_ := Aside0.mk ((by rw [hg]; exact (below_size (by repeat (first | (with_reducible first | exact HB.out | apply below_alloc | apply pw_below_drewN | apply below_drew1 | refine below_set ?_ GE101.out | refine below_set ?_ GE112.out) | exact HB.out))) : w.heap.size ≤ gb117)); have n9_ := Aside0.mk ((by rw [hg]; exact Nat.ne_of_lt (blk_lt (g := gb101) (o := .cells #[.int .i64 a1_0, .slice A1_1 l1_1.length c1_1] 24 (0, 0)) (by (with_reducible repeat (first | refine blk_drewN ?_ _ | refine blk_drew ?_ | refine blk_alloc ?_ _)); exact BK101.out)) : gb101 ≠ gb117)); have n10_ := Aside0.mk ((by rw [hg]; exact Nat.ne_of_gt (blk_lt (g := gb101) (o := .cells #[.int .i64 a1_0, .slice A1_1 l1_1.length c1_1] 24 (0, 0)) (by (with_reducible repeat (first | refine blk_drewN ?_ _ | refine blk_drew ?_ | refine blk_alloc ?_ _)); exact BK101.out)) : gb117 ≠ gb101)); have n11_ := Aside0.mk ((by rw [hg]; exact Nat.ne_of_lt (blk_lt (g := gb112) (o := .cells #[.int .i64 t107, .slice Ao23 t108.length co23] 29 (0, 0)) (by (with_reducible repeat (first | refine blk_drewN ?_ _ | refine blk_drew ?_ | refine blk_alloc ?_ _)); exact BK112.out)) : gb112 ≠ gb117)); have n12_ := Aside0.mk ((by rw [hg]; exact Nat.ne_of_gt (blk_lt (g := gb112) (o := .cells #[.int .i64 t107, .slice Ao23 t108.length co23] 29 (0, 0)) (by (with_reducible repeat (first | refine blk_drewN ?_ _ | refine blk_drew ?_ | refine blk_alloc ?_ _)); exact BK112.out)) : gb117 ≠ gb112)); clear HO106; clear HO110; clear HO116; clear BK101; clear BK112; clear HB; have HO106 := n0_; have HO110 := n1_; have HO116 := n2_; have BK101 := n3_; have BK112 := n4_; have HB := n5_; have BK117 := n6_; have GW117 := n7_; have GE117 := n8_; have NB101_117 := n9_; have NB117_101 := n10_; have NB112_117 := n11_; have NB117_112 := n12_; clear n0_ n1_ n2_ n3_ n4_ n5_ n6_ n7_ n8_ n9_ n10_ n11_ n12_; clear hb hbox hg; have hnb27 := NB117_101.out; have hnc27 := NB101_117.out; have hnb28 := NB117_112.out; have hnc28 := NB112_117.out; have hcz29_0 : w26.cell? ⟨gb117, 0, none⟩ = some (.int .i64 0) := (blk_cell BK117.out 0).trans rfl; have hcz29_1 : w26.cell? ⟨gb117, 1, none⟩ = some (.slice none 0 0) := (blk_cell BK117.out 1).trans rfl; have hfz29_0 := blk_frozen BK117.out 0; have hfz29_1 := blk_frozen BK117.out 1; obtain ⟨Ao30, co30, eo30⟩ := Kd.R_slice HO116.out; subst eo30) | ((with_reducible refine gate_callee (f := 41) rfl ?_); refine goesL_ (some 33) rfl rfl Try.func41 (by kernel_rfl) rfl #[.int .i64 a0, .agg #[.int .i64 t113, .slice Ao30 t114.length co30]] rfl (by (try simp only [List.map_toArray, List.map_cons, List.map_nil]); first | done | rfl | (simp only [List.length_drop, List.length_take]; rfl)) ?_; (with_reducible refine (impl_NotDiagram.calls k a0 t113 _ _ t114 t118 t119 t122 _ ?side1 ?side2 A11.out).mono ?_); (case side1 => refine (Kd.R_reads' (e := 97) (base := w.heap.size) (ok := fun k_ => ((True ∧ some k_ ≠ (.slice Ao18 t104.length co18 : Value).ownBlock) ∧ some k_ ≠ (.slice Ao23 t108.length co23 : Value).ownBlock)) (n := t114.length) (c := co30) ?_).2.2; exact (by (with_reducible repeat (first | apply Kd.R_alloc | apply Kd.R_drewN | apply Kd.R_drew)); exact (Kd.R_mono (Kd.R_far (p := ⟨gb117, 1, none⟩) (Kd.R_far (p := ⟨gb117, 0, none⟩) (Kd.R_types HO116.out BK117.out (by decide)) (fun _ hk => hk.2) (.int .i64 t113)) (fun _ hk => hk.2) (.slice Ao30 t114.length co30)) (fun _ h_ => h_.1)))); (case side2 => exact (Kd.R_reads' HO116.out).2.1); rintro e w31 ⟨v120, rfl, ho0, hb⟩; refine ⟨_, rfl, ?_⟩; have n0_ := Aside0.mk (Kd.R_elder' (by (with_reducible repeat (first | apply Kd.R_alloc | apply Kd.R_drewN | apply Kd.R_drew)); exact (Kd.R_mono (Kd.R_far (p := ⟨gb117, 1, none⟩) (Kd.R_far (p := ⟨gb117, 0, none⟩) (Kd.R_types HO106.out BK117.out (by decide)) (fun _ hk => hk.2) (.int .i64 t113)) (fun _ hk => hk.2) (.slice Ao30 t114.length co30)) (fun _ h_ => h_.1))) (Kd.R_base ho0) hb); have n1_ := Aside0.mk (Kd.R_elder' (by (with_reducible repeat (first | apply Kd.R_alloc | apply Kd.R_drewN | apply Kd.R_drew)); exact (Kd.R_mono (Kd.R_far (p := ⟨gb117, 1, none⟩) (Kd.R_far (p := ⟨gb117, 0, none⟩) (Kd.R_types HO110.out BK117.out (by decide)) (fun _ hk => hk.2) (.int .i64 t113)) (fun _ hk => hk.2) (.slice Ao30 t114.length co30)) (fun _ h_ => h_.1))) (Kd.R_base ho0) hb); have n2_ := Aside0.mk (Kd.R_elder' (by (with_reducible repeat (first | apply Kd.R_alloc | apply Kd.R_drewN | apply Kd.R_drew)); exact (Kd.R_mono (Kd.R_far (p := ⟨gb117, 1, none⟩) (Kd.R_far (p := ⟨gb117, 0, none⟩) (Kd.R_types HO116.out BK117.out (by decide)) (fun _ hk => hk.2) (.int .i64 t113)) (fun _ hk => hk.2) (.slice Ao30 t114.length co30)) (fun _ h_ => h_.1))) (Kd.R_base ho0) hb); have n3_ := Aside0.mk (Kd.R_lower (Kd.R_new' (Kd.R_new' (Kd.R_new' ho0 (Kd.R_lt (by (with_reducible repeat (first | apply Kd.R_alloc | apply Kd.R_drewN | apply Kd.R_drew)); exact (Kd.R_mono (Kd.R_far (p := ⟨gb117, 1, none⟩) (Kd.R_far (p := ⟨gb117, 0, none⟩) (Kd.R_types HO106.out BK117.out (by decide)) (fun _ hk => hk.2) (.int .i64 t113)) (fun _ hk => hk.2) (.slice Ao30 t114.length co30)) (fun _ h_ => h_.1))))) (Kd.R_lt (by (with_reducible repeat (first | apply Kd.R_alloc | apply Kd.R_drewN | apply Kd.R_drew)); exact (Kd.R_mono (Kd.R_far (p := ⟨gb117, 1, none⟩) (Kd.R_far (p := ⟨gb117, 0, none⟩) (Kd.R_types HO110.out BK117.out (by decide)) (fun _ hk => hk.2) (.int .i64 t113)) (fun _ hk => hk.2) (.slice Ao30 t114.length co30)) (fun _ h_ => h_.1))))) (Kd.R_lt (by (with_reducible repeat (first | apply Kd.R_alloc | apply Kd.R_drewN | apply Kd.R_drew)); exact (Kd.R_mono (Kd.R_far (p := ⟨gb117, 1, none⟩) (Kd.R_far (p := ⟨gb117, 0, none⟩) (Kd.R_types HO116.out BK117.out (by decide)) (fun _ hk => hk.2) (.int .i64 t113)) (fun _ hk => hk.2) (.slice Ao30 t114.length co30)) (fun _ h_ => h_.1))))) (below_size (by repeat (first | (with_reducible first | exact HB.out | apply below_alloc | apply pw_below_drewN | apply below_drew1 | refine below_set ?_ GE101.out | refine below_set ?_ GE112.out | refine below_set ?_ GE117.out) | exact HB.out)))); have n4_ := Aside0.mk (blk_below (g := gb101) (o := .cells #[.int .i64 a1_0, .slice A1_1 l1_1.length c1_1] 24 (0, 0)) (by (with_reducible repeat (first | refine blk_drewN ?_ _ | refine blk_drew ?_ | refine blk_alloc ?_ _)); refine blk_far ?_ NB101_117.out _; (with_reducible repeat (first | refine blk_drewN ?_ _ | refine blk_drew ?_ | refine blk_alloc ?_ _)); refine blk_far ?_ NB101_117.out _; (with_reducible repeat (first | refine blk_drewN ?_ _ | refine blk_drew ?_ | refine blk_alloc ?_ _)); exact BK101.out) hb); have n5_ := Aside0.mk (blk_below (g := gb112) (o := .cells #[.int .i64 t107, .slice Ao23 t108.length co23] 29 (0, 0)) (by (with_reducible repeat (first | refine blk_drewN ?_ _ | refine blk_drew ?_ | refine blk_alloc ?_ _)); refine blk_far ?_ NB112_117.out _; (with_reducible repeat (first | refine blk_drewN ?_ _ | refine blk_drew ?_ | refine blk_alloc ?_ _)); refine blk_far ?_ NB112_117.out _; (with_reducible repeat (first | refine blk_drewN ?_ _ | refine blk_drew ?_ | refine blk_alloc ?_ _)); exact BK112.out) hb); have n6_ := Aside0.mk (blk_below (g := gb117) (o := .cells #[.int .i64 t113, .slice Ao30 t114.length co30] 29 (0, 0)) (by (with_reducible repeat (first | refine blk_drewN ?_ _ | refine blk_drew ?_ | refine blk_alloc ?_ _)); refine blk_put (cs := #[.int .i64 t113, .slice none 0 0]) ?_ 1 _ rfl; (with_reducible repeat (first | refine blk_drewN ?_ _ | refine blk_drew ?_ | refine blk_alloc ?_ _)); refine blk_put (cs := #[.int .i64 0, .slice none 0 0]) ?_ 0 _ rfl; (with_reducible repeat (first | refine blk_drewN ?_ _ | refine blk_drew ?_ | refine blk_alloc ?_ _)); exact BK117.out) hb); have n7_ := Aside0.mk (below_step (by repeat (first | (with_reducible first | exact HB.out | apply below_alloc | apply pw_below_drewN | apply below_drew1 | refine below_set ?_ GE101.out | refine below_set ?_ GE112.out | refine below_set ?_ GE117.out) | exact HB.out)) hb); clear HO106; clear HO110; clear HO116; clear BK101; clear BK112; clear BK117; clear HB; have HO106 := n0_; have HO110 := n1_; have HO116 := n2_; have HO121 := n3_; have BK101 := n4_; have BK112 := n5_; have BK117 := n6_; have HB := n7_; clear n0_ n1_ n2_ n3_ n4_ n5_ n6_ n7_; (try clear hb); (try clear hb2); (try clear hk); (try clear hi); (try clear ho0)) | ((with_reducible refine gate_dst (N := 9) rfl ?_); refine box_event ?hg (N := 9) ?hd (cs := #[.int .i64 0, .slice none 0 0]) (t := 29) ?hr ?_; (case hd => rfl); (case hg => rfl); (case hr => first | (go_simp; done) | (go_simp; rfl)); intro gb123 hg w32 hbox hb; have n0_ := Aside0.mk (Kd.R_below (by (with_reducible repeat (first | apply Kd.R_alloc | apply Kd.R_drewN | apply Kd.R_drew)); exact HO106.out) hb); have n1_ := Aside0.mk (Kd.R_below (by (with_reducible repeat (first | apply Kd.R_alloc | apply Kd.R_drewN | apply Kd.R_drew)); exact HO110.out) hb); have n2_ := Aside0.mk (Kd.R_below (by (with_reducible repeat (first | apply Kd.R_alloc | apply Kd.R_drewN | apply Kd.R_drew)); exact HO116.out) hb); have n3_ := Aside0.mk (Kd.R_below (by (with_reducible repeat (first | apply Kd.R_alloc | apply Kd.R_drewN | apply Kd.R_drew)); exact HO121.out) hb); have n4_ := Aside0.mk (blk_below (g := gb101) (o := .cells #[.int .i64 a1_0, .slice A1_1 l1_1.length c1_1] 24 (0, 0)) (by (with_reducible repeat (first | refine blk_drewN ?_ _ | refine blk_drew ?_ | refine blk_alloc ?_ _)); exact BK101.out) hb); have n5_ := Aside0.mk (blk_below (g := gb112) (o := .cells #[.int .i64 t107, .slice Ao23 t108.length co23] 29 (0, 0)) (by (with_reducible repeat (first | refine blk_drewN ?_ _ | refine blk_drew ?_ | refine blk_alloc ?_ _)); exact BK112.out) hb); have n6_ := Aside0.mk (blk_below (g := gb117) (o := .cells #[.int .i64 t113, .slice Ao30 t114.length co30] 29 (0, 0)) (by (with_reducible repeat (first | refine blk_drewN ?_ _ | refine blk_drew ?_ | refine blk_alloc ?_ _)); exact BK117.out) hb); have n7_ := Aside0.mk (below_step (by repeat (first | (with_reducible first | exact HB.out | apply below_alloc | apply pw_below_drewN | apply below_drew1 | refine below_set ?_ GE101.out | refine below_set ?_ GE112.out | refine below_set ?_ GE117.out) | exact HB.out)) hb); have n8_ := Aside0.mk (hbox); have n9_ := Aside0.mk ((by rw [hg]; exact (below_size (by repeat (first | (with_reducible first | exact HB.out | apply below_alloc | apply pw_below_drewN | apply below_drew1 | refine below_set ?_ GE101.out | refine below_set ?_ GE112.out | refine below_set ?_ GE117.out) | exact HB.out))) : w.heap.size ≤ gb123)); have n10_ := Aside0.mk ((by rw [hg]; exact (below_size (by repeat (first | (with_reducible first | exact HB.out | apply below_alloc | apply pw_below_drewN | apply below_drew1 | refine below_set ?_ GE101.out | refine below_set ?_ GE112.out | refine below_set ?_ GE117.out) | exact HB.out))) : w.heap.size ≤ gb123)); have n11_ := Aside0.mk ((by rw [hg]; exact Nat.ne_of_lt (blk_lt (g := gb101) (o := .cells #[.int .i64 a1_0, .slice A1_1 l1_1.length c1_1] 24 (0, 0)) (by (with_reducible repeat (first | refine blk_drewN ?_ _ | refine blk_drew ?_ | refine blk_alloc ?_ _)); exact BK101.out)) : gb101 ≠ gb123)); have n12_ := Aside0.mk ((by rw [hg]; exact Nat.ne_of_gt (blk_lt (g := gb101) (o := .cells #[.int .i64 a1_0, .slice A1_1 l1_1.length c1_1] 24 (0, 0)) (by (with_reducible repeat (first | refine blk_drewN ?_ _ | refine blk_drew ?_ | refine blk_alloc ?_ _)); exact BK101.out)) : gb123 ≠ gb101)); have n13_ := Aside0.mk ((by rw [hg]; exact Nat.ne_of_lt (blk_lt (g := gb112) (o := .cells #[.int .i64 t107, .slice Ao23 t108.length co23] 29 (0, 0)) (by (with_reducible repeat (first | refine blk_drewN ?_ _ | refine blk_drew ?_ | refine blk_alloc ?_ _)); exact BK112.out)) : gb112 ≠ gb123)); have n14_ := Aside0.mk ((by rw [hg]; exact Nat.ne_of_gt (blk_lt (g := gb112) (o := .cells #[.int .i64 t107, .slice Ao23 t108.length co23] 29 (0, 0)) (by (with_reducible repeat (first | refine blk_drewN ?_ _ | refine blk_drew ?_ | refine blk_alloc ?_ _)); exact BK112.out)) : gb123 ≠ gb112)); have n15_ := Aside0.mk ((by rw [hg]; exact Nat.ne_of_lt (blk_lt (g := gb117) (o := .cells #[.int .i64 t113, .slice Ao30 t114.length co30] 29 (0, 0)) (by (with_reducible repeat (first | refine blk_drewN ?_ _ | refine blk_drew ?_ | refine blk_alloc ?_ _)); exact BK117.out)) : gb117 ≠ gb123)); have n16_ := Aside0.mk ((by rw [hg]; exact Nat.ne_of_gt (blk_lt (g := gb117) (o := .cells #[.int .i64 t113, .slice Ao30 t114.length co30] 29 (0, 0)) (by (with_reducible repeat (first | refine blk_drewN ?_ _ | refine blk_drew ?_ | refine blk_alloc ?_ _)); exact BK117.out)) : gb123 ≠ gb117)); clear HO106; clear HO110; clear HO116; clear HO121; clear BK101; clear BK112; clear BK117; clear HB; have HO106 := n0_; have HO110 := n1_; have HO116 := n2_; have HO121 := n3_; have BK101 := n4_; have BK112 := n5_; have BK117 := n6_; have HB := n7_; have BK123 := n8_; have GW123 := n9_; have GE123 := n10_; have NB101_123 := n11_; have NB123_101 := n12_; have NB112_123 := n13_; have NB123_112 := n14_; have NB117_123 := n15_; have NB123_117 := n16_; clear n0_ n1_ n2_ n3_ n4_ n5_ n6_ n7_ n8_ n9_ n10_ n11_ n12_ n13_ n14_ n15_ n16_; clear hb hbox hg; have hnb33 := NB123_101.out; have hnc33 := NB101_123.out; have hnb34 := NB123_112.out; have hnc34 := NB112_123.out; have hnb35 := NB123_117.out; have hnc35 := NB117_123.out; have hcz36_0 : w32.cell? ⟨gb123, 0, none⟩ = some (.int .i64 0) := (blk_cell BK123.out 0).trans rfl; have hcz36_1 : w32.cell? ⟨gb123, 1, none⟩ = some (.slice none 0 0) := (blk_cell BK123.out 1).trans rfl; have hfz36_0 := blk_frozen BK123.out 0; have hfz36_1 := blk_frozen BK123.out 1; obtain ⟨Ao37, co37, eo37⟩ := Kd.R_slice HO121.out; subst eo37))
    (try simp only [Act.put, List.setIfInBounds_toArray, List.set_cons_zero, List.set_cons_succ])
    go_cut [44] (fun v44 wc => ∃ (kq : Nat) (x44_11 : Bool), v44 = .bool x44_11 ∧ Aside0 (laws_FnExactNotDiagram.j0 kq a0 t111 t122 x44_11 a1_0 l1_1 t107 t108 t113 t114 t118 t119 = some r) ∧ Aside0 (kq ≤ k) ∧ Aside0 (Kd.R k97 97 wc w.heap.size (fun k_ => some k_ ≠ ((.slice Ao30 t114.length co30) : Value).ownBlock ∧ some k_ ≠ ((.slice Ao37 t119.length co37) : Value).ownBlock) (.slice Ao23 t108.length co23) t108) ∧ Aside0 (Kd.R k97 97 wc w.heap.size (fun k_ => some k_ ≠ ((.slice Ao23 t108.length co23) : Value).ownBlock ∧ some k_ ≠ ((.slice Ao37 t119.length co37) : Value).ownBlock) (.slice Ao30 t114.length co30) t114) ∧ Aside0 (Kd.R k97 97 wc w.heap.size (fun k_ => some k_ ≠ ((.slice Ao23 t108.length co23) : Value).ownBlock ∧ some k_ ≠ ((.slice Ao30 t114.length co30) : Value).ownBlock) (.slice Ao37 t119.length co37) t119) ∧ Aside0 (wc.heap[gb101]? = some (.cells #[.int .i64 a1_0, (.slice A1_1 l1_1.length c1_1)] 24 (0, 0))) ∧ Aside0 (wc.heap[gb112]? = some (.cells #[.int .i64 t107, (.slice Ao23 t108.length co23)] 29 (0, 0))) ∧ Aside0 (wc.heap[gb117]? = some (.cells #[.int .i64 t113, (.slice Ao30 t114.length co30)] 29 (0, 0))) ∧ Aside0 (wc.heap[gb123]? = some (.cells #[.int .i64 t118, (.slice Ao37 t119.length co37)] 29 (0, 0))) ∧ Aside0 (Below w.heap.size w wc))
    case first =>
      have H := HC12.out
      clear HC12
      replace H := Option.bind_eq_some_iff.mp H
      obtain ⟨t124, A380, H⟩ := H
      replace H : (if t124 = true then (laws_FnExactNotDiagram.j0 k a0 t111 t122 (t122 != t111) a1_0 l1_1 t107 t108 t113 t114 t118 t119) else (laws_FnExactNotDiagram.j0 k a0 t111 t122 true a1_0 l1_1 t107 t108 t113 t114 t118 t119)) = some r := H
      have A38 := Aside0.mk A380
      clear A380
      by_cases c39 : t124 = true
      · subst c39
        have H1 : (laws_FnExactNotDiagram.j0 k a0 t111 t122 (t122 != t111) a1_0 l1_1 t107 t108 t113 t114 t118 t119) = some r := by rw [if_pos rfl] at H; exact H
        clear H
        have H := H1
        clear H1
        have H' := Aside0.mk H
        clear H
        have hnb40 := NB123_101.out
        have hnc40 := NB101_123.out
        have hnb41 := NB123_112.out
        have hnc41 := NB112_123.out
        have hnb42 := NB123_117.out
        have hnc42 := NB117_123.out
        have hcz43_0 : w32.cell? ⟨gb123, 0, none⟩ = some (.int .i64 0) := (blk_cell BK123.out 0).trans rfl
        have hcz43_1 : w32.cell? ⟨gb123, 1, none⟩ = some (.slice none 0 0) := (blk_cell BK123.out 1).trans rfl
        have hfz43_0 := blk_frozen BK123.out 0
        have hfz43_1 := blk_frozen BK123.out 1
        have hnb44 := NB112_101.out
        have hnc44 := NB101_112.out
        have hnb45 := NB112_117.out
        have hnc45 := NB117_112.out
        have hcz46_0 : w32.cell? ⟨gb112, 0, none⟩ = some (.int .i64 t107) := (blk_cell BK112.out 0).trans rfl
        have hcz46_1 : w32.cell? ⟨gb112, 1, none⟩ = some (.slice Ao23 t108.length co23) := (blk_cell BK112.out 1).trans rfl
        have hfz46_0 := blk_frozen BK112.out 0
        have hfz46_1 := blk_frozen BK112.out 1
        go_wp2_with (first | ((with_reducible refine gate_callee (f := 18) rfl ?_); refine goesL_ (some 38) rfl rfl Try.func18 (by kernel_rfl) rfl #[.agg #[.int .i64 t118, .slice Ao37 t119.length co37], .agg #[.int .i64 t107, .slice Ao23 t108.length co23]] rfl (by (try simp only [List.map_toArray, List.map_cons, List.map_nil]); first | done | rfl | (simp only [List.length_drop, List.length_take]; rfl)) ?_; (with_reducible refine (laws_eqDiagram.calls k t118 _ _ t119 t107 _ _ t108 true _ ?side1 ?side2 ?side3 ?side4 A38.out).mono ?_); (case side1 => refine (Kd.R_reads' (e := 97) (base := w.heap.size) (ok := fun k_ => (((True ∧ some k_ ≠ (.slice Ao18 t104.length co18 : Value).ownBlock) ∧ some k_ ≠ (.slice Ao23 t108.length co23 : Value).ownBlock) ∧ some k_ ≠ (.slice Ao30 t114.length co30 : Value).ownBlock)) (n := t119.length) (c := co37) ?_).2.2; exact (by (with_reducible repeat (first | apply Kd.R_alloc | apply Kd.R_drewN | apply Kd.R_drew)); exact (Kd.R_mono (Kd.R_far (p := ⟨gb123, 1, none⟩) (Kd.R_far (p := ⟨gb123, 0, none⟩) (Kd.R_types HO121.out BK123.out (by decide)) (fun _ hk => hk.2) (.int .i64 t118)) (fun _ hk => hk.2) (.slice Ao37 t119.length co37)) (fun _ h_ => h_.1)))); (case side2 => exact (Kd.R_reads' HO121.out).2.1); (case side3 => refine (Kd.R_reads' (e := 97) (base := w.heap.size) (ok := fun k_ => (((True ∧ some k_ ≠ (.slice Ao18 t104.length co18 : Value).ownBlock) ∧ some k_ ≠ (.slice Ao30 t114.length co30 : Value).ownBlock) ∧ some k_ ≠ (.slice Ao37 t119.length co37 : Value).ownBlock)) (n := t108.length) (c := co23) ?_).2.2; exact (by (with_reducible repeat (first | apply Kd.R_alloc | apply Kd.R_drewN | apply Kd.R_drew)); exact (Kd.R_mono (Kd.R_far (p := ⟨gb123, 1, none⟩) (Kd.R_far (p := ⟨gb123, 0, none⟩) (Kd.R_types HO110.out BK123.out (by decide)) (fun _ hk => hk.2) (.int .i64 t118)) (fun _ hk => hk.2) (.slice Ao37 t119.length co37)) (fun _ h_ => h_.1)))); (case side4 => exact (Kd.R_reads' HO110.out).2.1); rintro e w47 ⟨rfl, hb⟩; refine ⟨_, rfl, ?_⟩; have n0_ := Aside0.mk (Kd.R_below (by (with_reducible repeat (first | apply Kd.R_alloc | apply Kd.R_drewN | apply Kd.R_drew)); exact (Kd.R_mono (Kd.R_far (p := ⟨gb123, 1, none⟩) (Kd.R_far (p := ⟨gb123, 0, none⟩) (Kd.R_types HO106.out BK123.out (by decide)) (fun _ hk => hk.2) (.int .i64 t118)) (fun _ hk => hk.2) (.slice Ao37 t119.length co37)) (fun _ h_ => h_.1))) hb); have n1_ := Aside0.mk (Kd.R_below (by (with_reducible repeat (first | apply Kd.R_alloc | apply Kd.R_drewN | apply Kd.R_drew)); exact (Kd.R_mono (Kd.R_far (p := ⟨gb123, 1, none⟩) (Kd.R_far (p := ⟨gb123, 0, none⟩) (Kd.R_types HO110.out BK123.out (by decide)) (fun _ hk => hk.2) (.int .i64 t118)) (fun _ hk => hk.2) (.slice Ao37 t119.length co37)) (fun _ h_ => h_.1))) hb); have n2_ := Aside0.mk (Kd.R_below (by (with_reducible repeat (first | apply Kd.R_alloc | apply Kd.R_drewN | apply Kd.R_drew)); exact (Kd.R_mono (Kd.R_far (p := ⟨gb123, 1, none⟩) (Kd.R_far (p := ⟨gb123, 0, none⟩) (Kd.R_types HO116.out BK123.out (by decide)) (fun _ hk => hk.2) (.int .i64 t118)) (fun _ hk => hk.2) (.slice Ao37 t119.length co37)) (fun _ h_ => h_.1))) hb); have n3_ := Aside0.mk (Kd.R_below (by (with_reducible repeat (first | apply Kd.R_alloc | apply Kd.R_drewN | apply Kd.R_drew)); exact (Kd.R_mono (Kd.R_far (p := ⟨gb123, 1, none⟩) (Kd.R_far (p := ⟨gb123, 0, none⟩) (Kd.R_types HO121.out BK123.out (by decide)) (fun _ hk => hk.2) (.int .i64 t118)) (fun _ hk => hk.2) (.slice Ao37 t119.length co37)) (fun _ h_ => h_.1))) hb); have n4_ := Aside0.mk (blk_below (g := gb101) (o := .cells #[.int .i64 a1_0, .slice A1_1 l1_1.length c1_1] 24 (0, 0)) (by (with_reducible repeat (first | refine blk_drewN ?_ _ | refine blk_drew ?_ | refine blk_alloc ?_ _)); refine blk_far ?_ NB101_123.out _; (with_reducible repeat (first | refine blk_drewN ?_ _ | refine blk_drew ?_ | refine blk_alloc ?_ _)); refine blk_far ?_ NB101_123.out _; (with_reducible repeat (first | refine blk_drewN ?_ _ | refine blk_drew ?_ | refine blk_alloc ?_ _)); exact BK101.out) hb); have n5_ := Aside0.mk (blk_below (g := gb112) (o := .cells #[.int .i64 t107, .slice Ao23 t108.length co23] 29 (0, 0)) (by (with_reducible repeat (first | refine blk_drewN ?_ _ | refine blk_drew ?_ | refine blk_alloc ?_ _)); refine blk_far ?_ NB112_123.out _; (with_reducible repeat (first | refine blk_drewN ?_ _ | refine blk_drew ?_ | refine blk_alloc ?_ _)); refine blk_far ?_ NB112_123.out _; (with_reducible repeat (first | refine blk_drewN ?_ _ | refine blk_drew ?_ | refine blk_alloc ?_ _)); exact BK112.out) hb); have n6_ := Aside0.mk (blk_below (g := gb117) (o := .cells #[.int .i64 t113, .slice Ao30 t114.length co30] 29 (0, 0)) (by (with_reducible repeat (first | refine blk_drewN ?_ _ | refine blk_drew ?_ | refine blk_alloc ?_ _)); refine blk_far ?_ NB117_123.out _; (with_reducible repeat (first | refine blk_drewN ?_ _ | refine blk_drew ?_ | refine blk_alloc ?_ _)); refine blk_far ?_ NB117_123.out _; (with_reducible repeat (first | refine blk_drewN ?_ _ | refine blk_drew ?_ | refine blk_alloc ?_ _)); exact BK117.out) hb); have n7_ := Aside0.mk (blk_below (g := gb123) (o := .cells #[.int .i64 t118, .slice Ao37 t119.length co37] 29 (0, 0)) (by (with_reducible repeat (first | refine blk_drewN ?_ _ | refine blk_drew ?_ | refine blk_alloc ?_ _)); refine blk_put (cs := #[.int .i64 t118, .slice none 0 0]) ?_ 1 _ rfl; (with_reducible repeat (first | refine blk_drewN ?_ _ | refine blk_drew ?_ | refine blk_alloc ?_ _)); refine blk_put (cs := #[.int .i64 0, .slice none 0 0]) ?_ 0 _ rfl; (with_reducible repeat (first | refine blk_drewN ?_ _ | refine blk_drew ?_ | refine blk_alloc ?_ _)); exact BK123.out) hb); have n8_ := Aside0.mk (below_step (by repeat (first | (with_reducible first | exact HB.out | apply below_alloc | apply pw_below_drewN | apply below_drew1 | refine below_set ?_ GE101.out | refine below_set ?_ GE112.out | refine below_set ?_ GE117.out | refine below_set ?_ GE123.out) | exact HB.out)) hb); clear HO106; clear HO110; clear HO116; clear HO121; clear BK101; clear BK112; clear BK117; clear BK123; clear HB; have HO106 := n0_; have HO110 := n1_; have HO116 := n2_; have HO121 := n3_; have BK101 := n4_; have BK112 := n5_; have BK117 := n6_; have BK123 := n7_; have HB := n8_; clear n0_ n1_ n2_ n3_ n4_ n5_ n6_ n7_ n8_; (try clear hb); (try clear hb2); (try clear hk); (try clear hi)))
        go_meet
        case rel => exact ⟨_, ((t122 != t111)), (by first | rfl | (simp; done) | (simp [*]; done)), H', ⟨by first | omega | exact Nat.le_refl _⟩, ⟨by (with_reducible repeat (first | apply Kd.R_alloc | apply Kd.R_drewN | apply Kd.R_drew)); exact Kd.R_mono HO110.out (fun _ hk => ⟨hk.1.2, hk.2⟩)⟩, ⟨by (with_reducible repeat (first | apply Kd.R_alloc | apply Kd.R_drewN | apply Kd.R_drew)); exact Kd.R_mono HO116.out (fun _ hk => ⟨hk.1.2, hk.2⟩)⟩, ⟨by (with_reducible repeat (first | apply Kd.R_alloc | apply Kd.R_drewN | apply Kd.R_drew)); exact Kd.R_mono HO121.out (fun _ hk => ⟨hk.1.2, hk.2⟩)⟩, ⟨by (with_reducible repeat (first | refine blk_drewN ?_ _ | refine blk_drew ?_ | refine blk_alloc ?_ _)); exact BK101.out⟩, ⟨by (with_reducible repeat (first | refine blk_drewN ?_ _ | refine blk_drew ?_ | refine blk_alloc ?_ _)); exact BK112.out⟩, ⟨by (with_reducible repeat (first | refine blk_drewN ?_ _ | refine blk_drew ?_ | refine blk_alloc ?_ _)); exact BK117.out⟩, ⟨by (with_reducible repeat (first | refine blk_drewN ?_ _ | refine blk_drew ?_ | refine blk_alloc ?_ _)); exact BK123.out⟩, ⟨by repeat (first | (with_reducible first | exact HB.out | apply below_alloc | apply pw_below_drewN | apply below_drew1 | refine below_set ?_ GE101.out | refine below_set ?_ GE112.out | refine below_set ?_ GE117.out | refine below_set ?_ GE123.out) | exact HB.out)⟩⟩
      · replace c39 := Bool.eq_false_iff.mpr c39
        subst c39
        have H1 : (laws_FnExactNotDiagram.j0 k a0 t111 t122 true a1_0 l1_1 t107 t108 t113 t114 t118 t119) = some r := by rw [if_neg (show ¬ (false = true) by decide)] at H; exact H
        clear H
        have H := H1
        clear H1
        have H' := Aside0.mk H
        clear H
        have hnb48 := NB123_101.out
        have hnc48 := NB101_123.out
        have hnb49 := NB123_112.out
        have hnc49 := NB112_123.out
        have hnb50 := NB123_117.out
        have hnc50 := NB117_123.out
        have hcz51_0 : w32.cell? ⟨gb123, 0, none⟩ = some (.int .i64 0) := (blk_cell BK123.out 0).trans rfl
        have hcz51_1 : w32.cell? ⟨gb123, 1, none⟩ = some (.slice none 0 0) := (blk_cell BK123.out 1).trans rfl
        have hfz51_0 := blk_frozen BK123.out 0
        have hfz51_1 := blk_frozen BK123.out 1
        have hnb52 := NB112_101.out
        have hnc52 := NB101_112.out
        have hnb53 := NB112_117.out
        have hnc53 := NB117_112.out
        have hcz54_0 : w32.cell? ⟨gb112, 0, none⟩ = some (.int .i64 t107) := (blk_cell BK112.out 0).trans rfl
        have hcz54_1 : w32.cell? ⟨gb112, 1, none⟩ = some (.slice Ao23 t108.length co23) := (blk_cell BK112.out 1).trans rfl
        have hfz54_0 := blk_frozen BK112.out 0
        have hfz54_1 := blk_frozen BK112.out 1
        go_wp2_with (first | ((with_reducible refine gate_callee (f := 18) rfl ?_); refine goesL_ (some 38) rfl rfl Try.func18 (by kernel_rfl) rfl #[.agg #[.int .i64 t118, .slice Ao37 t119.length co37], .agg #[.int .i64 t107, .slice Ao23 t108.length co23]] rfl (by (try simp only [List.map_toArray, List.map_cons, List.map_nil]); first | done | rfl | (simp only [List.length_drop, List.length_take]; rfl)) ?_; (with_reducible refine (laws_eqDiagram.calls k t118 _ _ t119 t107 _ _ t108 false _ ?side1 ?side2 ?side3 ?side4 A38.out).mono ?_); (case side1 => refine (Kd.R_reads' (e := 97) (base := w.heap.size) (ok := fun k_ => (((True ∧ some k_ ≠ (.slice Ao18 t104.length co18 : Value).ownBlock) ∧ some k_ ≠ (.slice Ao23 t108.length co23 : Value).ownBlock) ∧ some k_ ≠ (.slice Ao30 t114.length co30 : Value).ownBlock)) (n := t119.length) (c := co37) ?_).2.2; exact (by (with_reducible repeat (first | apply Kd.R_alloc | apply Kd.R_drewN | apply Kd.R_drew)); exact (Kd.R_mono (Kd.R_far (p := ⟨gb123, 1, none⟩) (Kd.R_far (p := ⟨gb123, 0, none⟩) (Kd.R_types HO121.out BK123.out (by decide)) (fun _ hk => hk.2) (.int .i64 t118)) (fun _ hk => hk.2) (.slice Ao37 t119.length co37)) (fun _ h_ => h_.1)))); (case side2 => exact (Kd.R_reads' HO121.out).2.1); (case side3 => refine (Kd.R_reads' (e := 97) (base := w.heap.size) (ok := fun k_ => (((True ∧ some k_ ≠ (.slice Ao18 t104.length co18 : Value).ownBlock) ∧ some k_ ≠ (.slice Ao30 t114.length co30 : Value).ownBlock) ∧ some k_ ≠ (.slice Ao37 t119.length co37 : Value).ownBlock)) (n := t108.length) (c := co23) ?_).2.2; exact (by (with_reducible repeat (first | apply Kd.R_alloc | apply Kd.R_drewN | apply Kd.R_drew)); exact (Kd.R_mono (Kd.R_far (p := ⟨gb123, 1, none⟩) (Kd.R_far (p := ⟨gb123, 0, none⟩) (Kd.R_types HO110.out BK123.out (by decide)) (fun _ hk => hk.2) (.int .i64 t118)) (fun _ hk => hk.2) (.slice Ao37 t119.length co37)) (fun _ h_ => h_.1)))); (case side4 => exact (Kd.R_reads' HO110.out).2.1); rintro e w55 ⟨rfl, hb⟩; refine ⟨_, rfl, ?_⟩; have n0_ := Aside0.mk (Kd.R_below (by (with_reducible repeat (first | apply Kd.R_alloc | apply Kd.R_drewN | apply Kd.R_drew)); exact (Kd.R_mono (Kd.R_far (p := ⟨gb123, 1, none⟩) (Kd.R_far (p := ⟨gb123, 0, none⟩) (Kd.R_types HO106.out BK123.out (by decide)) (fun _ hk => hk.2) (.int .i64 t118)) (fun _ hk => hk.2) (.slice Ao37 t119.length co37)) (fun _ h_ => h_.1))) hb); have n1_ := Aside0.mk (Kd.R_below (by (with_reducible repeat (first | apply Kd.R_alloc | apply Kd.R_drewN | apply Kd.R_drew)); exact (Kd.R_mono (Kd.R_far (p := ⟨gb123, 1, none⟩) (Kd.R_far (p := ⟨gb123, 0, none⟩) (Kd.R_types HO110.out BK123.out (by decide)) (fun _ hk => hk.2) (.int .i64 t118)) (fun _ hk => hk.2) (.slice Ao37 t119.length co37)) (fun _ h_ => h_.1))) hb); have n2_ := Aside0.mk (Kd.R_below (by (with_reducible repeat (first | apply Kd.R_alloc | apply Kd.R_drewN | apply Kd.R_drew)); exact (Kd.R_mono (Kd.R_far (p := ⟨gb123, 1, none⟩) (Kd.R_far (p := ⟨gb123, 0, none⟩) (Kd.R_types HO116.out BK123.out (by decide)) (fun _ hk => hk.2) (.int .i64 t118)) (fun _ hk => hk.2) (.slice Ao37 t119.length co37)) (fun _ h_ => h_.1))) hb); have n3_ := Aside0.mk (Kd.R_below (by (with_reducible repeat (first | apply Kd.R_alloc | apply Kd.R_drewN | apply Kd.R_drew)); exact (Kd.R_mono (Kd.R_far (p := ⟨gb123, 1, none⟩) (Kd.R_far (p := ⟨gb123, 0, none⟩) (Kd.R_types HO121.out BK123.out (by decide)) (fun _ hk => hk.2) (.int .i64 t118)) (fun _ hk => hk.2) (.slice Ao37 t119.length co37)) (fun _ h_ => h_.1))) hb); have n4_ := Aside0.mk (blk_below (g := gb101) (o := .cells #[.int .i64 a1_0, .slice A1_1 l1_1.length c1_1] 24 (0, 0)) (by (with_reducible repeat (first | refine blk_drewN ?_ _ | refine blk_drew ?_ | refine blk_alloc ?_ _)); refine blk_far ?_ NB101_123.out _; (with_reducible repeat (first | refine blk_drewN ?_ _ | refine blk_drew ?_ | refine blk_alloc ?_ _)); refine blk_far ?_ NB101_123.out _; (with_reducible repeat (first | refine blk_drewN ?_ _ | refine blk_drew ?_ | refine blk_alloc ?_ _)); exact BK101.out) hb); have n5_ := Aside0.mk (blk_below (g := gb112) (o := .cells #[.int .i64 t107, .slice Ao23 t108.length co23] 29 (0, 0)) (by (with_reducible repeat (first | refine blk_drewN ?_ _ | refine blk_drew ?_ | refine blk_alloc ?_ _)); refine blk_far ?_ NB112_123.out _; (with_reducible repeat (first | refine blk_drewN ?_ _ | refine blk_drew ?_ | refine blk_alloc ?_ _)); refine blk_far ?_ NB112_123.out _; (with_reducible repeat (first | refine blk_drewN ?_ _ | refine blk_drew ?_ | refine blk_alloc ?_ _)); exact BK112.out) hb); have n6_ := Aside0.mk (blk_below (g := gb117) (o := .cells #[.int .i64 t113, .slice Ao30 t114.length co30] 29 (0, 0)) (by (with_reducible repeat (first | refine blk_drewN ?_ _ | refine blk_drew ?_ | refine blk_alloc ?_ _)); refine blk_far ?_ NB117_123.out _; (with_reducible repeat (first | refine blk_drewN ?_ _ | refine blk_drew ?_ | refine blk_alloc ?_ _)); refine blk_far ?_ NB117_123.out _; (with_reducible repeat (first | refine blk_drewN ?_ _ | refine blk_drew ?_ | refine blk_alloc ?_ _)); exact BK117.out) hb); have n7_ := Aside0.mk (blk_below (g := gb123) (o := .cells #[.int .i64 t118, .slice Ao37 t119.length co37] 29 (0, 0)) (by (with_reducible repeat (first | refine blk_drewN ?_ _ | refine blk_drew ?_ | refine blk_alloc ?_ _)); refine blk_put (cs := #[.int .i64 t118, .slice none 0 0]) ?_ 1 _ rfl; (with_reducible repeat (first | refine blk_drewN ?_ _ | refine blk_drew ?_ | refine blk_alloc ?_ _)); refine blk_put (cs := #[.int .i64 0, .slice none 0 0]) ?_ 0 _ rfl; (with_reducible repeat (first | refine blk_drewN ?_ _ | refine blk_drew ?_ | refine blk_alloc ?_ _)); exact BK123.out) hb); have n8_ := Aside0.mk (below_step (by repeat (first | (with_reducible first | exact HB.out | apply below_alloc | apply pw_below_drewN | apply below_drew1 | refine below_set ?_ GE101.out | refine below_set ?_ GE112.out | refine below_set ?_ GE117.out | refine below_set ?_ GE123.out) | exact HB.out)) hb); clear HO106; clear HO110; clear HO116; clear HO121; clear BK101; clear BK112; clear BK117; clear BK123; clear HB; have HO106 := n0_; have HO110 := n1_; have HO116 := n2_; have HO121 := n3_; have BK101 := n4_; have BK112 := n5_; have BK117 := n6_; have BK123 := n7_; have HB := n8_; clear n0_ n1_ n2_ n3_ n4_ n5_ n6_ n7_ n8_; (try clear hb); (try clear hb2); (try clear hk); (try clear hi)))
        go_meet
        case rel => exact ⟨_, (true), (by first | rfl | (simp; done) | (simp [*]; done)), H', ⟨by first | omega | exact Nat.le_refl _⟩, ⟨by (with_reducible repeat (first | apply Kd.R_alloc | apply Kd.R_drewN | apply Kd.R_drew)); exact Kd.R_mono HO110.out (fun _ hk => ⟨hk.1.2, hk.2⟩)⟩, ⟨by (with_reducible repeat (first | apply Kd.R_alloc | apply Kd.R_drewN | apply Kd.R_drew)); exact Kd.R_mono HO116.out (fun _ hk => ⟨hk.1.2, hk.2⟩)⟩, ⟨by (with_reducible repeat (first | apply Kd.R_alloc | apply Kd.R_drewN | apply Kd.R_drew)); exact Kd.R_mono HO121.out (fun _ hk => ⟨hk.1.2, hk.2⟩)⟩, ⟨by (with_reducible repeat (first | refine blk_drewN ?_ _ | refine blk_drew ?_ | refine blk_alloc ?_ _)); exact BK101.out⟩, ⟨by (with_reducible repeat (first | refine blk_drewN ?_ _ | refine blk_drew ?_ | refine blk_alloc ?_ _)); exact BK112.out⟩, ⟨by (with_reducible repeat (first | refine blk_drewN ?_ _ | refine blk_drew ?_ | refine blk_alloc ?_ _)); exact BK117.out⟩, ⟨by (with_reducible repeat (first | refine blk_drewN ?_ _ | refine blk_drew ?_ | refine blk_alloc ?_ _)); exact BK123.out⟩, ⟨by repeat (first | (with_reducible first | exact HB.out | apply below_alloc | apply pw_below_drewN | apply below_drew1 | refine below_set ?_ GE101.out | refine below_set ?_ GE112.out | refine below_set ?_ GE117.out | refine below_set ?_ GE123.out) | exact HB.out)⟩⟩
    case rest =>
      clear HC12
      try clear c1
      try clear c2
      try clear p2
      try clear c3
      try clear c4
      try clear c4b0
      try clear c5
      try clear c10
      try clear c14
      try clear c16
      try clear c18
      try clear c21
      try clear c27
      try clear c28
      try clear c33
      try clear c34
      try clear c35
      try clear c39
      try clear c40
      try clear c41
      try clear c42
      try clear c44
      try clear c45
      try clear c48
      try clear c49
      try clear c50
      try clear c52
      try clear c53
      try clear hcz14_0
      try clear hcz14_1
      try clear hcz16_0
      try clear hcz16_1
      try clear hcz22_0
      try clear hcz22_1
      try clear hcz24_0
      try clear hcz24_1
      try clear hcz29_0
      try clear hcz29_1
      try clear hcz36_0
      try clear hcz36_1
      try clear hcz43_0
      try clear hcz43_1
      try clear hcz46_0
      try clear hcz46_1
      try clear hcz51_0
      try clear hcz51_1
      try clear hcz54_0
      try clear hcz54_1
      try clear hcz6_0
      try clear hcz6_1
      try clear hfz14_0
      try clear hfz14_1
      try clear hfz16_0
      try clear hfz16_1
      try clear hfz22_0
      try clear hfz22_1
      try clear hfz24_0
      try clear hfz24_1
      try clear hfz29_0
      try clear hfz29_1
      try clear hfz36_0
      try clear hfz36_1
      try clear hfz43_0
      try clear hfz43_1
      try clear hfz46_0
      try clear hfz46_1
      try clear hfz51_0
      try clear hfz51_1
      try clear hfz54_0
      try clear hfz54_1
      try clear hfz6_0
      try clear hfz6_1
      obtain ⟨kq, x44_11, rfl, HA, HJ11, HO_113001, HO_118001, HO_124001, BK101, BK112, BK117, BK123, HB⟩ := hcut
      cases kq with
      | zero => exact absurd HA.out (by simp [laws_FnExactNotDiagram.j0])
      | succ kj11 =>
        have H := HA.out
        clear HA
        simp only [laws_FnExactNotDiagram.j0] at H
        by_cases c56 : x44_11 = true
        · subst c56
          have H1 : (some false) = some r := by rw [if_pos rfl] at H; exact H
          clear H
          have H := H1
          clear H1
          obtain rfl := Option.some.inj H
          go_wp2
          go_ret
          exact ⟨by first | rfl | (simp [errW_none, errW_some] <;> rfl) | (simp [*, errW_none, errW_some] <;> rfl), by repeat (first | (with_reducible first | exact HB.out | apply below_alloc | apply pw_below_drewN | apply below_drew1 | refine below_set ?_ GE101.out | refine below_set ?_ GE112.out | refine below_set ?_ GE117.out | refine below_set ?_ GE123.out) | exact HB.out)⟩
        · replace c56 := Bool.eq_false_iff.mpr c56
          subst c56
          have H1 : ((laws_toDiagram.f kj11 a1_0 l1_1).bind fun bt125 => ((laws_eqDiagram.f kj11 t113 t114 bt125.1 bt125.2).bind fun t129 => (if t129 = true then ((laws_markDiagram.f kj11 t113 t114 1).bind fun bt130 => (if bt130.1 < 0 then (laws_FnExactNotDiagram.j1 kj11 a0 t111 true a1_0 l1_1 t107 t108 t118 t119) else ((laws_eqDiagram.f kj11 t118 t119 t107 t108).bind fun t132 => (if t132 = true then (laws_FnExactNotDiagram.j1 kj11 a0 t111 (t122 != t111) a1_0 l1_1 t107 t108 t118 t119) else (laws_FnExactNotDiagram.j1 kj11 a0 t111 true a1_0 l1_1 t107 t108 t118 t119))))) else (some false)))) = some r := by rw [if_neg (show ¬ (false = true) by decide)] at H; exact H
          clear H
          have H := H1
          clear H1
          replace H := Option.bind_eq_some_iff.mp H
          obtain ⟨⟨t125, t126⟩, A570, H⟩ := H
          replace H : ((laws_eqDiagram.f kj11 t113 t114 t125 t126).bind fun t129 => (if t129 = true then ((laws_markDiagram.f kj11 t113 t114 1).bind fun bt130 => (if bt130.1 < 0 then (laws_FnExactNotDiagram.j1 kj11 a0 t111 true a1_0 l1_1 t107 t108 t118 t119) else ((laws_eqDiagram.f kj11 t118 t119 t107 t108).bind fun t132 => (if t132 = true then (laws_FnExactNotDiagram.j1 kj11 a0 t111 (t122 != t111) a1_0 l1_1 t107 t108 t118 t119) else (laws_FnExactNotDiagram.j1 kj11 a0 t111 true a1_0 l1_1 t107 t108 t118 t119))))) else (some false))) = some r := H
          have A57 := Aside0.mk A570
          clear A570
          replace H := Option.bind_eq_some_iff.mp H
          obtain ⟨t129, A580, H⟩ := H
          replace H : (if t129 = true then ((laws_markDiagram.f kj11 t113 t114 1).bind fun bt130 => (if bt130.1 < 0 then (laws_FnExactNotDiagram.j1 kj11 a0 t111 true a1_0 l1_1 t107 t108 t118 t119) else ((laws_eqDiagram.f kj11 t118 t119 t107 t108).bind fun t132 => (if t132 = true then (laws_FnExactNotDiagram.j1 kj11 a0 t111 (t122 != t111) a1_0 l1_1 t107 t108 t118 t119) else (laws_FnExactNotDiagram.j1 kj11 a0 t111 true a1_0 l1_1 t107 t108 t118 t119))))) else (some false)) = some r := H
          have A58 := Aside0.mk A580
          clear A580
          by_cases c59 : t129 = true
          · subst c59
            have H1 : ((laws_markDiagram.f kj11 t113 t114 1).bind fun bt130 => (if bt130.1 < 0 then (laws_FnExactNotDiagram.j1 kj11 a0 t111 true a1_0 l1_1 t107 t108 t118 t119) else ((laws_eqDiagram.f kj11 t118 t119 t107 t108).bind fun t132 => (if t132 = true then (laws_FnExactNotDiagram.j1 kj11 a0 t111 (t122 != t111) a1_0 l1_1 t107 t108 t118 t119) else (laws_FnExactNotDiagram.j1 kj11 a0 t111 true a1_0 l1_1 t107 t108 t118 t119))))) = some r := by rw [if_pos rfl] at H; exact H
            clear H
            have H := H1
            clear H1
            replace H := Option.bind_eq_some_iff.mp H
            obtain ⟨⟨t130, t131⟩, A600, H⟩ := H
            replace H : (if t130 < 0 then (laws_FnExactNotDiagram.j1 kj11 a0 t111 true a1_0 l1_1 t107 t108 t118 t119) else ((laws_eqDiagram.f kj11 t118 t119 t107 t108).bind fun t132 => (if t132 = true then (laws_FnExactNotDiagram.j1 kj11 a0 t111 (t122 != t111) a1_0 l1_1 t107 t108 t118 t119) else (laws_FnExactNotDiagram.j1 kj11 a0 t111 true a1_0 l1_1 t107 t108 t118 t119)))) = some r := H
            have A60 := Aside0.mk A600
            clear A600
            have HC61 := Aside0.mk H
            clear H
            try go_wp2
            have n0_ := Aside0.mk (Kd.R_drew HO_113001.out)
            have n1_ := Aside0.mk (Kd.R_drew HO_118001.out)
            have n2_ := Aside0.mk (Kd.R_drew HO_124001.out)
            have n3_ := Aside0.mk (blk_drew BK101.out)
            have n4_ := Aside0.mk (blk_drew BK112.out)
            have n5_ := Aside0.mk (blk_drew BK117.out)
            have n6_ := Aside0.mk (blk_drew BK123.out)
            have n7_ := Aside0.mk (below_drew1 HB.out)
            clear HO_113001
            clear HO_118001
            clear HO_124001
            clear BK101
            clear BK112
            clear BK117
            clear BK123
            clear HB
            have HO_113001 := n0_
            have HO_118001 := n1_
            have HO_124001 := n2_
            have BK101 := n3_
            have BK112 := n4_
            have BK117 := n5_
            have BK123 := n6_
            have HB := n7_
            clear n0_ n1_ n2_ n3_ n4_ n5_ n6_ n7_
            refine start_ (n := 5) (S := fun w' => w'.cell? ⟨gb117, 0, none⟩ = some (.int .i64 t113) ∧ w'.cell? ⟨gb117, 1, none⟩ = some (.slice Ao30 t114.length co30) ∧ w'.cell? ⟨gb101, 0, none⟩ = some (.int .i64 a1_0) ∧ w'.cell? ⟨gb101, 1, none⟩ = some (.slice A1_1 l1_1.length c1_1)) (ds := []) #[false, false, false, false, false] (by kernel_rfl) rfl rfl ⟨(blk_cell BK117.out 0).trans rfl, (blk_cell BK117.out 1).trans rfl, (blk_cell BK101.out 0).trans rfl, (blk_cell BK101.out 1).trans rfl⟩ (fun hHeld => ?_)
            generalize wc.drew = w62 at HO_113001 HO_118001 HO_124001 BK101 BK112 BK117 BK123 HB hHeld ⊢
            refine take_ (i := 0) (N := some 45) (v := ?_) (a' := ?_) #[true, false, false, false, false] rfl rfl (by kernel_rfl) (fun _ _ _ h => h) (Or.inl ⟨by rfl, ?_⟩) hHeld ?_ ?_
            rotate_left
            · rintro w' ⟨s0, s1, s2, s3⟩
              go_simp
              with_reducible rfl
            rotate_left
            · simp only [Act.put, List.setIfInBounds_toArray, List.set_cons_zero, List.set_cons_succ, i64_w, i32_w]
              rfl
            refine take_ (i := 1) (N := some 46) (v := ?_) (a' := ?_) #[true, true, false, false, false] rfl rfl (by kernel_rfl) (fun _ _ _ h => h) (Or.inl ⟨by rfl, ?_⟩) hHeld ?_ ?_
            rotate_left
            · rintro w' ⟨s0, s1, s2, s3⟩
              go_simp
              with_reducible rfl
            rotate_left
            · simp only [Act.put, List.setIfInBounds_toArray, List.set_cons_zero, List.set_cons_succ, i64_w, i32_w]
              rfl
            refine one_ (i := 2) (N := some 47) #[true, true, true, false, false] rfl rfl (by kernel_rfl) (by decide) (fun K hK => ?_)
            refine goes_ Try.func16 (by kernel_rfl) rfl #[.agg #[.int .i64 a1_0, .slice A1_1 l1_1.length c1_1]] (by rfl) rfl rfl (by (try simp only [List.map_toArray, List.map_cons, List.map_nil]); first | done | rfl | (simp only [List.length_drop, List.length_take]; rfl)) ?_
            with_reducible refine (laws_toDiagram.calls kj11 a1_0 _ _ l1_1 t125 t126 _ ?side1 ?side2 A57.out).mono ?_
            (case side1 => repeat (first | exact (Kd.C_below HR1_1.out HB.out) | (with_reducible refine Kd.C_alloc ?_ _) | (with_reducible refine Kd.C_drewN ?_ _) | (with_reducible refine Kd.C_drew ?_)))
            (case side2 => exact HC1_1.out)
            rintro e w63 ⟨v127, rfl, ho0, hb⟩
            refine ⟨_, rfl, ?_⟩
            have n0_ := Aside0.mk (Kd.R_elder' (by (with_reducible repeat (first | apply Kd.R_alloc | apply Kd.R_drewN | apply Kd.R_drew)); exact HO_113001.out) (Kd.R_base ho0) hb)
            have n1_ := Aside0.mk (Kd.R_elder' (by (with_reducible repeat (first | apply Kd.R_alloc | apply Kd.R_drewN | apply Kd.R_drew)); exact HO_118001.out) (Kd.R_base ho0) hb)
            have n2_ := Aside0.mk (Kd.R_elder' (by (with_reducible repeat (first | apply Kd.R_alloc | apply Kd.R_drewN | apply Kd.R_drew)); exact HO_124001.out) (Kd.R_base ho0) hb)
            have n3_ := Aside0.mk (Kd.R_lower (Kd.R_new' (Kd.R_new' (Kd.R_new' ho0 (Kd.R_lt (by (with_reducible repeat (first | apply Kd.R_alloc | apply Kd.R_drewN | apply Kd.R_drew)); exact HO_113001.out))) (Kd.R_lt (by (with_reducible repeat (first | apply Kd.R_alloc | apply Kd.R_drewN | apply Kd.R_drew)); exact HO_118001.out))) (Kd.R_lt (by (with_reducible repeat (first | apply Kd.R_alloc | apply Kd.R_drewN | apply Kd.R_drew)); exact HO_124001.out))) (below_size (by repeat (first | (with_reducible first | exact HB.out | apply below_alloc | apply pw_below_drewN | apply below_drew1 | refine below_set ?_ GE101.out | refine below_set ?_ GE112.out | refine below_set ?_ GE117.out | refine below_set ?_ GE123.out) | exact HB.out))))
            have n4_ := Aside0.mk (blk_below (g := gb101) (o := .cells #[.int .i64 a1_0, .slice A1_1 l1_1.length c1_1] 24 (0, 0)) (by (with_reducible repeat (first | refine blk_drewN ?_ _ | refine blk_drew ?_ | refine blk_alloc ?_ _)); exact BK101.out) hb)
            have n5_ := Aside0.mk (blk_below (g := gb112) (o := .cells #[.int .i64 t107, .slice Ao23 t108.length co23] 29 (0, 0)) (by (with_reducible repeat (first | refine blk_drewN ?_ _ | refine blk_drew ?_ | refine blk_alloc ?_ _)); exact BK112.out) hb)
            have n6_ := Aside0.mk (blk_below (g := gb117) (o := .cells #[.int .i64 t113, .slice Ao30 t114.length co30] 29 (0, 0)) (by (with_reducible repeat (first | refine blk_drewN ?_ _ | refine blk_drew ?_ | refine blk_alloc ?_ _)); exact BK117.out) hb)
            have n7_ := Aside0.mk (blk_below (g := gb123) (o := .cells #[.int .i64 t118, .slice Ao37 t119.length co37] 29 (0, 0)) (by (with_reducible repeat (first | refine blk_drewN ?_ _ | refine blk_drew ?_ | refine blk_alloc ?_ _)); exact BK123.out) hb)
            have n8_ := Aside0.mk (below_step (by repeat (first | (with_reducible first | exact HB.out | apply below_alloc | apply pw_below_drewN | apply below_drew1 | refine below_set ?_ GE101.out | refine below_set ?_ GE112.out | refine below_set ?_ GE117.out | refine below_set ?_ GE123.out) | exact HB.out)) hb)
            clear HO_113001
            clear HO_118001
            clear HO_124001
            clear BK101
            clear BK112
            clear BK117
            clear BK123
            clear HB
            have HO_113001 := n0_
            have HO_118001 := n1_
            have HO_124001 := n2_
            have HO128 := n3_
            have BK101 := n4_
            have BK112 := n5_
            have BK117 := n6_
            have BK123 := n7_
            have HB := n8_
            clear n0_ n1_ n2_ n3_ n4_ n5_ n6_ n7_ n8_
            (try clear hb)
            (try clear hb2)
            (try clear hk)
            (try clear hi)
            (try clear ho0)
            obtain ⟨Ao64, co64, eo64⟩ := Kd.R_slice HO128.out
            (first | subst eo64 | (injection eo64 with f1_ f2_ f3_; have f4_ := f1_.symm; have f5_ := f3_.symm; clear f1_ f2_ f3_; subst f4_; subst f5_))
            refine hK.out _ _ ⟨(blk_cell BK117.out 0).trans rfl, (blk_cell BK117.out 1).trans rfl, (blk_cell BK101.out 0).trans rfl, (blk_cell BK101.out 1).trans rfl⟩ (fun hHeld => ?_)
            clear hK K
            refine norm_ (a' := ?_) ?_ ?_
            rotate_left
            · show Act.put _ (some 47) _ = _
              simp only [Act.put, List.setIfInBounds_toArray, List.set_cons_zero, List.set_cons_succ, i64_w, i32_w]
              rfl
            refine one_ (i := 3) (N := some 48) #[true, true, true, true, false] rfl rfl (by kernel_rfl) (by decide) (fun K hK => ?_)
            refine goes_ Try.func18 (by kernel_rfl) rfl #[.agg #[.int .i64 t113, .slice Ao30 t114.length co30], .agg #[.int .i64 t125, .slice Ao64 t126.length co64]] (by rfl) rfl rfl (by (try simp only [List.map_toArray, List.map_cons, List.map_nil]); first | done | rfl | (simp only [List.length_drop, List.length_take]; rfl)) ?_
            with_reducible refine (laws_eqDiagram.calls kj11 t113 _ _ t114 t125 _ _ t126 true _ ?side1 ?side2 ?side3 ?side4 A58.out).mono ?_
            (case side1 => repeat (first | exact (Kd.R_reads' HO_118001.out).2.2 | (with_reducible refine Kd.C_alloc ?_ _) | (with_reducible refine Kd.C_drewN ?_ _) | (with_reducible refine Kd.C_drew ?_)))
            (case side2 => exact (Kd.R_reads' HO_118001.out).2.1)
            (case side3 => repeat (first | exact (Kd.R_reads' HO128.out).2.2 | (with_reducible refine Kd.C_alloc ?_ _) | (with_reducible refine Kd.C_drewN ?_ _) | (with_reducible refine Kd.C_drew ?_)))
            (case side4 => exact (Kd.R_reads' HO128.out).2.1)
            rintro e w65 ⟨rfl, hb⟩
            refine ⟨_, rfl, ?_⟩
            have n0_ := Aside0.mk (Kd.R_below (by (with_reducible repeat (first | apply Kd.R_alloc | apply Kd.R_drewN | apply Kd.R_drew)); exact HO_113001.out) hb)
            have n1_ := Aside0.mk (Kd.R_below (by (with_reducible repeat (first | apply Kd.R_alloc | apply Kd.R_drewN | apply Kd.R_drew)); exact HO_118001.out) hb)
            have n2_ := Aside0.mk (Kd.R_below (by (with_reducible repeat (first | apply Kd.R_alloc | apply Kd.R_drewN | apply Kd.R_drew)); exact HO_124001.out) hb)
            have n3_ := Aside0.mk (Kd.R_below (by (with_reducible repeat (first | apply Kd.R_alloc | apply Kd.R_drewN | apply Kd.R_drew)); exact HO128.out) hb)
            have n4_ := Aside0.mk (blk_below (g := gb101) (o := .cells #[.int .i64 a1_0, .slice A1_1 l1_1.length c1_1] 24 (0, 0)) (by (with_reducible repeat (first | refine blk_drewN ?_ _ | refine blk_drew ?_ | refine blk_alloc ?_ _)); exact BK101.out) hb)
            have n5_ := Aside0.mk (blk_below (g := gb112) (o := .cells #[.int .i64 t107, .slice Ao23 t108.length co23] 29 (0, 0)) (by (with_reducible repeat (first | refine blk_drewN ?_ _ | refine blk_drew ?_ | refine blk_alloc ?_ _)); exact BK112.out) hb)
            have n6_ := Aside0.mk (blk_below (g := gb117) (o := .cells #[.int .i64 t113, .slice Ao30 t114.length co30] 29 (0, 0)) (by (with_reducible repeat (first | refine blk_drewN ?_ _ | refine blk_drew ?_ | refine blk_alloc ?_ _)); exact BK117.out) hb)
            have n7_ := Aside0.mk (blk_below (g := gb123) (o := .cells #[.int .i64 t118, .slice Ao37 t119.length co37] 29 (0, 0)) (by (with_reducible repeat (first | refine blk_drewN ?_ _ | refine blk_drew ?_ | refine blk_alloc ?_ _)); exact BK123.out) hb)
            have n8_ := Aside0.mk (below_step (by repeat (first | (with_reducible first | exact HB.out | apply below_alloc | apply pw_below_drewN | apply below_drew1 | refine below_set ?_ GE101.out | refine below_set ?_ GE112.out | refine below_set ?_ GE117.out | refine below_set ?_ GE123.out) | exact HB.out)) hb)
            clear HO_113001
            clear HO_118001
            clear HO_124001
            clear HO128
            clear BK101
            clear BK112
            clear BK117
            clear BK123
            clear HB
            have HO_113001 := n0_
            have HO_118001 := n1_
            have HO_124001 := n2_
            have HO128 := n3_
            have BK101 := n4_
            have BK112 := n5_
            have BK117 := n6_
            have BK123 := n7_
            have HB := n8_
            clear n0_ n1_ n2_ n3_ n4_ n5_ n6_ n7_ n8_
            (try clear hb)
            (try clear hb2)
            (try clear hk)
            (try clear hi)
            refine hK.out _ _ ⟨(blk_cell BK117.out 0).trans rfl, (blk_cell BK117.out 1).trans rfl, (blk_cell BK101.out 0).trans rfl, (blk_cell BK101.out 1).trans rfl⟩ (fun hHeld => ?_)
            clear hK K
            refine norm_ (a' := ?_) ?_ ?_
            rotate_left
            · show Act.put _ (some 48) _ = _
              simp only [Act.put, List.setIfInBounds_toArray, List.set_cons_zero, List.set_cons_succ, i64_w, i32_w]
              rfl
            refine pure_ (i := 4) (N := some 49) (v := ?_) (a' := ?_) #[true, true, true, true, true] rfl rfl (by kernel_rfl) (fun _ _ _ h => h) (Or.inl ⟨by rfl, ?_⟩) ?_ ?_
            rotate_left
            · intro w'
              go_simp
              with_reducible rfl
            rotate_left
            · simp only [Act.put, List.setIfInBounds_toArray, List.set_cons_zero, List.set_cons_succ, i64_w, i32_w]
              rfl
            refine done_ (by kernel_rfl) ?_
            have hnb66 := NB117_101.out
            have hnc66 := NB101_117.out
            have hnb67 := NB117_112.out
            have hnc67 := NB112_117.out
            have hnb68 := NB117_123.out
            have hnc68 := NB123_117.out
            have hcz69_0 : w65.cell? ⟨gb117, 0, none⟩ = some (.int .i64 t113) := (blk_cell BK117.out 0).trans rfl
            have hcz69_1 : w65.cell? ⟨gb117, 1, none⟩ = some (.slice Ao30 t114.length co30) := (blk_cell BK117.out 1).trans rfl
            have hfz69_0 := blk_frozen BK117.out 0
            have hfz69_1 := blk_frozen BK117.out 1
            go_upto_region 14 with (first | ((with_reducible refine gate_callee (f := 38) rfl ?_); refine goesL_ (some 52) rfl rfl Try.func38 (by kernel_rfl) rfl #[.agg #[.int .i64 t113, .slice Ao30 t114.length co30], .int .i64 1] rfl (by (try simp only [List.map_toArray, List.map_cons, List.map_nil]); first | done | rfl | (simp only [List.length_drop, List.length_take]; rfl)) ?_; (with_reducible refine (laws_markDiagram.calls kj11 t113 (fun k_ => some k_ = (.slice Ao30 t114.length co30 : Value).ownBlock) (.slice Ao30 t114.length co30) t114 1 t130 t131 w _ ?side1 ?side2 A60.out).mono ?_); (case side1 => repeat (first | (with_reducible first | exact HB.out | apply below_alloc | apply pw_below_drewN | apply below_drew1 | refine below_set ?_ GE101.out | refine below_set ?_ GE112.out | refine below_set ?_ GE117.out | refine below_set ?_ GE123.out) | exact HB.out)); (case side2 => exact Kd.R_tight rfl HO_118001.out); rintro e w70 ⟨rfl, hy0, hb, hkp⟩; refine ⟨_, rfl, ?_⟩; have n0_ := Aside0.mk (Kd.R_mono (ok' := fun k_ => some k_ ≠ (.slice Ao30 t114.length co30 : Value).ownBlock ∧ some k_ ≠ (.slice Ao37 t119.length co37 : Value).ownBlock ∧ some k_ ≠ (.slice Ao64 t126.length co64 : Value).ownBlock) (Kd.R_keptB (HO_113001.out) hkp (fun k_ hk_ hs_ => (hk_.1.1) hs_)) (fun k_ hk_ => ⟨hk_.1.1.1, hk_.1.1.2, hk_.1.2⟩)); have n1_ := Aside0.mk (Kd.R_reok rfl hy0 (fun k_ e_ => HO_118001.out.1 k_ e_)); have n2_ := Aside0.mk (Kd.R_mono (ok' := fun k_ => some k_ ≠ (.slice Ao23 t108.length co23 : Value).ownBlock ∧ some k_ ≠ (.slice Ao30 t114.length co30 : Value).ownBlock ∧ some k_ ≠ (.slice Ao64 t126.length co64 : Value).ownBlock) (Kd.R_keptB (HO_124001.out) hkp (fun k_ hk_ hs_ => (hk_.1.2) hs_)) (fun k_ hk_ => ⟨hk_.1.1.1, hk_.1.1.2, hk_.1.2⟩)); have n3_ := Aside0.mk (blk_kept (by (with_reducible repeat (first | refine blk_drewN ?_ _ | refine blk_drew ?_ | refine blk_alloc ?_ _)); exact BK101.out) hkp (fun hs_ => (fun e_ => (Kd.R_ne HO_118001.out BK101.out (by decide)) e_) hs_)); have n4_ := Aside0.mk (blk_kept (by (with_reducible repeat (first | refine blk_drewN ?_ _ | refine blk_drew ?_ | refine blk_alloc ?_ _)); exact BK112.out) hkp (fun hs_ => (fun e_ => (Kd.R_ne HO_118001.out BK112.out (by decide)) e_) hs_)); have n5_ := Aside0.mk (blk_kept (by (with_reducible repeat (first | refine blk_drewN ?_ _ | refine blk_drew ?_ | refine blk_alloc ?_ _)); exact BK117.out) hkp (fun hs_ => (fun e_ => (Kd.R_ne HO_118001.out BK117.out (by decide)) e_) hs_)); have n6_ := Aside0.mk (blk_kept (by (with_reducible repeat (first | refine blk_drewN ?_ _ | refine blk_drew ?_ | refine blk_alloc ?_ _)); exact BK123.out) hkp (fun hs_ => (fun e_ => (Kd.R_ne HO_118001.out BK123.out (by decide)) e_) hs_)); have n7_ := Aside0.mk (Kd.R_mono (ok' := fun k_ => some k_ ≠ (.slice Ao23 t108.length co23 : Value).ownBlock ∧ some k_ ≠ (.slice Ao30 t114.length co30 : Value).ownBlock ∧ some k_ ≠ (.slice Ao37 t119.length co37 : Value).ownBlock) (Kd.R_keptB (HO128.out) hkp (fun k_ hk_ hs_ => (hk_.1.2) hs_)) (fun k_ hk_ => ⟨hk_.1.1.1.2, hk_.1.1.2, hk_.1.2⟩)); have n8_ := Aside0.mk (hb); clear HO_113001; clear HO_118001; clear HO_124001; clear BK101; clear BK112; clear BK117; clear BK123; clear HO128; clear HB; have HO_113001 := n0_; have HO_118001 := n1_; have HO_124001 := n2_; have BK101 := n3_; have BK112 := n4_; have BK117 := n5_; have BK123 := n6_; have HO128 := n7_; have HB := n8_; clear n0_ n1_ n2_ n3_ n4_ n5_ n6_ n7_ n8_; (try clear hb); (try clear hkp); (try clear hy0)))
            (try simp only [Act.put, List.setIfInBounds_toArray, List.set_cons_zero, List.set_cons_succ])
            go_cut [65] (fun v65 wc => ∃ (kq : Nat) (x65_60 : Bool), v65 = .bool x65_60 ∧ Aside0 (laws_FnExactNotDiagram.j1 kq a0 t111 x65_60 a1_0 l1_1 t107 t108 t118 t119 = some r) ∧ Aside0 (kq ≤ kj11) ∧ Aside0 (Kd.R k97 97 wc w.heap.size (fun k_ => some k_ ≠ ((.slice Ao30 t114.length co30) : Value).ownBlock ∧ some k_ ≠ ((.slice Ao37 t119.length co37) : Value).ownBlock) (.slice Ao23 t108.length co23) t108) ∧ Aside0 (Kd.R k97 97 wc w.heap.size (fun k_ => some k_ ≠ ((.slice Ao23 t108.length co23) : Value).ownBlock ∧ some k_ ≠ ((.slice Ao37 t119.length co37) : Value).ownBlock) (.slice Ao30 t114.length co30) t131) ∧ Aside0 (Kd.R k97 97 wc w.heap.size (fun k_ => some k_ ≠ ((.slice Ao23 t108.length co23) : Value).ownBlock ∧ some k_ ≠ ((.slice Ao30 t114.length co30) : Value).ownBlock) (.slice Ao37 t119.length co37) t119) ∧ Aside0 (wc.heap[gb101]? = some (.cells #[.int .i64 a1_0, (.slice A1_1 l1_1.length c1_1)] 24 (0, 0))) ∧ Aside0 (wc.heap[gb112]? = some (.cells #[.int .i64 t107, (.slice Ao23 t108.length co23)] 29 (0, 0))) ∧ Aside0 (wc.heap[gb117]? = some (.cells #[.int .i64 t113, (.slice Ao30 t114.length co30)] 29 (0, 0))) ∧ Aside0 (wc.heap[gb123]? = some (.cells #[.int .i64 t118, (.slice Ao37 t119.length co37)] 29 (0, 0))) ∧ Aside0 (Below w.heap.size w wc))
            case first =>
              have H := HC61.out
              clear HC61
              by_cases c71 : t130 < 0
              · rw [if_pos c71] at H
                have c71b0 : decide (t130 < 0) = true := decide_eq_true c71
                clear c71
                (first | rw [c71b0] | (simp only [i64_w, i32_w]; rw [c71b0]) | skip)
                have H' := Aside0.mk H
                clear H
                go_wp2
                go_meet
                case rel => exact ⟨_, (true), (by first | rfl | (simp; done) | (simp [*]; done)), H', ⟨by have := HJ11.out; first | omega | exact Nat.le_refl _⟩, ⟨by (with_reducible repeat (first | apply Kd.R_alloc | apply Kd.R_drewN | apply Kd.R_drew)); exact Kd.R_mono HO_113001.out (fun _ hk => ⟨hk.1, hk.2.1⟩)⟩, ⟨by (with_reducible repeat (first | apply Kd.R_alloc | apply Kd.R_drewN | apply Kd.R_drew)); exact Kd.R_mono HO_118001.out (fun _ hk => ⟨hk.1.1, hk.1.2⟩)⟩, ⟨by (with_reducible repeat (first | apply Kd.R_alloc | apply Kd.R_drewN | apply Kd.R_drew)); exact Kd.R_mono HO_124001.out (fun _ hk => ⟨hk.1, hk.2.1⟩)⟩, ⟨by (with_reducible repeat (first | refine blk_drewN ?_ _ | refine blk_drew ?_ | refine blk_alloc ?_ _)); exact BK101.out⟩, ⟨by (with_reducible repeat (first | refine blk_drewN ?_ _ | refine blk_drew ?_ | refine blk_alloc ?_ _)); exact BK112.out⟩, ⟨by (with_reducible repeat (first | refine blk_drewN ?_ _ | refine blk_drew ?_ | refine blk_alloc ?_ _)); exact BK117.out⟩, ⟨by (with_reducible repeat (first | refine blk_drewN ?_ _ | refine blk_drew ?_ | refine blk_alloc ?_ _)); exact BK123.out⟩, ⟨by repeat (first | (with_reducible first | exact HB.out | apply below_alloc | apply pw_below_drewN | apply below_drew1 | refine below_set ?_ GE101.out | refine below_set ?_ GE112.out | refine below_set ?_ GE117.out | refine below_set ?_ GE123.out) | exact HB.out)⟩⟩
              · rw [if_neg c71] at H
                have c71b0 : decide (t130 < 0) = false := decide_eq_false c71
                clear c71
                (first | rw [c71b0] | (simp only [i64_w, i32_w]; rw [c71b0]) | skip)
                replace H := Option.bind_eq_some_iff.mp H
                obtain ⟨t132, A720, H⟩ := H
                replace H : (if t132 = true then (laws_FnExactNotDiagram.j1 kj11 a0 t111 (t122 != t111) a1_0 l1_1 t107 t108 t118 t119) else (laws_FnExactNotDiagram.j1 kj11 a0 t111 true a1_0 l1_1 t107 t108 t118 t119)) = some r := H
                have A72 := Aside0.mk A720
                clear A720
                by_cases c73 : t132 = true
                · subst c73
                  have H1 : (laws_FnExactNotDiagram.j1 kj11 a0 t111 (t122 != t111) a1_0 l1_1 t107 t108 t118 t119) = some r := by rw [if_pos rfl] at H; exact H
                  clear H
                  have H := H1
                  clear H1
                  have H' := Aside0.mk H
                  clear H
                  have hnb74 := NB123_101.out
                  have hnc74 := NB101_123.out
                  have hnb75 := NB123_112.out
                  have hnc75 := NB112_123.out
                  have hnb76 := NB123_117.out
                  have hnc76 := NB117_123.out
                  have hcz77_0 : w70.cell? ⟨gb123, 0, none⟩ = some (.int .i64 t118) := (blk_cell BK123.out 0).trans rfl
                  have hcz77_1 : w70.cell? ⟨gb123, 1, none⟩ = some (.slice Ao37 t119.length co37) := (blk_cell BK123.out 1).trans rfl
                  have hfz77_0 := blk_frozen BK123.out 0
                  have hfz77_1 := blk_frozen BK123.out 1
                  have hnb78 := NB112_101.out
                  have hnc78 := NB101_112.out
                  have hnb79 := NB112_117.out
                  have hnc79 := NB117_112.out
                  have hcz80_0 : w70.cell? ⟨gb112, 0, none⟩ = some (.int .i64 t107) := (blk_cell BK112.out 0).trans rfl
                  have hcz80_1 : w70.cell? ⟨gb112, 1, none⟩ = some (.slice Ao23 t108.length co23) := (blk_cell BK112.out 1).trans rfl
                  have hfz80_0 := blk_frozen BK112.out 0
                  have hfz80_1 := blk_frozen BK112.out 1
                  go_wp2_with (first | (go_at_call 18; (with_reducible refine (laws_eqDiagram.calls kj11 t118 _ _ t119 t107 _ _ t108 true _ ?side1 ?side2 ?side3 ?side4 A72.out).mono ?_); (case side1 => repeat (first | exact (Kd.R_reads' HO_124001.out).2.2 | (with_reducible refine Kd.C_alloc ?_ _) | (with_reducible refine Kd.C_drewN ?_ _) | (with_reducible refine Kd.C_drew ?_))); (case side2 => exact (Kd.R_reads' HO_124001.out).2.1); (case side3 => repeat (first | exact (Kd.R_reads' HO_113001.out).2.2 | (with_reducible refine Kd.C_alloc ?_ _) | (with_reducible refine Kd.C_drewN ?_ _) | (with_reducible refine Kd.C_drew ?_))); (case side4 => exact (Kd.R_reads' HO_113001.out).2.1); rintro e w81 ⟨rfl, hb⟩; have n0_ := Aside0.mk (Kd.R_below (by (with_reducible repeat (first | apply Kd.R_alloc | apply Kd.R_drewN | apply Kd.R_drew)); exact HO_113001.out) hb); have n1_ := Aside0.mk (Kd.R_below (by (with_reducible repeat (first | apply Kd.R_alloc | apply Kd.R_drewN | apply Kd.R_drew)); exact HO_118001.out) hb); have n2_ := Aside0.mk (Kd.R_below (by (with_reducible repeat (first | apply Kd.R_alloc | apply Kd.R_drewN | apply Kd.R_drew)); exact HO_124001.out) hb); have n3_ := Aside0.mk (Kd.R_below (by (with_reducible repeat (first | apply Kd.R_alloc | apply Kd.R_drewN | apply Kd.R_drew)); exact HO128.out) hb); have n4_ := Aside0.mk (blk_below (g := gb101) (o := .cells #[.int .i64 a1_0, .slice A1_1 l1_1.length c1_1] 24 (0, 0)) (by (with_reducible repeat (first | refine blk_drewN ?_ _ | refine blk_drew ?_ | refine blk_alloc ?_ _)); exact BK101.out) hb); have n5_ := Aside0.mk (blk_below (g := gb112) (o := .cells #[.int .i64 t107, .slice Ao23 t108.length co23] 29 (0, 0)) (by (with_reducible repeat (first | refine blk_drewN ?_ _ | refine blk_drew ?_ | refine blk_alloc ?_ _)); exact BK112.out) hb); have n6_ := Aside0.mk (blk_below (g := gb117) (o := .cells #[.int .i64 t113, .slice Ao30 t114.length co30] 29 (0, 0)) (by (with_reducible repeat (first | refine blk_drewN ?_ _ | refine blk_drew ?_ | refine blk_alloc ?_ _)); exact BK117.out) hb); have n7_ := Aside0.mk (blk_below (g := gb123) (o := .cells #[.int .i64 t118, .slice Ao37 t119.length co37] 29 (0, 0)) (by (with_reducible repeat (first | refine blk_drewN ?_ _ | refine blk_drew ?_ | refine blk_alloc ?_ _)); exact BK123.out) hb); have n8_ := Aside0.mk (below_step (by repeat (first | (with_reducible first | exact HB.out | apply below_alloc | apply pw_below_drewN | apply below_drew1 | refine below_set ?_ GE101.out | refine below_set ?_ GE112.out | refine below_set ?_ GE117.out | refine below_set ?_ GE123.out) | exact HB.out)) hb); clear HO_113001; clear HO_118001; clear HO_124001; clear HO128; clear BK101; clear BK112; clear BK117; clear BK123; clear HB; have HO_113001 := n0_; have HO_118001 := n1_; have HO_124001 := n2_; have HO128 := n3_; have BK101 := n4_; have BK112 := n5_; have BK117 := n6_; have BK123 := n7_; have HB := n8_; clear n0_ n1_ n2_ n3_ n4_ n5_ n6_ n7_ n8_; (try clear hb); (try clear hb2); (try clear hk); (try clear hi)))
                  go_meet
                  case rel => exact ⟨_, ((t122 != t111)), (by first | rfl | (simp; done) | (simp [*]; done)), H', ⟨by have := HJ11.out; first | omega | exact Nat.le_refl _⟩, ⟨by (with_reducible repeat (first | apply Kd.R_alloc | apply Kd.R_drewN | apply Kd.R_drew)); exact Kd.R_mono HO_113001.out (fun _ hk => ⟨hk.1, hk.2.1⟩)⟩, ⟨by (with_reducible repeat (first | apply Kd.R_alloc | apply Kd.R_drewN | apply Kd.R_drew)); exact Kd.R_mono HO_118001.out (fun _ hk => ⟨hk.1.1, hk.1.2⟩)⟩, ⟨by (with_reducible repeat (first | apply Kd.R_alloc | apply Kd.R_drewN | apply Kd.R_drew)); exact Kd.R_mono HO_124001.out (fun _ hk => ⟨hk.1, hk.2.1⟩)⟩, ⟨by (with_reducible repeat (first | refine blk_drewN ?_ _ | refine blk_drew ?_ | refine blk_alloc ?_ _)); exact BK101.out⟩, ⟨by (with_reducible repeat (first | refine blk_drewN ?_ _ | refine blk_drew ?_ | refine blk_alloc ?_ _)); exact BK112.out⟩, ⟨by (with_reducible repeat (first | refine blk_drewN ?_ _ | refine blk_drew ?_ | refine blk_alloc ?_ _)); exact BK117.out⟩, ⟨by (with_reducible repeat (first | refine blk_drewN ?_ _ | refine blk_drew ?_ | refine blk_alloc ?_ _)); exact BK123.out⟩, ⟨by repeat (first | (with_reducible first | exact HB.out | apply below_alloc | apply pw_below_drewN | apply below_drew1 | refine below_set ?_ GE101.out | refine below_set ?_ GE112.out | refine below_set ?_ GE117.out | refine below_set ?_ GE123.out) | exact HB.out)⟩⟩
                · replace c73 := Bool.eq_false_iff.mpr c73
                  subst c73
                  have H1 : (laws_FnExactNotDiagram.j1 kj11 a0 t111 true a1_0 l1_1 t107 t108 t118 t119) = some r := by rw [if_neg (show ¬ (false = true) by decide)] at H; exact H
                  clear H
                  have H := H1
                  clear H1
                  have H' := Aside0.mk H
                  clear H
                  have hnb82 := NB123_101.out
                  have hnc82 := NB101_123.out
                  have hnb83 := NB123_112.out
                  have hnc83 := NB112_123.out
                  have hnb84 := NB123_117.out
                  have hnc84 := NB117_123.out
                  have hcz85_0 : w70.cell? ⟨gb123, 0, none⟩ = some (.int .i64 t118) := (blk_cell BK123.out 0).trans rfl
                  have hcz85_1 : w70.cell? ⟨gb123, 1, none⟩ = some (.slice Ao37 t119.length co37) := (blk_cell BK123.out 1).trans rfl
                  have hfz85_0 := blk_frozen BK123.out 0
                  have hfz85_1 := blk_frozen BK123.out 1
                  have hnb86 := NB112_101.out
                  have hnc86 := NB101_112.out
                  have hnb87 := NB112_117.out
                  have hnc87 := NB117_112.out
                  have hcz88_0 : w70.cell? ⟨gb112, 0, none⟩ = some (.int .i64 t107) := (blk_cell BK112.out 0).trans rfl
                  have hcz88_1 : w70.cell? ⟨gb112, 1, none⟩ = some (.slice Ao23 t108.length co23) := (blk_cell BK112.out 1).trans rfl
                  have hfz88_0 := blk_frozen BK112.out 0
                  have hfz88_1 := blk_frozen BK112.out 1
                  go_wp2_with (first | (go_at_call 18; (with_reducible refine (laws_eqDiagram.calls kj11 t118 _ _ t119 t107 _ _ t108 false _ ?side1 ?side2 ?side3 ?side4 A72.out).mono ?_); (case side1 => repeat (first | exact (Kd.R_reads' HO_124001.out).2.2 | (with_reducible refine Kd.C_alloc ?_ _) | (with_reducible refine Kd.C_drewN ?_ _) | (with_reducible refine Kd.C_drew ?_))); (case side2 => exact (Kd.R_reads' HO_124001.out).2.1); (case side3 => repeat (first | exact (Kd.R_reads' HO_113001.out).2.2 | (with_reducible refine Kd.C_alloc ?_ _) | (with_reducible refine Kd.C_drewN ?_ _) | (with_reducible refine Kd.C_drew ?_))); (case side4 => exact (Kd.R_reads' HO_113001.out).2.1); rintro e w89 ⟨rfl, hb⟩; have n0_ := Aside0.mk (Kd.R_below (by (with_reducible repeat (first | apply Kd.R_alloc | apply Kd.R_drewN | apply Kd.R_drew)); exact HO_113001.out) hb); have n1_ := Aside0.mk (Kd.R_below (by (with_reducible repeat (first | apply Kd.R_alloc | apply Kd.R_drewN | apply Kd.R_drew)); exact HO_118001.out) hb); have n2_ := Aside0.mk (Kd.R_below (by (with_reducible repeat (first | apply Kd.R_alloc | apply Kd.R_drewN | apply Kd.R_drew)); exact HO_124001.out) hb); have n3_ := Aside0.mk (Kd.R_below (by (with_reducible repeat (first | apply Kd.R_alloc | apply Kd.R_drewN | apply Kd.R_drew)); exact HO128.out) hb); have n4_ := Aside0.mk (blk_below (g := gb101) (o := .cells #[.int .i64 a1_0, .slice A1_1 l1_1.length c1_1] 24 (0, 0)) (by (with_reducible repeat (first | refine blk_drewN ?_ _ | refine blk_drew ?_ | refine blk_alloc ?_ _)); exact BK101.out) hb); have n5_ := Aside0.mk (blk_below (g := gb112) (o := .cells #[.int .i64 t107, .slice Ao23 t108.length co23] 29 (0, 0)) (by (with_reducible repeat (first | refine blk_drewN ?_ _ | refine blk_drew ?_ | refine blk_alloc ?_ _)); exact BK112.out) hb); have n6_ := Aside0.mk (blk_below (g := gb117) (o := .cells #[.int .i64 t113, .slice Ao30 t114.length co30] 29 (0, 0)) (by (with_reducible repeat (first | refine blk_drewN ?_ _ | refine blk_drew ?_ | refine blk_alloc ?_ _)); exact BK117.out) hb); have n7_ := Aside0.mk (blk_below (g := gb123) (o := .cells #[.int .i64 t118, .slice Ao37 t119.length co37] 29 (0, 0)) (by (with_reducible repeat (first | refine blk_drewN ?_ _ | refine blk_drew ?_ | refine blk_alloc ?_ _)); exact BK123.out) hb); have n8_ := Aside0.mk (below_step (by repeat (first | (with_reducible first | exact HB.out | apply below_alloc | apply pw_below_drewN | apply below_drew1 | refine below_set ?_ GE101.out | refine below_set ?_ GE112.out | refine below_set ?_ GE117.out | refine below_set ?_ GE123.out) | exact HB.out)) hb); clear HO_113001; clear HO_118001; clear HO_124001; clear HO128; clear BK101; clear BK112; clear BK117; clear BK123; clear HB; have HO_113001 := n0_; have HO_118001 := n1_; have HO_124001 := n2_; have HO128 := n3_; have BK101 := n4_; have BK112 := n5_; have BK117 := n6_; have BK123 := n7_; have HB := n8_; clear n0_ n1_ n2_ n3_ n4_ n5_ n6_ n7_ n8_; (try clear hb); (try clear hb2); (try clear hk); (try clear hi)))
                  go_meet
                  case rel => exact ⟨_, (true), (by first | rfl | (simp; done) | (simp [*]; done)), H', ⟨by have := HJ11.out; first | omega | exact Nat.le_refl _⟩, ⟨by (with_reducible repeat (first | apply Kd.R_alloc | apply Kd.R_drewN | apply Kd.R_drew)); exact Kd.R_mono HO_113001.out (fun _ hk => ⟨hk.1, hk.2.1⟩)⟩, ⟨by (with_reducible repeat (first | apply Kd.R_alloc | apply Kd.R_drewN | apply Kd.R_drew)); exact Kd.R_mono HO_118001.out (fun _ hk => ⟨hk.1.1, hk.1.2⟩)⟩, ⟨by (with_reducible repeat (first | apply Kd.R_alloc | apply Kd.R_drewN | apply Kd.R_drew)); exact Kd.R_mono HO_124001.out (fun _ hk => ⟨hk.1, hk.2.1⟩)⟩, ⟨by (with_reducible repeat (first | refine blk_drewN ?_ _ | refine blk_drew ?_ | refine blk_alloc ?_ _)); exact BK101.out⟩, ⟨by (with_reducible repeat (first | refine blk_drewN ?_ _ | refine blk_drew ?_ | refine blk_alloc ?_ _)); exact BK112.out⟩, ⟨by (with_reducible repeat (first | refine blk_drewN ?_ _ | refine blk_drew ?_ | refine blk_alloc ?_ _)); exact BK117.out⟩, ⟨by (with_reducible repeat (first | refine blk_drewN ?_ _ | refine blk_drew ?_ | refine blk_alloc ?_ _)); exact BK123.out⟩, ⟨by repeat (first | (with_reducible first | exact HB.out | apply below_alloc | apply pw_below_drewN | apply below_drew1 | refine below_set ?_ GE101.out | refine below_set ?_ GE112.out | refine below_set ?_ GE117.out | refine below_set ?_ GE123.out) | exact HB.out)⟩⟩
            case rest =>
              clear HC61
              try clear c1
              try clear c2
              try clear p2
              try clear c3
              try clear c4
              try clear c4b0
              try clear c5
              try clear c6
              try clear c7
              try clear c8
              try clear c10
              try clear c14
              try clear c16
              try clear c18
              try clear c21
              try clear c27
              try clear c28
              try clear c33
              try clear c34
              try clear c35
              try clear c38
              try clear c39
              try clear c40
              try clear c41
              try clear c42
              try clear c44
              try clear c45
              try clear c48
              try clear c49
              try clear c50
              try clear c52
              try clear c53
              try clear c56
              try clear c59
              try clear c66
              try clear c67
              try clear c68
              try clear c71
              try clear c71b0
              try clear c73
              try clear c74
              try clear c75
              try clear c76
              try clear c78
              try clear c79
              try clear c82
              try clear c83
              try clear c84
              try clear c86
              try clear c87
              try clear hcz14_0
              try clear hcz14_1
              try clear hcz16_0
              try clear hcz16_1
              try clear hcz22_0
              try clear hcz22_1
              try clear hcz24_0
              try clear hcz24_1
              try clear hcz29_0
              try clear hcz29_1
              try clear hcz36_0
              try clear hcz36_1
              try clear hcz43_0
              try clear hcz43_1
              try clear hcz46_0
              try clear hcz46_1
              try clear hcz51_0
              try clear hcz51_1
              try clear hcz54_0
              try clear hcz54_1
              try clear hcz69_0
              try clear hcz69_1
              try clear hcz6_0
              try clear hcz6_1
              try clear hcz77_0
              try clear hcz77_1
              try clear hcz80_0
              try clear hcz80_1
              try clear hcz85_0
              try clear hcz85_1
              try clear hcz88_0
              try clear hcz88_1
              try clear hfz14_0
              try clear hfz14_1
              try clear hfz16_0
              try clear hfz16_1
              try clear hfz22_0
              try clear hfz22_1
              try clear hfz24_0
              try clear hfz24_1
              try clear hfz29_0
              try clear hfz29_1
              try clear hfz36_0
              try clear hfz36_1
              try clear hfz43_0
              try clear hfz43_1
              try clear hfz46_0
              try clear hfz46_1
              try clear hfz51_0
              try clear hfz51_1
              try clear hfz54_0
              try clear hfz54_1
              try clear hfz69_0
              try clear hfz69_1
              try clear hfz6_0
              try clear hfz6_1
              try clear hfz77_0
              try clear hfz77_1
              try clear hfz80_0
              try clear hfz80_1
              try clear hfz85_0
              try clear hfz85_1
              try clear hfz88_0
              try clear hfz88_1
              try clear p2
              obtain ⟨kq, x65_60, rfl, HA, HJ60, HO_113001, HO_118001, HO_124001, BK101, BK112, BK117, BK123, HB⟩ := hcut
              have hl118001_60 := (Kd.R_reads' HO_118001.out).1
              rw [hl118001_60] at HO_118001
              (try simp only [hl118001_60])
              (try simp only [hl118001_60] at BK101)
              (try simp only [hl118001_60] at BK112)
              (try simp only [hl118001_60] at BK117)
              (try simp only [hl118001_60] at BK123)
              (try simp only [hl118001_60] at HO_113001)
              (try simp only [hl118001_60] at HO_124001)
              cases kq with
              | zero => exact absurd HA.out (by simp [laws_FnExactNotDiagram.j1])
              | succ kj60 =>
                have H := HA.out
                clear HA
                simp only [laws_FnExactNotDiagram.j1] at H
                by_cases c90 : x65_60 = true
                · subst c90
                  have H1 : (some false) = some r := by rw [if_pos rfl] at H; exact H
                  clear H
                  have H := H1
                  clear H1
                  obtain rfl := Option.some.inj H
                  go_wp2
                  go_ret
                  exact ⟨by first | rfl | (simp [errW_none, errW_some] <;> rfl) | (simp [*, errW_none, errW_some] <;> rfl), by repeat (first | (with_reducible first | exact HB.out | apply below_alloc | apply pw_below_drewN | apply below_drew1 | refine below_set ?_ GE101.out | refine below_set ?_ GE112.out | refine below_set ?_ GE117.out | refine below_set ?_ GE123.out) | exact HB.out)⟩
                · replace c90 := Bool.eq_false_iff.mpr c90
                  subst c90
                  have H1 : ((laws_markDiagram.f kj60 t118 t119 1).bind fun bt133 => ((laws_heldDiagram.f kj60 t118 bt133.2 1).bind fun t135 => (if t135 < 0 then (some false) else (if t135 = bt133.1 then ((laws_toDiagram.f kj60 a1_0 l1_1).bind fun bt136 => ((impl_NotDiagram.f kj60 a0 bt136.1 bt136.2).bind fun bt140 => ((laws_eqDiagram.f kj60 bt140.1 bt140.2.1 t107 t108).bind fun t146 => (if t146 = true then (laws_FnExactNotDiagram.j2 kj60 bt133.1 (bt140.2.2 != t111) t118 bt133.2) else (laws_FnExactNotDiagram.j2 kj60 bt133.1 true t118 bt133.2))))) else (some false))))) = some r := by rw [if_neg (show ¬ (false = true) by decide)] at H; exact H
                  clear H
                  have H := H1
                  clear H1
                  replace H := Option.bind_eq_some_iff.mp H
                  obtain ⟨⟨t133, t134⟩, A910, H⟩ := H
                  replace H : ((laws_heldDiagram.f kj60 t118 t134 1).bind fun t135 => (if t135 < 0 then (some false) else (if t135 = t133 then ((laws_toDiagram.f kj60 a1_0 l1_1).bind fun bt136 => ((impl_NotDiagram.f kj60 a0 bt136.1 bt136.2).bind fun bt140 => ((laws_eqDiagram.f kj60 bt140.1 bt140.2.1 t107 t108).bind fun t146 => (if t146 = true then (laws_FnExactNotDiagram.j2 kj60 t133 (bt140.2.2 != t111) t118 t134) else (laws_FnExactNotDiagram.j2 kj60 t133 true t118 t134))))) else (some false)))) = some r := H
                  have A91 := Aside0.mk A910
                  clear A910
                  replace H := Option.bind_eq_some_iff.mp H
                  obtain ⟨t135, A920, H⟩ := H
                  replace H : (if t135 < 0 then (some false) else (if t135 = t133 then ((laws_toDiagram.f kj60 a1_0 l1_1).bind fun bt136 => ((impl_NotDiagram.f kj60 a0 bt136.1 bt136.2).bind fun bt140 => ((laws_eqDiagram.f kj60 bt140.1 bt140.2.1 t107 t108).bind fun t146 => (if t146 = true then (laws_FnExactNotDiagram.j2 kj60 t133 (bt140.2.2 != t111) t118 t134) else (laws_FnExactNotDiagram.j2 kj60 t133 true t118 t134))))) else (some false))) = some r := H
                  have A92 := Aside0.mk A920
                  clear A920
                  by_cases c93 : t135 < 0
                  · rw [if_pos c93] at H
                    have c93b0 : decide (t135 < 0) = true := decide_eq_true c93
                    clear c93
                    obtain rfl := Option.some.inj H
                    have hnb94 := NB123_101.out
                    have hnc94 := NB101_123.out
                    have hnb95 := NB123_112.out
                    have hnc95 := NB112_123.out
                    have hnb96 := NB123_117.out
                    have hnc96 := NB117_123.out
                    have hcz97_0 : wc.cell? ⟨gb123, 0, none⟩ = some (.int .i64 t118) := (blk_cell BK123.out 0).trans rfl
                    have hcz97_1 : wc.cell? ⟨gb123, 1, none⟩ = some (.slice Ao37 t119.length co37) := (blk_cell BK123.out 1).trans rfl
                    have hfz97_0 := blk_frozen BK123.out 0
                    have hfz97_1 := blk_frozen BK123.out 1
                    go_wp2_with (first | ((with_reducible refine gate_callee (f := 38) rfl ?_); refine goesL_ (some 68) rfl rfl Try.func38 (by kernel_rfl) rfl #[.agg #[.int .i64 t118, .slice Ao37 t119.length co37], .int .i64 1] rfl (by (try simp only [List.map_toArray, List.map_cons, List.map_nil]); first | done | rfl | (simp only [List.length_drop, List.length_take]; rfl)) ?_; (with_reducible refine (laws_markDiagram.calls kj60 t118 (fun k_ => some k_ = (.slice Ao37 t119.length co37 : Value).ownBlock) (.slice Ao37 t119.length co37) t119 1 t133 t134 w _ ?side1 ?side2 A91.out).mono ?_); (case side1 => repeat (first | (with_reducible first | exact HB.out | apply below_alloc | apply pw_below_drewN | apply below_drew1 | refine below_set ?_ GE101.out | refine below_set ?_ GE112.out | refine below_set ?_ GE117.out | refine below_set ?_ GE123.out) | exact HB.out)); (case side2 => exact Kd.R_tight rfl HO_124001.out); rintro e w98 ⟨rfl, hy0, hb, hkp⟩; refine ⟨_, rfl, ?_⟩; have n0_ := Aside0.mk (Kd.R_mono (ok' := fun k_ => some k_ ≠ (.slice Ao30 t131.length co30 : Value).ownBlock ∧ some k_ ≠ (.slice Ao37 t119.length co37 : Value).ownBlock) (Kd.R_keptB (HO_113001.out) hkp (fun k_ hk_ hs_ => (hk_.2) hs_)) (fun k_ hk_ => ⟨hk_.1.1, hk_.1.2⟩)); have n1_ := Aside0.mk (Kd.R_mono (ok' := fun k_ => some k_ ≠ (.slice Ao23 t108.length co23 : Value).ownBlock ∧ some k_ ≠ (.slice Ao37 t119.length co37 : Value).ownBlock) (Kd.R_keptB (HO_118001.out) hkp (fun k_ hk_ hs_ => (hk_.2) hs_)) (fun k_ hk_ => ⟨hk_.1.1, hk_.1.2⟩)); have n2_ := Aside0.mk (Kd.R_reok rfl hy0 (fun k_ e_ => HO_124001.out.1 k_ e_)); have n3_ := Aside0.mk (blk_kept (by (with_reducible repeat (first | refine blk_drewN ?_ _ | refine blk_drew ?_ | refine blk_alloc ?_ _)); exact BK101.out) hkp (fun hs_ => (fun e_ => (Kd.R_ne HO_124001.out BK101.out (by decide)) e_) hs_)); have n4_ := Aside0.mk (blk_kept (by (with_reducible repeat (first | refine blk_drewN ?_ _ | refine blk_drew ?_ | refine blk_alloc ?_ _)); exact BK112.out) hkp (fun hs_ => (fun e_ => (Kd.R_ne HO_124001.out BK112.out (by decide)) e_) hs_)); have n5_ := Aside0.mk (blk_kept (by (with_reducible repeat (first | refine blk_drewN ?_ _ | refine blk_drew ?_ | refine blk_alloc ?_ _)); exact BK117.out) hkp (fun hs_ => (fun e_ => (Kd.R_ne HO_124001.out BK117.out (by decide)) e_) hs_)); have n6_ := Aside0.mk (blk_kept (by (with_reducible repeat (first | refine blk_drewN ?_ _ | refine blk_drew ?_ | refine blk_alloc ?_ _)); exact BK123.out) hkp (fun hs_ => (fun e_ => (Kd.R_ne HO_124001.out BK123.out (by decide)) e_) hs_)); have n7_ := Aside0.mk (hb); clear HO_113001; clear HO_118001; clear HO_124001; clear BK101; clear BK112; clear BK117; clear BK123; clear HB; have HO_113001 := n0_; have HO_118001 := n1_; have HO_124001 := n2_; have BK101 := n3_; have BK112 := n4_; have BK117 := n5_; have BK123 := n6_; have HB := n7_; clear n0_ n1_ n2_ n3_ n4_ n5_ n6_ n7_; (try clear hb); (try clear hkp); (try clear hy0); have hcz99_0 : w98.cell? ⟨gb123, 0, none⟩ = some (.int .i64 t118) := (blk_cell BK123.out 0).trans rfl; have hcz99_1 : w98.cell? ⟨gb123, 1, none⟩ = some (.slice Ao37 t119.length co37) := (blk_cell BK123.out 1).trans rfl; have hfz99_0 := blk_frozen BK123.out 0; have hfz99_1 := blk_frozen BK123.out 1) | ((with_reducible refine gate_callee (f := 39) rfl ?_); refine goesL_ (some 71) rfl rfl Try.func39 (by kernel_rfl) rfl #[.agg #[.int .i64 t118, .slice Ao37 t134.length co37], .int .i64 1] rfl (by (try simp only [List.map_toArray, List.map_cons, List.map_nil]); first | done | (rw [show t134.length = t119.length from (Kd.R_reads' HO_124001.out).1.symm] <;> rfl) | rfl | (simp only [List.length_drop, List.length_take]; rfl)) ?_; (with_reducible refine (laws_heldDiagram.calls kj60 t118 _ _ t134 1 t135 _ ?side1 ?side2 A92.out).mono ?_); (case side1 => repeat (first | exact (Kd.R_reads' HO_124001.out).2.2 | (with_reducible refine Kd.C_alloc ?_ _) | (with_reducible refine Kd.C_drewN ?_ _) | (with_reducible refine Kd.C_drew ?_))); (case side2 => rw [show t134.length = t119.length from (Kd.R_reads' HO_124001.out).1.symm]; exact (Kd.R_reads' HO_124001.out).2.1); rintro e w100 ⟨rfl, hb⟩; refine ⟨_, rfl, ?_⟩; have n0_ := Aside0.mk (Kd.R_below (by (with_reducible repeat (first | apply Kd.R_alloc | apply Kd.R_drewN | apply Kd.R_drew)); exact HO_113001.out) hb); have n1_ := Aside0.mk (Kd.R_below (by (with_reducible repeat (first | apply Kd.R_alloc | apply Kd.R_drewN | apply Kd.R_drew)); exact HO_118001.out) hb); have n2_ := Aside0.mk (Kd.R_below (by (with_reducible repeat (first | apply Kd.R_alloc | apply Kd.R_drewN | apply Kd.R_drew)); exact HO_124001.out) hb); have n3_ := Aside0.mk (blk_below (g := gb101) (o := .cells #[.int .i64 a1_0, .slice A1_1 l1_1.length c1_1] 24 (0, 0)) (by (with_reducible repeat (first | refine blk_drewN ?_ _ | refine blk_drew ?_ | refine blk_alloc ?_ _)); exact BK101.out) hb); have n4_ := Aside0.mk (blk_below (g := gb112) (o := .cells #[.int .i64 t107, .slice Ao23 t108.length co23] 29 (0, 0)) (by (with_reducible repeat (first | refine blk_drewN ?_ _ | refine blk_drew ?_ | refine blk_alloc ?_ _)); exact BK112.out) hb); have n5_ := Aside0.mk (blk_below (g := gb117) (o := .cells #[.int .i64 t113, .slice Ao30 t131.length co30] 29 (0, 0)) (by (with_reducible repeat (first | refine blk_drewN ?_ _ | refine blk_drew ?_ | refine blk_alloc ?_ _)); exact BK117.out) hb); have n6_ := Aside0.mk (blk_below (g := gb123) (o := .cells #[.int .i64 t118, .slice Ao37 t119.length co37] 29 (0, 0)) (by (with_reducible repeat (first | refine blk_drewN ?_ _ | refine blk_drew ?_ | refine blk_alloc ?_ _)); exact BK123.out) hb); have n7_ := Aside0.mk (below_step (by repeat (first | (with_reducible first | exact HB.out | apply below_alloc | apply pw_below_drewN | apply below_drew1 | refine below_set ?_ GE101.out | refine below_set ?_ GE112.out | refine below_set ?_ GE117.out | refine below_set ?_ GE123.out) | exact HB.out)) hb); clear HO_113001; clear HO_118001; clear HO_124001; clear BK101; clear BK112; clear BK117; clear BK123; clear HB; have HO_113001 := n0_; have HO_118001 := n1_; have HO_124001 := n2_; have BK101 := n3_; have BK112 := n4_; have BK117 := n5_; have BK123 := n6_; have HB := n7_; clear n0_ n1_ n2_ n3_ n4_ n5_ n6_ n7_; (try clear hb); (try clear hb2); (try clear hk); (try clear hi)))
                    go_ret
                    exact ⟨by first | rfl | (simp [errW_none, errW_some] <;> rfl) | (simp [*, errW_none, errW_some] <;> rfl), by repeat (first | (with_reducible first | exact HB.out | apply below_alloc | apply pw_below_drewN | apply below_drew1 | refine below_set ?_ GE101.out | refine below_set ?_ GE112.out | refine below_set ?_ GE117.out | refine below_set ?_ GE123.out) | exact HB.out)⟩
                  · rw [if_neg c93] at H
                    have c93b0 : decide (t135 < 0) = false := decide_eq_false c93
                    clear c93
                    by_cases c101 : t135 = t133
                    · rw [if_pos c101] at H
                      have c101b0 : (t135 == t133) = true := beq_iff_eq.mpr c101
                      have c101b1 : (t135 != t133) = false := bne_eq_false_iff_eq.mpr c101
                      clear c101
                      replace H := Option.bind_eq_some_iff.mp H
                      obtain ⟨⟨t136, t137⟩, A1020, H⟩ := H
                      replace H : ((impl_NotDiagram.f kj60 a0 t136 t137).bind fun bt140 => ((laws_eqDiagram.f kj60 bt140.1 bt140.2.1 t107 t108).bind fun t146 => (if t146 = true then (laws_FnExactNotDiagram.j2 kj60 t133 (bt140.2.2 != t111) t118 t134) else (laws_FnExactNotDiagram.j2 kj60 t133 true t118 t134)))) = some r := H
                      have A102 := Aside0.mk A1020
                      clear A1020
                      replace H := Option.bind_eq_some_iff.mp H
                      obtain ⟨⟨t140, t141, t144⟩, A1030, H⟩ := H
                      replace H : ((laws_eqDiagram.f kj60 t140 t141 t107 t108).bind fun t146 => (if t146 = true then (laws_FnExactNotDiagram.j2 kj60 t133 (t144 != t111) t118 t134) else (laws_FnExactNotDiagram.j2 kj60 t133 true t118 t134))) = some r := H
                      have A103 := Aside0.mk A1030
                      clear A1030
                      have HC104 := Aside0.mk H
                      clear H
                      have hnb105 := NB123_101.out
                      have hnc105 := NB101_123.out
                      have hnb106 := NB123_112.out
                      have hnc106 := NB112_123.out
                      have hnb107 := NB123_117.out
                      have hnc107 := NB117_123.out
                      have hcz108_0 : wc.cell? ⟨gb123, 0, none⟩ = some (.int .i64 t118) := (blk_cell BK123.out 0).trans rfl
                      have hcz108_1 : wc.cell? ⟨gb123, 1, none⟩ = some (.slice Ao37 t119.length co37) := (blk_cell BK123.out 1).trans rfl
                      have hfz108_0 := blk_frozen BK123.out 0
                      have hfz108_1 := blk_frozen BK123.out 1
                      go_upto_region 25 with (first | ((with_reducible refine gate_callee (f := 38) rfl ?_); refine goesL_ (some 68) rfl rfl Try.func38 (by kernel_rfl) rfl #[.agg #[.int .i64 t118, .slice Ao37 t119.length co37], .int .i64 1] rfl (by (try simp only [List.map_toArray, List.map_cons, List.map_nil]); first | done | rfl | (simp only [List.length_drop, List.length_take]; rfl)) ?_; (with_reducible refine (laws_markDiagram.calls kj60 t118 (fun k_ => some k_ = (.slice Ao37 t119.length co37 : Value).ownBlock) (.slice Ao37 t119.length co37) t119 1 t133 t134 w _ ?side1 ?side2 A91.out).mono ?_); (case side1 => repeat (first | (with_reducible first | exact HB.out | apply below_alloc | apply pw_below_drewN | apply below_drew1 | refine below_set ?_ GE101.out | refine below_set ?_ GE112.out | refine below_set ?_ GE117.out | refine below_set ?_ GE123.out) | exact HB.out)); (case side2 => exact Kd.R_tight rfl HO_124001.out); rintro e w109 ⟨rfl, hy0, hb, hkp⟩; refine ⟨_, rfl, ?_⟩; have n0_ := Aside0.mk (Kd.R_mono (ok' := fun k_ => some k_ ≠ (.slice Ao30 t131.length co30 : Value).ownBlock ∧ some k_ ≠ (.slice Ao37 t119.length co37 : Value).ownBlock) (Kd.R_keptB (HO_113001.out) hkp (fun k_ hk_ hs_ => (hk_.2) hs_)) (fun k_ hk_ => ⟨hk_.1.1, hk_.1.2⟩)); have n1_ := Aside0.mk (Kd.R_mono (ok' := fun k_ => some k_ ≠ (.slice Ao23 t108.length co23 : Value).ownBlock ∧ some k_ ≠ (.slice Ao37 t119.length co37 : Value).ownBlock) (Kd.R_keptB (HO_118001.out) hkp (fun k_ hk_ hs_ => (hk_.2) hs_)) (fun k_ hk_ => ⟨hk_.1.1, hk_.1.2⟩)); have n2_ := Aside0.mk (Kd.R_reok rfl hy0 (fun k_ e_ => HO_124001.out.1 k_ e_)); have n3_ := Aside0.mk (blk_kept (by (with_reducible repeat (first | refine blk_drewN ?_ _ | refine blk_drew ?_ | refine blk_alloc ?_ _)); exact BK101.out) hkp (fun hs_ => (fun e_ => (Kd.R_ne HO_124001.out BK101.out (by decide)) e_) hs_)); have n4_ := Aside0.mk (blk_kept (by (with_reducible repeat (first | refine blk_drewN ?_ _ | refine blk_drew ?_ | refine blk_alloc ?_ _)); exact BK112.out) hkp (fun hs_ => (fun e_ => (Kd.R_ne HO_124001.out BK112.out (by decide)) e_) hs_)); have n5_ := Aside0.mk (blk_kept (by (with_reducible repeat (first | refine blk_drewN ?_ _ | refine blk_drew ?_ | refine blk_alloc ?_ _)); exact BK117.out) hkp (fun hs_ => (fun e_ => (Kd.R_ne HO_124001.out BK117.out (by decide)) e_) hs_)); have n6_ := Aside0.mk (blk_kept (by (with_reducible repeat (first | refine blk_drewN ?_ _ | refine blk_drew ?_ | refine blk_alloc ?_ _)); exact BK123.out) hkp (fun hs_ => (fun e_ => (Kd.R_ne HO_124001.out BK123.out (by decide)) e_) hs_)); have n7_ := Aside0.mk (hb); clear HO_113001; clear HO_118001; clear HO_124001; clear BK101; clear BK112; clear BK117; clear BK123; clear HB; have HO_113001 := n0_; have HO_118001 := n1_; have HO_124001 := n2_; have BK101 := n3_; have BK112 := n4_; have BK117 := n5_; have BK123 := n6_; have HB := n7_; clear n0_ n1_ n2_ n3_ n4_ n5_ n6_ n7_; (try clear hb); (try clear hkp); (try clear hy0); have hcz110_0 : w109.cell? ⟨gb123, 0, none⟩ = some (.int .i64 t118) := (blk_cell BK123.out 0).trans rfl; have hcz110_1 : w109.cell? ⟨gb123, 1, none⟩ = some (.slice Ao37 t119.length co37) := (blk_cell BK123.out 1).trans rfl; have hfz110_0 := blk_frozen BK123.out 0; have hfz110_1 := blk_frozen BK123.out 1) | ((with_reducible refine gate_callee (f := 39) rfl ?_); refine goesL_ (some 71) rfl rfl Try.func39 (by kernel_rfl) rfl #[.agg #[.int .i64 t118, .slice Ao37 t134.length co37], .int .i64 1] rfl (by (try simp only [List.map_toArray, List.map_cons, List.map_nil]); first | done | (rw [show t134.length = t119.length from (Kd.R_reads' HO_124001.out).1.symm] <;> rfl) | rfl | (simp only [List.length_drop, List.length_take]; rfl)) ?_; (with_reducible refine (laws_heldDiagram.calls kj60 t118 _ _ t134 1 t135 _ ?side1 ?side2 A92.out).mono ?_); (case side1 => repeat (first | exact (Kd.R_reads' HO_124001.out).2.2 | (with_reducible refine Kd.C_alloc ?_ _) | (with_reducible refine Kd.C_drewN ?_ _) | (with_reducible refine Kd.C_drew ?_))); (case side2 => rw [show t134.length = t119.length from (Kd.R_reads' HO_124001.out).1.symm]; exact (Kd.R_reads' HO_124001.out).2.1); rintro e w111 ⟨rfl, hb⟩; refine ⟨_, rfl, ?_⟩; have n0_ := Aside0.mk (Kd.R_below (by (with_reducible repeat (first | apply Kd.R_alloc | apply Kd.R_drewN | apply Kd.R_drew)); exact HO_113001.out) hb); have n1_ := Aside0.mk (Kd.R_below (by (with_reducible repeat (first | apply Kd.R_alloc | apply Kd.R_drewN | apply Kd.R_drew)); exact HO_118001.out) hb); have n2_ := Aside0.mk (Kd.R_below (by (with_reducible repeat (first | apply Kd.R_alloc | apply Kd.R_drewN | apply Kd.R_drew)); exact HO_124001.out) hb); have n3_ := Aside0.mk (blk_below (g := gb101) (o := .cells #[.int .i64 a1_0, .slice A1_1 l1_1.length c1_1] 24 (0, 0)) (by (with_reducible repeat (first | refine blk_drewN ?_ _ | refine blk_drew ?_ | refine blk_alloc ?_ _)); exact BK101.out) hb); have n4_ := Aside0.mk (blk_below (g := gb112) (o := .cells #[.int .i64 t107, .slice Ao23 t108.length co23] 29 (0, 0)) (by (with_reducible repeat (first | refine blk_drewN ?_ _ | refine blk_drew ?_ | refine blk_alloc ?_ _)); exact BK112.out) hb); have n5_ := Aside0.mk (blk_below (g := gb117) (o := .cells #[.int .i64 t113, .slice Ao30 t131.length co30] 29 (0, 0)) (by (with_reducible repeat (first | refine blk_drewN ?_ _ | refine blk_drew ?_ | refine blk_alloc ?_ _)); exact BK117.out) hb); have n6_ := Aside0.mk (blk_below (g := gb123) (o := .cells #[.int .i64 t118, .slice Ao37 t119.length co37] 29 (0, 0)) (by (with_reducible repeat (first | refine blk_drewN ?_ _ | refine blk_drew ?_ | refine blk_alloc ?_ _)); exact BK123.out) hb); have n7_ := Aside0.mk (below_step (by repeat (first | (with_reducible first | exact HB.out | apply below_alloc | apply pw_below_drewN | apply below_drew1 | refine below_set ?_ GE101.out | refine below_set ?_ GE112.out | refine below_set ?_ GE117.out | refine below_set ?_ GE123.out) | exact HB.out)) hb); clear HO_113001; clear HO_118001; clear HO_124001; clear BK101; clear BK112; clear BK117; clear BK123; clear HB; have HO_113001 := n0_; have HO_118001 := n1_; have HO_124001 := n2_; have BK101 := n3_; have BK112 := n4_; have BK117 := n5_; have BK123 := n6_; have HB := n7_; clear n0_ n1_ n2_ n3_ n4_ n5_ n6_ n7_; (try clear hb); (try clear hb2); (try clear hk); (try clear hi); have hnb112 := NB101_112.out; have hnc112 := NB112_101.out; have hnb113 := NB101_117.out; have hnc113 := NB117_101.out; have hcz114_0 : w111.cell? ⟨gb101, 0, none⟩ = some (.int .i64 a1_0) := (blk_cell BK101.out 0).trans rfl; have hcz114_1 : w111.cell? ⟨gb101, 1, none⟩ = some (.slice A1_1 l1_1.length c1_1) := (blk_cell BK101.out 1).trans rfl; have hfz114_0 := blk_frozen BK101.out 0; have hfz114_1 := blk_frozen BK101.out 1) | ((with_reducible refine gate_callee (f := 16) rfl ?_); refine goesL_ (some 80) rfl rfl Try.func16 (by kernel_rfl) rfl #[.agg #[.int .i64 a1_0, .slice A1_1 l1_1.length c1_1]] rfl (by (try simp only [List.map_toArray, List.map_cons, List.map_nil]); first | done | rfl | (simp only [List.length_drop, List.length_take]; rfl)) ?_; (with_reducible refine (laws_toDiagram.calls kj60 a1_0 _ _ l1_1 t136 t137 _ ?side1 ?side2 A102.out).mono ?_); (case side1 => repeat (first | exact (Kd.C_below HR1_1.out HB.out) | (with_reducible refine Kd.C_alloc ?_ _) | (with_reducible refine Kd.C_drewN ?_ _) | (with_reducible refine Kd.C_drew ?_))); (case side2 => exact HC1_1.out); rintro e w115 ⟨v138, rfl, ho0, hb⟩; refine ⟨_, rfl, ?_⟩; have n0_ := Aside0.mk (Kd.R_elder' (by (with_reducible repeat (first | apply Kd.R_alloc | apply Kd.R_drewN | apply Kd.R_drew)); exact HO_113001.out) (Kd.R_base ho0) hb); have n1_ := Aside0.mk (Kd.R_elder' (by (with_reducible repeat (first | apply Kd.R_alloc | apply Kd.R_drewN | apply Kd.R_drew)); exact HO_118001.out) (Kd.R_base ho0) hb); have n2_ := Aside0.mk (Kd.R_elder' (by (with_reducible repeat (first | apply Kd.R_alloc | apply Kd.R_drewN | apply Kd.R_drew)); exact HO_124001.out) (Kd.R_base ho0) hb); have n3_ := Aside0.mk (Kd.R_lower (Kd.R_new' (Kd.R_new' (Kd.R_new' ho0 (Kd.R_lt (by (with_reducible repeat (first | apply Kd.R_alloc | apply Kd.R_drewN | apply Kd.R_drew)); exact HO_113001.out))) (Kd.R_lt (by (with_reducible repeat (first | apply Kd.R_alloc | apply Kd.R_drewN | apply Kd.R_drew)); exact HO_118001.out))) (Kd.R_lt (by (with_reducible repeat (first | apply Kd.R_alloc | apply Kd.R_drewN | apply Kd.R_drew)); exact HO_124001.out))) (below_size (by repeat (first | (with_reducible first | exact HB.out | apply below_alloc | apply pw_below_drewN | apply below_drew1 | refine below_set ?_ GE101.out | refine below_set ?_ GE112.out | refine below_set ?_ GE117.out | refine below_set ?_ GE123.out) | exact HB.out)))); have n4_ := Aside0.mk (blk_below (g := gb101) (o := .cells #[.int .i64 a1_0, .slice A1_1 l1_1.length c1_1] 24 (0, 0)) (by (with_reducible repeat (first | refine blk_drewN ?_ _ | refine blk_drew ?_ | refine blk_alloc ?_ _)); exact BK101.out) hb); have n5_ := Aside0.mk (blk_below (g := gb112) (o := .cells #[.int .i64 t107, .slice Ao23 t108.length co23] 29 (0, 0)) (by (with_reducible repeat (first | refine blk_drewN ?_ _ | refine blk_drew ?_ | refine blk_alloc ?_ _)); exact BK112.out) hb); have n6_ := Aside0.mk (blk_below (g := gb117) (o := .cells #[.int .i64 t113, .slice Ao30 t131.length co30] 29 (0, 0)) (by (with_reducible repeat (first | refine blk_drewN ?_ _ | refine blk_drew ?_ | refine blk_alloc ?_ _)); exact BK117.out) hb); have n7_ := Aside0.mk (blk_below (g := gb123) (o := .cells #[.int .i64 t118, .slice Ao37 t119.length co37] 29 (0, 0)) (by (with_reducible repeat (first | refine blk_drewN ?_ _ | refine blk_drew ?_ | refine blk_alloc ?_ _)); exact BK123.out) hb); have n8_ := Aside0.mk (below_step (by repeat (first | (with_reducible first | exact HB.out | apply below_alloc | apply pw_below_drewN | apply below_drew1 | refine below_set ?_ GE101.out | refine below_set ?_ GE112.out | refine below_set ?_ GE117.out | refine below_set ?_ GE123.out) | exact HB.out)) hb); clear HO_113001; clear HO_118001; clear HO_124001; clear BK101; clear BK112; clear BK117; clear BK123; clear HB; have HO_113001 := n0_; have HO_118001 := n1_; have HO_124001 := n2_; have HO139 := n3_; have BK101 := n4_; have BK112 := n5_; have BK117 := n6_; have BK123 := n7_; have HB := n8_; clear n0_ n1_ n2_ n3_ n4_ n5_ n6_ n7_ n8_; (try clear hb); (try clear hb2); (try clear hk); (try clear hi); (try clear ho0); obtain ⟨Ao116, co116, eo116⟩ := Kd.R_slice HO139.out; subst eo116) | ((with_reducible refine gate_callee (f := 41) rfl ?_); refine goesL_ (some 81) rfl rfl Try.func41 (by kernel_rfl) rfl #[.int .i64 a0, .agg #[.int .i64 t136, .slice Ao116 t137.length co116]] rfl (by (try simp only [List.map_toArray, List.map_cons, List.map_nil]); first | done | rfl | (simp only [List.length_drop, List.length_take]; rfl)) ?_; (with_reducible refine (impl_NotDiagram.calls kj60 a0 t136 _ _ t137 t140 t141 t144 _ ?side1 ?side2 A103.out).mono ?_); (case side1 => repeat (first | exact (Kd.R_reads' HO139.out).2.2 | (with_reducible refine Kd.C_alloc ?_ _) | (with_reducible refine Kd.C_drewN ?_ _) | (with_reducible refine Kd.C_drew ?_))); (case side2 => exact (Kd.R_reads' HO139.out).2.1); rintro e w117 ⟨v142, rfl, ho0, hb⟩; refine ⟨_, rfl, ?_⟩; have n0_ := Aside0.mk (Kd.R_elder' (by (with_reducible repeat (first | apply Kd.R_alloc | apply Kd.R_drewN | apply Kd.R_drew)); exact HO_113001.out) (Kd.R_base ho0) hb); have n1_ := Aside0.mk (Kd.R_elder' (by (with_reducible repeat (first | apply Kd.R_alloc | apply Kd.R_drewN | apply Kd.R_drew)); exact HO_118001.out) (Kd.R_base ho0) hb); have n2_ := Aside0.mk (Kd.R_elder' (by (with_reducible repeat (first | apply Kd.R_alloc | apply Kd.R_drewN | apply Kd.R_drew)); exact HO_124001.out) (Kd.R_base ho0) hb); have n3_ := Aside0.mk (Kd.R_elder' (by (with_reducible repeat (first | apply Kd.R_alloc | apply Kd.R_drewN | apply Kd.R_drew)); exact HO139.out) (Kd.R_base ho0) hb); have n4_ := Aside0.mk (Kd.R_lower (Kd.R_new' (Kd.R_new' (Kd.R_new' (Kd.R_new' ho0 (Kd.R_lt (by (with_reducible repeat (first | apply Kd.R_alloc | apply Kd.R_drewN | apply Kd.R_drew)); exact HO_113001.out))) (Kd.R_lt (by (with_reducible repeat (first | apply Kd.R_alloc | apply Kd.R_drewN | apply Kd.R_drew)); exact HO_118001.out))) (Kd.R_lt (by (with_reducible repeat (first | apply Kd.R_alloc | apply Kd.R_drewN | apply Kd.R_drew)); exact HO_124001.out))) (Kd.R_lt (by (with_reducible repeat (first | apply Kd.R_alloc | apply Kd.R_drewN | apply Kd.R_drew)); exact HO139.out))) (below_size (by repeat (first | (with_reducible first | exact HB.out | apply below_alloc | apply pw_below_drewN | apply below_drew1 | refine below_set ?_ GE101.out | refine below_set ?_ GE112.out | refine below_set ?_ GE117.out | refine below_set ?_ GE123.out) | exact HB.out)))); have n5_ := Aside0.mk (blk_below (g := gb101) (o := .cells #[.int .i64 a1_0, .slice A1_1 l1_1.length c1_1] 24 (0, 0)) (by (with_reducible repeat (first | refine blk_drewN ?_ _ | refine blk_drew ?_ | refine blk_alloc ?_ _)); exact BK101.out) hb); have n6_ := Aside0.mk (blk_below (g := gb112) (o := .cells #[.int .i64 t107, .slice Ao23 t108.length co23] 29 (0, 0)) (by (with_reducible repeat (first | refine blk_drewN ?_ _ | refine blk_drew ?_ | refine blk_alloc ?_ _)); exact BK112.out) hb); have n7_ := Aside0.mk (blk_below (g := gb117) (o := .cells #[.int .i64 t113, .slice Ao30 t131.length co30] 29 (0, 0)) (by (with_reducible repeat (first | refine blk_drewN ?_ _ | refine blk_drew ?_ | refine blk_alloc ?_ _)); exact BK117.out) hb); have n8_ := Aside0.mk (blk_below (g := gb123) (o := .cells #[.int .i64 t118, .slice Ao37 t119.length co37] 29 (0, 0)) (by (with_reducible repeat (first | refine blk_drewN ?_ _ | refine blk_drew ?_ | refine blk_alloc ?_ _)); exact BK123.out) hb); have n9_ := Aside0.mk (below_step (by repeat (first | (with_reducible first | exact HB.out | apply below_alloc | apply pw_below_drewN | apply below_drew1 | refine below_set ?_ GE101.out | refine below_set ?_ GE112.out | refine below_set ?_ GE117.out | refine below_set ?_ GE123.out) | exact HB.out)) hb); clear HO_113001; clear HO_118001; clear HO_124001; clear HO139; clear BK101; clear BK112; clear BK117; clear BK123; clear HB; have HO_113001 := n0_; have HO_118001 := n1_; have HO_124001 := n2_; have HO139 := n3_; have HO143 := n4_; have BK101 := n5_; have BK112 := n6_; have BK117 := n7_; have BK123 := n8_; have HB := n9_; clear n0_ n1_ n2_ n3_ n4_ n5_ n6_ n7_ n8_ n9_; (try clear hb); (try clear hb2); (try clear hk); (try clear hi); (try clear ho0)) | ((with_reducible refine gate_dst (N := 14) rfl ?_); refine box_event ?hg (N := 14) ?hd (cs := #[.int .i64 0, .slice none 0 0]) (t := 29) ?hr ?_; (case hd => rfl); (case hg => rfl); (case hr => first | (go_simp; done) | (go_simp; rfl)); intro gb145 hg w118 hbox hb; have n0_ := Aside0.mk (Kd.R_below (by (with_reducible repeat (first | apply Kd.R_alloc | apply Kd.R_drewN | apply Kd.R_drew)); exact HO_113001.out) hb); have n1_ := Aside0.mk (Kd.R_below (by (with_reducible repeat (first | apply Kd.R_alloc | apply Kd.R_drewN | apply Kd.R_drew)); exact HO_118001.out) hb); have n2_ := Aside0.mk (Kd.R_below (by (with_reducible repeat (first | apply Kd.R_alloc | apply Kd.R_drewN | apply Kd.R_drew)); exact HO_124001.out) hb); have n3_ := Aside0.mk (Kd.R_below (by (with_reducible repeat (first | apply Kd.R_alloc | apply Kd.R_drewN | apply Kd.R_drew)); exact HO139.out) hb); have n4_ := Aside0.mk (Kd.R_below (by (with_reducible repeat (first | apply Kd.R_alloc | apply Kd.R_drewN | apply Kd.R_drew)); exact HO143.out) hb); have n5_ := Aside0.mk (blk_below (g := gb101) (o := .cells #[.int .i64 a1_0, .slice A1_1 l1_1.length c1_1] 24 (0, 0)) (by (with_reducible repeat (first | refine blk_drewN ?_ _ | refine blk_drew ?_ | refine blk_alloc ?_ _)); exact BK101.out) hb); have n6_ := Aside0.mk (blk_below (g := gb112) (o := .cells #[.int .i64 t107, .slice Ao23 t108.length co23] 29 (0, 0)) (by (with_reducible repeat (first | refine blk_drewN ?_ _ | refine blk_drew ?_ | refine blk_alloc ?_ _)); exact BK112.out) hb); have n7_ := Aside0.mk (blk_below (g := gb117) (o := .cells #[.int .i64 t113, .slice Ao30 t131.length co30] 29 (0, 0)) (by (with_reducible repeat (first | refine blk_drewN ?_ _ | refine blk_drew ?_ | refine blk_alloc ?_ _)); exact BK117.out) hb); have n8_ := Aside0.mk (blk_below (g := gb123) (o := .cells #[.int .i64 t118, .slice Ao37 t119.length co37] 29 (0, 0)) (by (with_reducible repeat (first | refine blk_drewN ?_ _ | refine blk_drew ?_ | refine blk_alloc ?_ _)); exact BK123.out) hb); have n9_ := Aside0.mk (below_step (by repeat (first | (with_reducible first | exact HB.out | apply below_alloc | apply pw_below_drewN | apply below_drew1 | refine below_set ?_ GE101.out | refine below_set ?_ GE112.out | refine below_set ?_ GE117.out | refine below_set ?_ GE123.out) | exact HB.out)) hb); have n10_ := Aside0.mk (hbox); have n11_ := Aside0.mk ((by rw [hg]; exact (below_size (by repeat (first | (with_reducible first | exact HB.out | apply below_alloc | apply pw_below_drewN | apply below_drew1 | refine below_set ?_ GE101.out | refine below_set ?_ GE112.out | refine below_set ?_ GE117.out | refine below_set ?_ GE123.out) | exact HB.out))) : w.heap.size ≤ gb145)); have n12_ := Aside0.mk ((by rw [hg]; exact (below_size (by repeat (first | (with_reducible first | exact HB.out | apply below_alloc | apply pw_below_drewN | apply below_drew1 | refine below_set ?_ GE101.out | refine below_set ?_ GE112.out | refine below_set ?_ GE117.out | refine below_set ?_ GE123.out) | exact HB.out))) : w.heap.size ≤ gb145)); have n13_ := Aside0.mk ((by rw [hg]; exact Nat.ne_of_lt (blk_lt (g := gb101) (o := .cells #[.int .i64 a1_0, .slice A1_1 l1_1.length c1_1] 24 (0, 0)) (by (with_reducible repeat (first | refine blk_drewN ?_ _ | refine blk_drew ?_ | refine blk_alloc ?_ _)); exact BK101.out)) : gb101 ≠ gb145)); have n14_ := Aside0.mk ((by rw [hg]; exact Nat.ne_of_gt (blk_lt (g := gb101) (o := .cells #[.int .i64 a1_0, .slice A1_1 l1_1.length c1_1] 24 (0, 0)) (by (with_reducible repeat (first | refine blk_drewN ?_ _ | refine blk_drew ?_ | refine blk_alloc ?_ _)); exact BK101.out)) : gb145 ≠ gb101)); have n15_ := Aside0.mk ((by rw [hg]; exact Nat.ne_of_lt (blk_lt (g := gb112) (o := .cells #[.int .i64 t107, .slice Ao23 t108.length co23] 29 (0, 0)) (by (with_reducible repeat (first | refine blk_drewN ?_ _ | refine blk_drew ?_ | refine blk_alloc ?_ _)); exact BK112.out)) : gb112 ≠ gb145)); have n16_ := Aside0.mk ((by rw [hg]; exact Nat.ne_of_gt (blk_lt (g := gb112) (o := .cells #[.int .i64 t107, .slice Ao23 t108.length co23] 29 (0, 0)) (by (with_reducible repeat (first | refine blk_drewN ?_ _ | refine blk_drew ?_ | refine blk_alloc ?_ _)); exact BK112.out)) : gb145 ≠ gb112)); have n17_ := Aside0.mk ((by rw [hg]; exact Nat.ne_of_lt (blk_lt (g := gb117) (o := .cells #[.int .i64 t113, .slice Ao30 t131.length co30] 29 (0, 0)) (by (with_reducible repeat (first | refine blk_drewN ?_ _ | refine blk_drew ?_ | refine blk_alloc ?_ _)); exact BK117.out)) : gb117 ≠ gb145)); have n18_ := Aside0.mk ((by rw [hg]; exact Nat.ne_of_gt (blk_lt (g := gb117) (o := .cells #[.int .i64 t113, .slice Ao30 t131.length co30] 29 (0, 0)) (by (with_reducible repeat (first | refine blk_drewN ?_ _ | refine blk_drew ?_ | refine blk_alloc ?_ _)); exact BK117.out)) : gb145 ≠ gb117)); have n19_ := Aside0.mk ((by rw [hg]; exact Nat.ne_of_lt (blk_lt (g := gb123) (o := .cells #[.int .i64 t118, .slice Ao37 t119.length co37] 29 (0, 0)) (by (with_reducible repeat (first | refine blk_drewN ?_ _ | refine blk_drew ?_ | refine blk_alloc ?_ _)); exact BK123.out)) : gb123 ≠ gb145)); have n20_ := Aside0.mk ((by rw [hg]; exact Nat.ne_of_gt (blk_lt (g := gb123) (o := .cells #[.int .i64 t118, .slice Ao37 t119.length co37] 29 (0, 0)) (by (with_reducible repeat (first | refine blk_drewN ?_ _ | refine blk_drew ?_ | refine blk_alloc ?_ _)); exact BK123.out)) : gb145 ≠ gb123)); clear HO_113001; clear HO_118001; clear HO_124001; clear HO139; clear HO143; clear BK101; clear BK112; clear BK117; clear BK123; clear HB; have HO_113001 := n0_; have HO_118001 := n1_; have HO_124001 := n2_; have HO139 := n3_; have HO143 := n4_; have BK101 := n5_; have BK112 := n6_; have BK117 := n7_; have BK123 := n8_; have HB := n9_; have BK145 := n10_; have GW145 := n11_; have GE145 := n12_; have NB101_145 := n13_; have NB145_101 := n14_; have NB112_145 := n15_; have NB145_112 := n16_; have NB117_145 := n17_; have NB145_117 := n18_; have NB123_145 := n19_; have NB145_123 := n20_; clear n0_ n1_ n2_ n3_ n4_ n5_ n6_ n7_ n8_ n9_ n10_ n11_ n12_ n13_ n14_ n15_ n16_ n17_ n18_ n19_ n20_; clear hb hbox hg; have hnb119 := NB145_101.out; have hnc119 := NB101_145.out; have hnb120 := NB145_112.out; have hnc120 := NB112_145.out; have hnb121 := NB145_117.out; have hnc121 := NB117_145.out; have hnb122 := NB145_123.out; have hnc122 := NB123_145.out; have hcz123_0 : w118.cell? ⟨gb145, 0, none⟩ = some (.int .i64 0) := (blk_cell BK145.out 0).trans rfl; have hcz123_1 : w118.cell? ⟨gb145, 1, none⟩ = some (.slice none 0 0) := (blk_cell BK145.out 1).trans rfl; have hfz123_0 := blk_frozen BK145.out 0; have hfz123_1 := blk_frozen BK145.out 1; obtain ⟨Ao124, co124, eo124⟩ := Kd.R_slice HO143.out; subst eo124))
                      (try simp only [Act.put, List.setIfInBounds_toArray, List.set_cons_zero, List.set_cons_succ])
                      go_cut [92] (fun v92 wc => ∃ (kq : Nat) (x92_103 : Bool), v92 = .bool x92_103 ∧ Aside0 (laws_FnExactNotDiagram.j2 kq t133 x92_103 t118 t134 = some r) ∧ Aside0 (kq ≤ kj60) ∧ Aside0 (Kd.R k97 97 wc w.heap.size (fun k_ => some k_ ≠ ((.slice Ao30 t131.length co30) : Value).ownBlock ∧ some k_ ≠ ((.slice Ao37 t119.length co37) : Value).ownBlock ∧ some k_ ≠ ((.slice Ao124 t141.length co124) : Value).ownBlock) (.slice Ao23 t108.length co23) t108) ∧ Aside0 (Kd.R k97 97 wc w.heap.size (fun k_ => some k_ ≠ ((.slice Ao23 t108.length co23) : Value).ownBlock ∧ some k_ ≠ ((.slice Ao37 t119.length co37) : Value).ownBlock ∧ some k_ ≠ ((.slice Ao124 t141.length co124) : Value).ownBlock) (.slice Ao30 t131.length co30) t131) ∧ Aside0 (Kd.R k97 97 wc w.heap.size (fun k_ => some k_ ≠ ((.slice Ao23 t108.length co23) : Value).ownBlock ∧ some k_ ≠ ((.slice Ao30 t131.length co30) : Value).ownBlock ∧ some k_ ≠ ((.slice Ao124 t141.length co124) : Value).ownBlock) (.slice Ao37 t119.length co37) t134) ∧ Aside0 (Kd.R k97 97 wc w.heap.size (fun k_ => some k_ ≠ ((.slice Ao23 t108.length co23) : Value).ownBlock ∧ some k_ ≠ ((.slice Ao30 t131.length co30) : Value).ownBlock ∧ some k_ ≠ ((.slice Ao37 t119.length co37) : Value).ownBlock) (.slice Ao124 t141.length co124) t141) ∧ Aside0 (wc.heap[gb101]? = some (.cells #[.int .i64 a1_0, (.slice A1_1 l1_1.length c1_1)] 24 (0, 0))) ∧ Aside0 (wc.heap[gb112]? = some (.cells #[.int .i64 t107, (.slice Ao23 t108.length co23)] 29 (0, 0))) ∧ Aside0 (wc.heap[gb117]? = some (.cells #[.int .i64 t113, (.slice Ao30 t131.length co30)] 29 (0, 0))) ∧ Aside0 (wc.heap[gb123]? = some (.cells #[.int .i64 t118, (.slice Ao37 t119.length co37)] 29 (0, 0))) ∧ Aside0 (wc.heap[gb145]? = some (.cells #[.int .i64 t140, (.slice Ao124 t141.length co124)] 29 (0, 0))) ∧ Aside0 (Below w.heap.size w wc))
                      case first =>
                        have H := HC104.out
                        clear HC104
                        replace H := Option.bind_eq_some_iff.mp H
                        obtain ⟨t146, A1250, H⟩ := H
                        replace H : (if t146 = true then (laws_FnExactNotDiagram.j2 kj60 t133 (t144 != t111) t118 t134) else (laws_FnExactNotDiagram.j2 kj60 t133 true t118 t134)) = some r := H
                        have A125 := Aside0.mk A1250
                        clear A1250
                        by_cases c126 : t146 = true
                        · subst c126
                          have H1 : (laws_FnExactNotDiagram.j2 kj60 t133 (t144 != t111) t118 t134) = some r := by rw [if_pos rfl] at H; exact H
                          clear H
                          have H := H1
                          clear H1
                          have H' := Aside0.mk H
                          clear H
                          have hnb127 := NB145_101.out
                          have hnc127 := NB101_145.out
                          have hnb128 := NB145_112.out
                          have hnc128 := NB112_145.out
                          have hnb129 := NB145_117.out
                          have hnc129 := NB117_145.out
                          have hnb130 := NB145_123.out
                          have hnc130 := NB123_145.out
                          have hcz131_0 : w118.cell? ⟨gb145, 0, none⟩ = some (.int .i64 0) := (blk_cell BK145.out 0).trans rfl
                          have hcz131_1 : w118.cell? ⟨gb145, 1, none⟩ = some (.slice none 0 0) := (blk_cell BK145.out 1).trans rfl
                          have hfz131_0 := blk_frozen BK145.out 0
                          have hfz131_1 := blk_frozen BK145.out 1
                          have hnb132 := NB112_101.out
                          have hnc132 := NB101_112.out
                          have hnb133 := NB112_117.out
                          have hnc133 := NB117_112.out
                          have hnb134 := NB112_123.out
                          have hnc134 := NB123_112.out
                          have hcz135_0 : w118.cell? ⟨gb112, 0, none⟩ = some (.int .i64 t107) := (blk_cell BK112.out 0).trans rfl
                          have hcz135_1 : w118.cell? ⟨gb112, 1, none⟩ = some (.slice Ao23 t108.length co23) := (blk_cell BK112.out 1).trans rfl
                          have hfz135_0 := blk_frozen BK112.out 0
                          have hfz135_1 := blk_frozen BK112.out 1
                          go_wp2_with (first | ((with_reducible refine gate_callee (f := 18) rfl ?_); refine goesL_ (some 86) rfl rfl Try.func18 (by kernel_rfl) rfl #[.agg #[.int .i64 t140, .slice Ao124 t141.length co124], .agg #[.int .i64 t107, .slice Ao23 t108.length co23]] rfl (by (try simp only [List.map_toArray, List.map_cons, List.map_nil]); first | done | rfl | (simp only [List.length_drop, List.length_take]; rfl)) ?_; (with_reducible refine (laws_eqDiagram.calls kj60 t140 _ _ t141 t107 _ _ t108 true _ ?side1 ?side2 ?side3 ?side4 A125.out).mono ?_); (case side1 => refine (Kd.R_reads' (e := 97) (base := w.heap.size) (ok := fun k_ => ((((True ∧ some k_ ≠ (.slice Ao23 t108.length co23 : Value).ownBlock) ∧ some k_ ≠ (.slice Ao30 t131.length co30 : Value).ownBlock) ∧ some k_ ≠ (.slice Ao37 t119.length co37 : Value).ownBlock) ∧ some k_ ≠ (.slice Ao116 t137.length co116 : Value).ownBlock)) (n := t141.length) (c := co124) ?_).2.2; exact (by (with_reducible repeat (first | apply Kd.R_alloc | apply Kd.R_drewN | apply Kd.R_drew)); exact (Kd.R_mono (Kd.R_far (p := ⟨gb145, 1, none⟩) (Kd.R_far (p := ⟨gb145, 0, none⟩) (Kd.R_types HO143.out BK145.out (by decide)) (fun _ hk => hk.2) (.int .i64 t140)) (fun _ hk => hk.2) (.slice Ao124 t141.length co124)) (fun _ h_ => h_.1)))); (case side2 => exact (Kd.R_reads' HO143.out).2.1); (case side3 => refine (Kd.R_reads' (e := 97) (base := w.heap.size) (ok := fun k_ => (((some k_ ≠ (.slice Ao30 t131.length co30 : Value).ownBlock ∧ some k_ ≠ (.slice Ao37 t119.length co37 : Value).ownBlock) ∧ some k_ ≠ (.slice Ao116 t137.length co116 : Value).ownBlock) ∧ some k_ ≠ (.slice Ao124 t141.length co124 : Value).ownBlock)) (n := t108.length) (c := co23) ?_).2.2; exact (by (with_reducible repeat (first | apply Kd.R_alloc | apply Kd.R_drewN | apply Kd.R_drew)); exact (Kd.R_mono (Kd.R_far (p := ⟨gb145, 1, none⟩) (Kd.R_far (p := ⟨gb145, 0, none⟩) (Kd.R_types HO_113001.out BK145.out (by decide)) (fun _ hk => hk.2) (.int .i64 t140)) (fun _ hk => hk.2) (.slice Ao124 t141.length co124)) (fun _ h_ => h_.1)))); (case side4 => exact (Kd.R_reads' HO_113001.out).2.1); rintro e w136 ⟨rfl, hb⟩; refine ⟨_, rfl, ?_⟩; have n0_ := Aside0.mk (Kd.R_below (by (with_reducible repeat (first | apply Kd.R_alloc | apply Kd.R_drewN | apply Kd.R_drew)); exact (Kd.R_mono (Kd.R_far (p := ⟨gb145, 1, none⟩) (Kd.R_far (p := ⟨gb145, 0, none⟩) (Kd.R_types HO_113001.out BK145.out (by decide)) (fun _ hk => hk.2) (.int .i64 t140)) (fun _ hk => hk.2) (.slice Ao124 t141.length co124)) (fun _ h_ => h_.1))) hb); have n1_ := Aside0.mk (Kd.R_below (by (with_reducible repeat (first | apply Kd.R_alloc | apply Kd.R_drewN | apply Kd.R_drew)); exact (Kd.R_mono (Kd.R_far (p := ⟨gb145, 1, none⟩) (Kd.R_far (p := ⟨gb145, 0, none⟩) (Kd.R_types HO_118001.out BK145.out (by decide)) (fun _ hk => hk.2) (.int .i64 t140)) (fun _ hk => hk.2) (.slice Ao124 t141.length co124)) (fun _ h_ => h_.1))) hb); have n2_ := Aside0.mk (Kd.R_below (by (with_reducible repeat (first | apply Kd.R_alloc | apply Kd.R_drewN | apply Kd.R_drew)); exact (Kd.R_mono (Kd.R_far (p := ⟨gb145, 1, none⟩) (Kd.R_far (p := ⟨gb145, 0, none⟩) (Kd.R_types HO_124001.out BK145.out (by decide)) (fun _ hk => hk.2) (.int .i64 t140)) (fun _ hk => hk.2) (.slice Ao124 t141.length co124)) (fun _ h_ => h_.1))) hb); have n3_ := Aside0.mk (Kd.R_below (by (with_reducible repeat (first | apply Kd.R_alloc | apply Kd.R_drewN | apply Kd.R_drew)); exact (Kd.R_mono (Kd.R_far (p := ⟨gb145, 1, none⟩) (Kd.R_far (p := ⟨gb145, 0, none⟩) (Kd.R_types HO139.out BK145.out (by decide)) (fun _ hk => hk.2) (.int .i64 t140)) (fun _ hk => hk.2) (.slice Ao124 t141.length co124)) (fun _ h_ => h_.1))) hb); have n4_ := Aside0.mk (Kd.R_below (by (with_reducible repeat (first | apply Kd.R_alloc | apply Kd.R_drewN | apply Kd.R_drew)); exact (Kd.R_mono (Kd.R_far (p := ⟨gb145, 1, none⟩) (Kd.R_far (p := ⟨gb145, 0, none⟩) (Kd.R_types HO143.out BK145.out (by decide)) (fun _ hk => hk.2) (.int .i64 t140)) (fun _ hk => hk.2) (.slice Ao124 t141.length co124)) (fun _ h_ => h_.1))) hb); have n5_ := Aside0.mk (blk_below (g := gb101) (o := .cells #[.int .i64 a1_0, .slice A1_1 l1_1.length c1_1] 24 (0, 0)) (by (with_reducible repeat (first | refine blk_drewN ?_ _ | refine blk_drew ?_ | refine blk_alloc ?_ _)); refine blk_far ?_ NB101_145.out _; (with_reducible repeat (first | refine blk_drewN ?_ _ | refine blk_drew ?_ | refine blk_alloc ?_ _)); refine blk_far ?_ NB101_145.out _; (with_reducible repeat (first | refine blk_drewN ?_ _ | refine blk_drew ?_ | refine blk_alloc ?_ _)); exact BK101.out) hb); have n6_ := Aside0.mk (blk_below (g := gb112) (o := .cells #[.int .i64 t107, .slice Ao23 t108.length co23] 29 (0, 0)) (by (with_reducible repeat (first | refine blk_drewN ?_ _ | refine blk_drew ?_ | refine blk_alloc ?_ _)); refine blk_far ?_ NB112_145.out _; (with_reducible repeat (first | refine blk_drewN ?_ _ | refine blk_drew ?_ | refine blk_alloc ?_ _)); refine blk_far ?_ NB112_145.out _; (with_reducible repeat (first | refine blk_drewN ?_ _ | refine blk_drew ?_ | refine blk_alloc ?_ _)); exact BK112.out) hb); have n7_ := Aside0.mk (blk_below (g := gb117) (o := .cells #[.int .i64 t113, .slice Ao30 t131.length co30] 29 (0, 0)) (by (with_reducible repeat (first | refine blk_drewN ?_ _ | refine blk_drew ?_ | refine blk_alloc ?_ _)); refine blk_far ?_ NB117_145.out _; (with_reducible repeat (first | refine blk_drewN ?_ _ | refine blk_drew ?_ | refine blk_alloc ?_ _)); refine blk_far ?_ NB117_145.out _; (with_reducible repeat (first | refine blk_drewN ?_ _ | refine blk_drew ?_ | refine blk_alloc ?_ _)); exact BK117.out) hb); have n8_ := Aside0.mk (blk_below (g := gb123) (o := .cells #[.int .i64 t118, .slice Ao37 t119.length co37] 29 (0, 0)) (by (with_reducible repeat (first | refine blk_drewN ?_ _ | refine blk_drew ?_ | refine blk_alloc ?_ _)); refine blk_far ?_ NB123_145.out _; (with_reducible repeat (first | refine blk_drewN ?_ _ | refine blk_drew ?_ | refine blk_alloc ?_ _)); refine blk_far ?_ NB123_145.out _; (with_reducible repeat (first | refine blk_drewN ?_ _ | refine blk_drew ?_ | refine blk_alloc ?_ _)); exact BK123.out) hb); have n9_ := Aside0.mk (blk_below (g := gb145) (o := .cells #[.int .i64 t140, .slice Ao124 t141.length co124] 29 (0, 0)) (by (with_reducible repeat (first | refine blk_drewN ?_ _ | refine blk_drew ?_ | refine blk_alloc ?_ _)); refine blk_put (cs := #[.int .i64 t140, .slice none 0 0]) ?_ 1 _ rfl; (with_reducible repeat (first | refine blk_drewN ?_ _ | refine blk_drew ?_ | refine blk_alloc ?_ _)); refine blk_put (cs := #[.int .i64 0, .slice none 0 0]) ?_ 0 _ rfl; (with_reducible repeat (first | refine blk_drewN ?_ _ | refine blk_drew ?_ | refine blk_alloc ?_ _)); exact BK145.out) hb); have n10_ := Aside0.mk (below_step (by repeat (first | (with_reducible first | exact HB.out | apply below_alloc | apply pw_below_drewN | apply below_drew1 | refine below_set ?_ GE101.out | refine below_set ?_ GE112.out | refine below_set ?_ GE117.out | refine below_set ?_ GE123.out | refine below_set ?_ GE145.out) | exact HB.out)) hb); clear HO_113001; clear HO_118001; clear HO_124001; clear HO139; clear HO143; clear BK101; clear BK112; clear BK117; clear BK123; clear BK145; clear HB; have HO_113001 := n0_; have HO_118001 := n1_; have HO_124001 := n2_; have HO139 := n3_; have HO143 := n4_; have BK101 := n5_; have BK112 := n6_; have BK117 := n7_; have BK123 := n8_; have BK145 := n9_; have HB := n10_; clear n0_ n1_ n2_ n3_ n4_ n5_ n6_ n7_ n8_ n9_ n10_; (try clear hb); (try clear hb2); (try clear hk); (try clear hi)))
                          go_meet
                          case rel => exact ⟨_, ((t144 != t111)), (by first | rfl | (simp; done) | (simp [*]; done)), H', ⟨by have := HJ11.out; have := HJ60.out; first | omega | exact Nat.le_refl _⟩, ⟨by (try simp only [hl118001_60]); (with_reducible repeat (first | apply Kd.R_alloc | apply Kd.R_drewN | apply Kd.R_drew)); exact Kd.R_mono HO_113001.out (fun _ hk => ⟨hk.1.1.1, ⟨hk.1.1.2, hk.2⟩⟩)⟩, ⟨by (try simp only [hl118001_60]); (with_reducible repeat (first | apply Kd.R_alloc | apply Kd.R_drewN | apply Kd.R_drew)); exact Kd.R_mono HO_118001.out (fun _ hk => ⟨hk.1.1.1, ⟨hk.1.1.2, hk.2⟩⟩)⟩, ⟨by (try simp only [hl118001_60]); (with_reducible repeat (first | apply Kd.R_alloc | apply Kd.R_drewN | apply Kd.R_drew)); exact Kd.R_mono HO_124001.out (fun _ hk => ⟨hk.1.1.1, ⟨hk.1.1.2, hk.2⟩⟩)⟩, ⟨by (try simp only [hl118001_60]); (with_reducible repeat (first | apply Kd.R_alloc | apply Kd.R_drewN | apply Kd.R_drew)); exact Kd.R_mono HO143.out (fun _ hk => ⟨hk.1.1.1.2, ⟨hk.1.1.2, hk.1.2⟩⟩)⟩, ⟨by (try simp only [hl118001_60]); (with_reducible repeat (first | refine blk_drewN ?_ _ | refine blk_drew ?_ | refine blk_alloc ?_ _)); exact BK101.out⟩, ⟨by (try simp only [hl118001_60]); (with_reducible repeat (first | refine blk_drewN ?_ _ | refine blk_drew ?_ | refine blk_alloc ?_ _)); exact BK112.out⟩, ⟨by (try simp only [hl118001_60]); (with_reducible repeat (first | refine blk_drewN ?_ _ | refine blk_drew ?_ | refine blk_alloc ?_ _)); exact BK117.out⟩, ⟨by (try simp only [hl118001_60]); (with_reducible repeat (first | refine blk_drewN ?_ _ | refine blk_drew ?_ | refine blk_alloc ?_ _)); exact BK123.out⟩, ⟨by (try simp only [hl118001_60]); (with_reducible repeat (first | refine blk_drewN ?_ _ | refine blk_drew ?_ | refine blk_alloc ?_ _)); exact BK145.out⟩, ⟨by repeat (first | (with_reducible first | exact HB.out | apply below_alloc | apply pw_below_drewN | apply below_drew1 | refine below_set ?_ GE101.out | refine below_set ?_ GE112.out | refine below_set ?_ GE117.out | refine below_set ?_ GE123.out | refine below_set ?_ GE145.out) | exact HB.out)⟩⟩
                        · replace c126 := Bool.eq_false_iff.mpr c126
                          subst c126
                          have H1 : (laws_FnExactNotDiagram.j2 kj60 t133 true t118 t134) = some r := by rw [if_neg (show ¬ (false = true) by decide)] at H; exact H
                          clear H
                          have H := H1
                          clear H1
                          have H' := Aside0.mk H
                          clear H
                          have hnb137 := NB145_101.out
                          have hnc137 := NB101_145.out
                          have hnb138 := NB145_112.out
                          have hnc138 := NB112_145.out
                          have hnb139 := NB145_117.out
                          have hnc139 := NB117_145.out
                          have hnb140 := NB145_123.out
                          have hnc140 := NB123_145.out
                          have hcz141_0 : w118.cell? ⟨gb145, 0, none⟩ = some (.int .i64 0) := (blk_cell BK145.out 0).trans rfl
                          have hcz141_1 : w118.cell? ⟨gb145, 1, none⟩ = some (.slice none 0 0) := (blk_cell BK145.out 1).trans rfl
                          have hfz141_0 := blk_frozen BK145.out 0
                          have hfz141_1 := blk_frozen BK145.out 1
                          have hnb142 := NB112_101.out
                          have hnc142 := NB101_112.out
                          have hnb143 := NB112_117.out
                          have hnc143 := NB117_112.out
                          have hnb144 := NB112_123.out
                          have hnc144 := NB123_112.out
                          have hcz145_0 : w118.cell? ⟨gb112, 0, none⟩ = some (.int .i64 t107) := (blk_cell BK112.out 0).trans rfl
                          have hcz145_1 : w118.cell? ⟨gb112, 1, none⟩ = some (.slice Ao23 t108.length co23) := (blk_cell BK112.out 1).trans rfl
                          have hfz145_0 := blk_frozen BK112.out 0
                          have hfz145_1 := blk_frozen BK112.out 1
                          go_wp2_with (first | ((with_reducible refine gate_callee (f := 18) rfl ?_); refine goesL_ (some 86) rfl rfl Try.func18 (by kernel_rfl) rfl #[.agg #[.int .i64 t140, .slice Ao124 t141.length co124], .agg #[.int .i64 t107, .slice Ao23 t108.length co23]] rfl (by (try simp only [List.map_toArray, List.map_cons, List.map_nil]); first | done | rfl | (simp only [List.length_drop, List.length_take]; rfl)) ?_; (with_reducible refine (laws_eqDiagram.calls kj60 t140 _ _ t141 t107 _ _ t108 false _ ?side1 ?side2 ?side3 ?side4 A125.out).mono ?_); (case side1 => refine (Kd.R_reads' (e := 97) (base := w.heap.size) (ok := fun k_ => ((((True ∧ some k_ ≠ (.slice Ao23 t108.length co23 : Value).ownBlock) ∧ some k_ ≠ (.slice Ao30 t131.length co30 : Value).ownBlock) ∧ some k_ ≠ (.slice Ao37 t119.length co37 : Value).ownBlock) ∧ some k_ ≠ (.slice Ao116 t137.length co116 : Value).ownBlock)) (n := t141.length) (c := co124) ?_).2.2; exact (by (with_reducible repeat (first | apply Kd.R_alloc | apply Kd.R_drewN | apply Kd.R_drew)); exact (Kd.R_mono (Kd.R_far (p := ⟨gb145, 1, none⟩) (Kd.R_far (p := ⟨gb145, 0, none⟩) (Kd.R_types HO143.out BK145.out (by decide)) (fun _ hk => hk.2) (.int .i64 t140)) (fun _ hk => hk.2) (.slice Ao124 t141.length co124)) (fun _ h_ => h_.1)))); (case side2 => exact (Kd.R_reads' HO143.out).2.1); (case side3 => refine (Kd.R_reads' (e := 97) (base := w.heap.size) (ok := fun k_ => (((some k_ ≠ (.slice Ao30 t131.length co30 : Value).ownBlock ∧ some k_ ≠ (.slice Ao37 t119.length co37 : Value).ownBlock) ∧ some k_ ≠ (.slice Ao116 t137.length co116 : Value).ownBlock) ∧ some k_ ≠ (.slice Ao124 t141.length co124 : Value).ownBlock)) (n := t108.length) (c := co23) ?_).2.2; exact (by (with_reducible repeat (first | apply Kd.R_alloc | apply Kd.R_drewN | apply Kd.R_drew)); exact (Kd.R_mono (Kd.R_far (p := ⟨gb145, 1, none⟩) (Kd.R_far (p := ⟨gb145, 0, none⟩) (Kd.R_types HO_113001.out BK145.out (by decide)) (fun _ hk => hk.2) (.int .i64 t140)) (fun _ hk => hk.2) (.slice Ao124 t141.length co124)) (fun _ h_ => h_.1)))); (case side4 => exact (Kd.R_reads' HO_113001.out).2.1); rintro e w146 ⟨rfl, hb⟩; refine ⟨_, rfl, ?_⟩; have n0_ := Aside0.mk (Kd.R_below (by (with_reducible repeat (first | apply Kd.R_alloc | apply Kd.R_drewN | apply Kd.R_drew)); exact (Kd.R_mono (Kd.R_far (p := ⟨gb145, 1, none⟩) (Kd.R_far (p := ⟨gb145, 0, none⟩) (Kd.R_types HO_113001.out BK145.out (by decide)) (fun _ hk => hk.2) (.int .i64 t140)) (fun _ hk => hk.2) (.slice Ao124 t141.length co124)) (fun _ h_ => h_.1))) hb); have n1_ := Aside0.mk (Kd.R_below (by (with_reducible repeat (first | apply Kd.R_alloc | apply Kd.R_drewN | apply Kd.R_drew)); exact (Kd.R_mono (Kd.R_far (p := ⟨gb145, 1, none⟩) (Kd.R_far (p := ⟨gb145, 0, none⟩) (Kd.R_types HO_118001.out BK145.out (by decide)) (fun _ hk => hk.2) (.int .i64 t140)) (fun _ hk => hk.2) (.slice Ao124 t141.length co124)) (fun _ h_ => h_.1))) hb); have n2_ := Aside0.mk (Kd.R_below (by (with_reducible repeat (first | apply Kd.R_alloc | apply Kd.R_drewN | apply Kd.R_drew)); exact (Kd.R_mono (Kd.R_far (p := ⟨gb145, 1, none⟩) (Kd.R_far (p := ⟨gb145, 0, none⟩) (Kd.R_types HO_124001.out BK145.out (by decide)) (fun _ hk => hk.2) (.int .i64 t140)) (fun _ hk => hk.2) (.slice Ao124 t141.length co124)) (fun _ h_ => h_.1))) hb); have n3_ := Aside0.mk (Kd.R_below (by (with_reducible repeat (first | apply Kd.R_alloc | apply Kd.R_drewN | apply Kd.R_drew)); exact (Kd.R_mono (Kd.R_far (p := ⟨gb145, 1, none⟩) (Kd.R_far (p := ⟨gb145, 0, none⟩) (Kd.R_types HO139.out BK145.out (by decide)) (fun _ hk => hk.2) (.int .i64 t140)) (fun _ hk => hk.2) (.slice Ao124 t141.length co124)) (fun _ h_ => h_.1))) hb); have n4_ := Aside0.mk (Kd.R_below (by (with_reducible repeat (first | apply Kd.R_alloc | apply Kd.R_drewN | apply Kd.R_drew)); exact (Kd.R_mono (Kd.R_far (p := ⟨gb145, 1, none⟩) (Kd.R_far (p := ⟨gb145, 0, none⟩) (Kd.R_types HO143.out BK145.out (by decide)) (fun _ hk => hk.2) (.int .i64 t140)) (fun _ hk => hk.2) (.slice Ao124 t141.length co124)) (fun _ h_ => h_.1))) hb); have n5_ := Aside0.mk (blk_below (g := gb101) (o := .cells #[.int .i64 a1_0, .slice A1_1 l1_1.length c1_1] 24 (0, 0)) (by (with_reducible repeat (first | refine blk_drewN ?_ _ | refine blk_drew ?_ | refine blk_alloc ?_ _)); refine blk_far ?_ NB101_145.out _; (with_reducible repeat (first | refine blk_drewN ?_ _ | refine blk_drew ?_ | refine blk_alloc ?_ _)); refine blk_far ?_ NB101_145.out _; (with_reducible repeat (first | refine blk_drewN ?_ _ | refine blk_drew ?_ | refine blk_alloc ?_ _)); exact BK101.out) hb); have n6_ := Aside0.mk (blk_below (g := gb112) (o := .cells #[.int .i64 t107, .slice Ao23 t108.length co23] 29 (0, 0)) (by (with_reducible repeat (first | refine blk_drewN ?_ _ | refine blk_drew ?_ | refine blk_alloc ?_ _)); refine blk_far ?_ NB112_145.out _; (with_reducible repeat (first | refine blk_drewN ?_ _ | refine blk_drew ?_ | refine blk_alloc ?_ _)); refine blk_far ?_ NB112_145.out _; (with_reducible repeat (first | refine blk_drewN ?_ _ | refine blk_drew ?_ | refine blk_alloc ?_ _)); exact BK112.out) hb); have n7_ := Aside0.mk (blk_below (g := gb117) (o := .cells #[.int .i64 t113, .slice Ao30 t131.length co30] 29 (0, 0)) (by (with_reducible repeat (first | refine blk_drewN ?_ _ | refine blk_drew ?_ | refine blk_alloc ?_ _)); refine blk_far ?_ NB117_145.out _; (with_reducible repeat (first | refine blk_drewN ?_ _ | refine blk_drew ?_ | refine blk_alloc ?_ _)); refine blk_far ?_ NB117_145.out _; (with_reducible repeat (first | refine blk_drewN ?_ _ | refine blk_drew ?_ | refine blk_alloc ?_ _)); exact BK117.out) hb); have n8_ := Aside0.mk (blk_below (g := gb123) (o := .cells #[.int .i64 t118, .slice Ao37 t119.length co37] 29 (0, 0)) (by (with_reducible repeat (first | refine blk_drewN ?_ _ | refine blk_drew ?_ | refine blk_alloc ?_ _)); refine blk_far ?_ NB123_145.out _; (with_reducible repeat (first | refine blk_drewN ?_ _ | refine blk_drew ?_ | refine blk_alloc ?_ _)); refine blk_far ?_ NB123_145.out _; (with_reducible repeat (first | refine blk_drewN ?_ _ | refine blk_drew ?_ | refine blk_alloc ?_ _)); exact BK123.out) hb); have n9_ := Aside0.mk (blk_below (g := gb145) (o := .cells #[.int .i64 t140, .slice Ao124 t141.length co124] 29 (0, 0)) (by (with_reducible repeat (first | refine blk_drewN ?_ _ | refine blk_drew ?_ | refine blk_alloc ?_ _)); refine blk_put (cs := #[.int .i64 t140, .slice none 0 0]) ?_ 1 _ rfl; (with_reducible repeat (first | refine blk_drewN ?_ _ | refine blk_drew ?_ | refine blk_alloc ?_ _)); refine blk_put (cs := #[.int .i64 0, .slice none 0 0]) ?_ 0 _ rfl; (with_reducible repeat (first | refine blk_drewN ?_ _ | refine blk_drew ?_ | refine blk_alloc ?_ _)); exact BK145.out) hb); have n10_ := Aside0.mk (below_step (by repeat (first | (with_reducible first | exact HB.out | apply below_alloc | apply pw_below_drewN | apply below_drew1 | refine below_set ?_ GE101.out | refine below_set ?_ GE112.out | refine below_set ?_ GE117.out | refine below_set ?_ GE123.out | refine below_set ?_ GE145.out) | exact HB.out)) hb); clear HO_113001; clear HO_118001; clear HO_124001; clear HO139; clear HO143; clear BK101; clear BK112; clear BK117; clear BK123; clear BK145; clear HB; have HO_113001 := n0_; have HO_118001 := n1_; have HO_124001 := n2_; have HO139 := n3_; have HO143 := n4_; have BK101 := n5_; have BK112 := n6_; have BK117 := n7_; have BK123 := n8_; have BK145 := n9_; have HB := n10_; clear n0_ n1_ n2_ n3_ n4_ n5_ n6_ n7_ n8_ n9_ n10_; (try clear hb); (try clear hb2); (try clear hk); (try clear hi)))
                          go_meet
                          case rel => exact ⟨_, (true), (by first | rfl | (simp; done) | (simp [*]; done)), H', ⟨by have := HJ11.out; have := HJ60.out; first | omega | exact Nat.le_refl _⟩, ⟨by (try simp only [hl118001_60]); (with_reducible repeat (first | apply Kd.R_alloc | apply Kd.R_drewN | apply Kd.R_drew)); exact Kd.R_mono HO_113001.out (fun _ hk => ⟨hk.1.1.1, ⟨hk.1.1.2, hk.2⟩⟩)⟩, ⟨by (try simp only [hl118001_60]); (with_reducible repeat (first | apply Kd.R_alloc | apply Kd.R_drewN | apply Kd.R_drew)); exact Kd.R_mono HO_118001.out (fun _ hk => ⟨hk.1.1.1, ⟨hk.1.1.2, hk.2⟩⟩)⟩, ⟨by (try simp only [hl118001_60]); (with_reducible repeat (first | apply Kd.R_alloc | apply Kd.R_drewN | apply Kd.R_drew)); exact Kd.R_mono HO_124001.out (fun _ hk => ⟨hk.1.1.1, ⟨hk.1.1.2, hk.2⟩⟩)⟩, ⟨by (try simp only [hl118001_60]); (with_reducible repeat (first | apply Kd.R_alloc | apply Kd.R_drewN | apply Kd.R_drew)); exact Kd.R_mono HO143.out (fun _ hk => ⟨hk.1.1.1.2, ⟨hk.1.1.2, hk.1.2⟩⟩)⟩, ⟨by (try simp only [hl118001_60]); (with_reducible repeat (first | refine blk_drewN ?_ _ | refine blk_drew ?_ | refine blk_alloc ?_ _)); exact BK101.out⟩, ⟨by (try simp only [hl118001_60]); (with_reducible repeat (first | refine blk_drewN ?_ _ | refine blk_drew ?_ | refine blk_alloc ?_ _)); exact BK112.out⟩, ⟨by (try simp only [hl118001_60]); (with_reducible repeat (first | refine blk_drewN ?_ _ | refine blk_drew ?_ | refine blk_alloc ?_ _)); exact BK117.out⟩, ⟨by (try simp only [hl118001_60]); (with_reducible repeat (first | refine blk_drewN ?_ _ | refine blk_drew ?_ | refine blk_alloc ?_ _)); exact BK123.out⟩, ⟨by (try simp only [hl118001_60]); (with_reducible repeat (first | refine blk_drewN ?_ _ | refine blk_drew ?_ | refine blk_alloc ?_ _)); exact BK145.out⟩, ⟨by repeat (first | (with_reducible first | exact HB.out | apply below_alloc | apply pw_below_drewN | apply below_drew1 | refine below_set ?_ GE101.out | refine below_set ?_ GE112.out | refine below_set ?_ GE117.out | refine below_set ?_ GE123.out | refine below_set ?_ GE145.out) | exact HB.out)⟩⟩
                      case rest =>
                        clear HC104
                        try clear c1
                        try clear c2
                        try clear p2
                        try clear c3
                        try clear c4
                        try clear c4b0
                        try clear c5
                        try clear c6
                        try clear c7
                        try clear c8
                        try clear c9
                        try clear c10
                        try clear c11
                        try clear c12
                        try clear c13
                        try clear c14
                        try clear c16
                        try clear c18
                        try clear c21
                        try clear c27
                        try clear c28
                        try clear c33
                        try clear c34
                        try clear c35
                        try clear c38
                        try clear c39
                        try clear c40
                        try clear c41
                        try clear c42
                        try clear c44
                        try clear c45
                        try clear c48
                        try clear c49
                        try clear c50
                        try clear c52
                        try clear c53
                        try clear c56
                        try clear c59
                        try clear c66
                        try clear c67
                        try clear c68
                        try clear c71
                        try clear c71b0
                        try clear c73
                        try clear c74
                        try clear c75
                        try clear c76
                        try clear c78
                        try clear c79
                        try clear c82
                        try clear c83
                        try clear c84
                        try clear c86
                        try clear c87
                        try clear c90
                        try clear c93
                        try clear c93b0
                        try clear c94
                        try clear c95
                        try clear c96
                        try clear c101
                        try clear c101b0
                        try clear c101b1
                        try clear c105
                        try clear c106
                        try clear c107
                        try clear c112
                        try clear c113
                        try clear c119
                        try clear c120
                        try clear c121
                        try clear c122
                        try clear c126
                        try clear c127
                        try clear c128
                        try clear c129
                        try clear c130
                        try clear c132
                        try clear c133
                        try clear c134
                        try clear c137
                        try clear c138
                        try clear c139
                        try clear c140
                        try clear c142
                        try clear c143
                        try clear c144
                        try clear hcz108_0
                        try clear hcz108_1
                        try clear hcz110_0
                        try clear hcz110_1
                        try clear hcz114_0
                        try clear hcz114_1
                        try clear hcz123_0
                        try clear hcz123_1
                        try clear hcz131_0
                        try clear hcz131_1
                        try clear hcz135_0
                        try clear hcz135_1
                        try clear hcz141_0
                        try clear hcz141_1
                        try clear hcz145_0
                        try clear hcz145_1
                        try clear hcz14_0
                        try clear hcz14_1
                        try clear hcz16_0
                        try clear hcz16_1
                        try clear hcz22_0
                        try clear hcz22_1
                        try clear hcz24_0
                        try clear hcz24_1
                        try clear hcz29_0
                        try clear hcz29_1
                        try clear hcz36_0
                        try clear hcz36_1
                        try clear hcz43_0
                        try clear hcz43_1
                        try clear hcz46_0
                        try clear hcz46_1
                        try clear hcz51_0
                        try clear hcz51_1
                        try clear hcz54_0
                        try clear hcz54_1
                        try clear hcz69_0
                        try clear hcz69_1
                        try clear hcz6_0
                        try clear hcz6_1
                        try clear hcz77_0
                        try clear hcz77_1
                        try clear hcz80_0
                        try clear hcz80_1
                        try clear hcz85_0
                        try clear hcz85_1
                        try clear hcz88_0
                        try clear hcz88_1
                        try clear hcz97_0
                        try clear hcz97_1
                        try clear hcz99_0
                        try clear hcz99_1
                        try clear hfz108_0
                        try clear hfz108_1
                        try clear hfz110_0
                        try clear hfz110_1
                        try clear hfz114_0
                        try clear hfz114_1
                        try clear hfz123_0
                        try clear hfz123_1
                        try clear hfz131_0
                        try clear hfz131_1
                        try clear hfz135_0
                        try clear hfz135_1
                        try clear hfz141_0
                        try clear hfz141_1
                        try clear hfz145_0
                        try clear hfz145_1
                        try clear hfz14_0
                        try clear hfz14_1
                        try clear hfz16_0
                        try clear hfz16_1
                        try clear hfz22_0
                        try clear hfz22_1
                        try clear hfz24_0
                        try clear hfz24_1
                        try clear hfz29_0
                        try clear hfz29_1
                        try clear hfz36_0
                        try clear hfz36_1
                        try clear hfz43_0
                        try clear hfz43_1
                        try clear hfz46_0
                        try clear hfz46_1
                        try clear hfz51_0
                        try clear hfz51_1
                        try clear hfz54_0
                        try clear hfz54_1
                        try clear hfz69_0
                        try clear hfz69_1
                        try clear hfz6_0
                        try clear hfz6_1
                        try clear hfz77_0
                        try clear hfz77_1
                        try clear hfz80_0
                        try clear hfz80_1
                        try clear hfz85_0
                        try clear hfz85_1
                        try clear hfz88_0
                        try clear hfz88_1
                        try clear hfz97_0
                        try clear hfz97_1
                        try clear hfz99_0
                        try clear hfz99_1
                        try clear p2
                        obtain ⟨kq, x92_103, rfl, HA, HJ103, HO_113001, HO_118001, HO_124001, HO_146001, BK101, BK112, BK117, BK123, BK145, HB⟩ := hcut
                        have hl124001_103 := (Kd.R_reads' HO_124001.out).1
                        rw [hl124001_103] at HO_124001
                        (try simp only [hl124001_103])
                        (try simp only [hl124001_103] at BK101)
                        (try simp only [hl124001_103] at BK112)
                        (try simp only [hl124001_103] at BK117)
                        (try simp only [hl124001_103] at BK123)
                        (try simp only [hl124001_103] at BK145)
                        (try simp only [hl124001_103] at HO_113001)
                        (try simp only [hl124001_103] at HO_118001)
                        (try simp only [hl124001_103] at HO_146001)
                        cases kq with
                        | zero => exact absurd HA.out (by simp [laws_FnExactNotDiagram.j2])
                        | succ kj103 =>
                          have H := HA.out
                          clear HA
                          simp only [laws_FnExactNotDiagram.j2] at H
                          by_cases c147 : x92_103 = true
                          · subst c147
                            have H1 : (some false) = some r := by rw [if_pos rfl] at H; exact H
                            clear H
                            have H := H1
                            clear H1
                            obtain rfl := Option.some.inj H
                            go_wp2
                            go_ret
                            exact ⟨by first | rfl | (simp [errW_none, errW_some] <;> rfl) | (simp [*, errW_none, errW_some] <;> rfl), by repeat (first | (with_reducible first | exact HB.out | apply below_alloc | apply pw_below_drewN | apply below_drew1 | refine below_set ?_ GE101.out | refine below_set ?_ GE112.out | refine below_set ?_ GE117.out | refine below_set ?_ GE123.out | refine below_set ?_ GE145.out) | exact HB.out)⟩
                          · replace c147 := Bool.eq_false_iff.mpr c147
                            subst c147
                            have H1 : ((laws_heldDiagram.f kj103 t118 t134 1).bind fun t147 => (if t147 < 0 then (some false) else (if t147 = t133 then (some true) else (some false)))) = some r := by rw [if_neg (show ¬ (false = true) by decide)] at H; exact H
                            clear H
                            have H := H1
                            clear H1
                            replace H := Option.bind_eq_some_iff.mp H
                            obtain ⟨t147, A1480, H⟩ := H
                            replace H : (if t147 < 0 then (some false) else (if t147 = t133 then (some true) else (some false))) = some r := H
                            have A148 := Aside0.mk A1480
                            clear A1480
                            by_cases c149 : t147 < 0
                            · rw [if_pos c149] at H
                              have c149b0 : decide (t147 < 0) = true := decide_eq_true c149
                              clear c149
                              obtain rfl := Option.some.inj H
                              have hnb150 := NB123_101.out
                              have hnc150 := NB101_123.out
                              have hnb151 := NB123_112.out
                              have hnc151 := NB112_123.out
                              have hnb152 := NB123_117.out
                              have hnc152 := NB117_123.out
                              have hnb153 := NB123_145.out
                              have hnc153 := NB145_123.out
                              have hcz154_0 : wc.cell? ⟨gb123, 0, none⟩ = some (.int .i64 t118) := (blk_cell BK123.out 0).trans rfl
                              have hcz154_1 : wc.cell? ⟨gb123, 1, none⟩ = some (.slice Ao37 t134.length co37) := (blk_cell BK123.out 1).trans rfl
                              have hfz154_0 := blk_frozen BK123.out 0
                              have hfz154_1 := blk_frozen BK123.out 1
                              go_wp2_with (first | ((with_reducible refine gate_callee (f := 39) rfl ?_); refine goesL_ (some 95) rfl rfl Try.func39 (by kernel_rfl) rfl #[.agg #[.int .i64 t118, .slice Ao37 t134.length co37], .int .i64 1] rfl (by (try simp only [List.map_toArray, List.map_cons, List.map_nil]); first | done | rfl | (simp only [List.length_drop, List.length_take]; rfl)) ?_; (with_reducible refine (laws_heldDiagram.calls kj103 t118 _ _ t134 1 t147 _ ?side1 ?side2 A148.out).mono ?_); (case side1 => repeat (first | exact (Kd.R_reads' HO_124001.out).2.2 | (with_reducible refine Kd.C_alloc ?_ _) | (with_reducible refine Kd.C_drewN ?_ _) | (with_reducible refine Kd.C_drew ?_))); (case side2 => exact (Kd.R_reads' HO_124001.out).2.1); rintro e w155 ⟨rfl, hb⟩; refine ⟨_, rfl, ?_⟩; have n0_ := Aside0.mk (Kd.R_below (by (with_reducible repeat (first | apply Kd.R_alloc | apply Kd.R_drewN | apply Kd.R_drew)); exact HO_113001.out) hb); have n1_ := Aside0.mk (Kd.R_below (by (with_reducible repeat (first | apply Kd.R_alloc | apply Kd.R_drewN | apply Kd.R_drew)); exact HO_118001.out) hb); have n2_ := Aside0.mk (Kd.R_below (by (with_reducible repeat (first | apply Kd.R_alloc | apply Kd.R_drewN | apply Kd.R_drew)); exact HO_124001.out) hb); have n3_ := Aside0.mk (Kd.R_below (by (with_reducible repeat (first | apply Kd.R_alloc | apply Kd.R_drewN | apply Kd.R_drew)); exact HO_146001.out) hb); have n4_ := Aside0.mk (blk_below (g := gb101) (o := .cells #[.int .i64 a1_0, .slice A1_1 l1_1.length c1_1] 24 (0, 0)) (by (with_reducible repeat (first | refine blk_drewN ?_ _ | refine blk_drew ?_ | refine blk_alloc ?_ _)); exact BK101.out) hb); have n5_ := Aside0.mk (blk_below (g := gb112) (o := .cells #[.int .i64 t107, .slice Ao23 t108.length co23] 29 (0, 0)) (by (with_reducible repeat (first | refine blk_drewN ?_ _ | refine blk_drew ?_ | refine blk_alloc ?_ _)); exact BK112.out) hb); have n6_ := Aside0.mk (blk_below (g := gb117) (o := .cells #[.int .i64 t113, .slice Ao30 t131.length co30] 29 (0, 0)) (by (with_reducible repeat (first | refine blk_drewN ?_ _ | refine blk_drew ?_ | refine blk_alloc ?_ _)); exact BK117.out) hb); have n7_ := Aside0.mk (blk_below (g := gb123) (o := .cells #[.int .i64 t118, .slice Ao37 t134.length co37] 29 (0, 0)) (by (with_reducible repeat (first | refine blk_drewN ?_ _ | refine blk_drew ?_ | refine blk_alloc ?_ _)); exact BK123.out) hb); have n8_ := Aside0.mk (blk_below (g := gb145) (o := .cells #[.int .i64 t140, .slice Ao124 t141.length co124] 29 (0, 0)) (by (with_reducible repeat (first | refine blk_drewN ?_ _ | refine blk_drew ?_ | refine blk_alloc ?_ _)); exact BK145.out) hb); have n9_ := Aside0.mk (below_step (by repeat (first | (with_reducible first | exact HB.out | apply below_alloc | apply pw_below_drewN | apply below_drew1 | refine below_set ?_ GE101.out | refine below_set ?_ GE112.out | refine below_set ?_ GE117.out | refine below_set ?_ GE123.out | refine below_set ?_ GE145.out) | exact HB.out)) hb); clear HO_113001; clear HO_118001; clear HO_124001; clear HO_146001; clear BK101; clear BK112; clear BK117; clear BK123; clear BK145; clear HB; have HO_113001 := n0_; have HO_118001 := n1_; have HO_124001 := n2_; have HO_146001 := n3_; have BK101 := n4_; have BK112 := n5_; have BK117 := n6_; have BK123 := n7_; have BK145 := n8_; have HB := n9_; clear n0_ n1_ n2_ n3_ n4_ n5_ n6_ n7_ n8_ n9_; (try clear hb); (try clear hb2); (try clear hk); (try clear hi)))
                              go_ret
                              exact ⟨by first | rfl | (simp [errW_none, errW_some] <;> rfl) | (simp [*, errW_none, errW_some] <;> rfl), by repeat (first | (with_reducible first | exact HB.out | apply below_alloc | apply pw_below_drewN | apply below_drew1 | refine below_set ?_ GE101.out | refine below_set ?_ GE112.out | refine below_set ?_ GE117.out | refine below_set ?_ GE123.out | refine below_set ?_ GE145.out) | exact HB.out)⟩
                            · rw [if_neg c149] at H
                              have c149b0 : decide (t147 < 0) = false := decide_eq_false c149
                              clear c149
                              by_cases c156 : t147 = t133
                              · rw [if_pos c156] at H
                                have c156b0 : (t147 == t133) = true := beq_iff_eq.mpr c156
                                have c156b1 : (t147 != t133) = false := bne_eq_false_iff_eq.mpr c156
                                clear c156
                                obtain rfl := Option.some.inj H
                                have hnb157 := NB123_101.out
                                have hnc157 := NB101_123.out
                                have hnb158 := NB123_112.out
                                have hnc158 := NB112_123.out
                                have hnb159 := NB123_117.out
                                have hnc159 := NB117_123.out
                                have hnb160 := NB123_145.out
                                have hnc160 := NB145_123.out
                                have hcz161_0 : wc.cell? ⟨gb123, 0, none⟩ = some (.int .i64 t118) := (blk_cell BK123.out 0).trans rfl
                                have hcz161_1 : wc.cell? ⟨gb123, 1, none⟩ = some (.slice Ao37 t134.length co37) := (blk_cell BK123.out 1).trans rfl
                                have hfz161_0 := blk_frozen BK123.out 0
                                have hfz161_1 := blk_frozen BK123.out 1
                                go_wp2_with (first | ((with_reducible refine gate_callee (f := 39) rfl ?_); refine goesL_ (some 95) rfl rfl Try.func39 (by kernel_rfl) rfl #[.agg #[.int .i64 t118, .slice Ao37 t134.length co37], .int .i64 1] rfl (by (try simp only [List.map_toArray, List.map_cons, List.map_nil]); first | done | rfl | (simp only [List.length_drop, List.length_take]; rfl)) ?_; (with_reducible refine (laws_heldDiagram.calls kj103 t118 _ _ t134 1 t147 _ ?side1 ?side2 A148.out).mono ?_); (case side1 => repeat (first | exact (Kd.R_reads' HO_124001.out).2.2 | (with_reducible refine Kd.C_alloc ?_ _) | (with_reducible refine Kd.C_drewN ?_ _) | (with_reducible refine Kd.C_drew ?_))); (case side2 => exact (Kd.R_reads' HO_124001.out).2.1); rintro e w162 ⟨rfl, hb⟩; refine ⟨_, rfl, ?_⟩; have n0_ := Aside0.mk (Kd.R_below (by (with_reducible repeat (first | apply Kd.R_alloc | apply Kd.R_drewN | apply Kd.R_drew)); exact HO_113001.out) hb); have n1_ := Aside0.mk (Kd.R_below (by (with_reducible repeat (first | apply Kd.R_alloc | apply Kd.R_drewN | apply Kd.R_drew)); exact HO_118001.out) hb); have n2_ := Aside0.mk (Kd.R_below (by (with_reducible repeat (first | apply Kd.R_alloc | apply Kd.R_drewN | apply Kd.R_drew)); exact HO_124001.out) hb); have n3_ := Aside0.mk (Kd.R_below (by (with_reducible repeat (first | apply Kd.R_alloc | apply Kd.R_drewN | apply Kd.R_drew)); exact HO_146001.out) hb); have n4_ := Aside0.mk (blk_below (g := gb101) (o := .cells #[.int .i64 a1_0, .slice A1_1 l1_1.length c1_1] 24 (0, 0)) (by (with_reducible repeat (first | refine blk_drewN ?_ _ | refine blk_drew ?_ | refine blk_alloc ?_ _)); exact BK101.out) hb); have n5_ := Aside0.mk (blk_below (g := gb112) (o := .cells #[.int .i64 t107, .slice Ao23 t108.length co23] 29 (0, 0)) (by (with_reducible repeat (first | refine blk_drewN ?_ _ | refine blk_drew ?_ | refine blk_alloc ?_ _)); exact BK112.out) hb); have n6_ := Aside0.mk (blk_below (g := gb117) (o := .cells #[.int .i64 t113, .slice Ao30 t131.length co30] 29 (0, 0)) (by (with_reducible repeat (first | refine blk_drewN ?_ _ | refine blk_drew ?_ | refine blk_alloc ?_ _)); exact BK117.out) hb); have n7_ := Aside0.mk (blk_below (g := gb123) (o := .cells #[.int .i64 t118, .slice Ao37 t134.length co37] 29 (0, 0)) (by (with_reducible repeat (first | refine blk_drewN ?_ _ | refine blk_drew ?_ | refine blk_alloc ?_ _)); exact BK123.out) hb); have n8_ := Aside0.mk (blk_below (g := gb145) (o := .cells #[.int .i64 t140, .slice Ao124 t141.length co124] 29 (0, 0)) (by (with_reducible repeat (first | refine blk_drewN ?_ _ | refine blk_drew ?_ | refine blk_alloc ?_ _)); exact BK145.out) hb); have n9_ := Aside0.mk (below_step (by repeat (first | (with_reducible first | exact HB.out | apply below_alloc | apply pw_below_drewN | apply below_drew1 | refine below_set ?_ GE101.out | refine below_set ?_ GE112.out | refine below_set ?_ GE117.out | refine below_set ?_ GE123.out | refine below_set ?_ GE145.out) | exact HB.out)) hb); clear HO_113001; clear HO_118001; clear HO_124001; clear HO_146001; clear BK101; clear BK112; clear BK117; clear BK123; clear BK145; clear HB; have HO_113001 := n0_; have HO_118001 := n1_; have HO_124001 := n2_; have HO_146001 := n3_; have BK101 := n4_; have BK112 := n5_; have BK117 := n6_; have BK123 := n7_; have BK145 := n8_; have HB := n9_; clear n0_ n1_ n2_ n3_ n4_ n5_ n6_ n7_ n8_ n9_; (try clear hb); (try clear hb2); (try clear hk); (try clear hi)))
                                go_ret
                                exact ⟨by first | rfl | (simp [errW_none, errW_some] <;> rfl) | (simp [*, errW_none, errW_some] <;> rfl), by repeat (first | (with_reducible first | exact HB.out | apply below_alloc | apply pw_below_drewN | apply below_drew1 | refine below_set ?_ GE101.out | refine below_set ?_ GE112.out | refine below_set ?_ GE117.out | refine below_set ?_ GE123.out | refine below_set ?_ GE145.out) | exact HB.out)⟩
                              · rw [if_neg c156] at H
                                have c156b0 : (t147 == t133) = false := beq_eq_false_iff_ne.mpr c156
                                have c156b1 : (t147 != t133) = true := bne_iff_ne.mpr c156
                                obtain rfl := Option.some.inj H
                                have hnb163 := NB123_101.out
                                have hnc163 := NB101_123.out
                                have hnb164 := NB123_112.out
                                have hnc164 := NB112_123.out
                                have hnb165 := NB123_117.out
                                have hnc165 := NB117_123.out
                                have hnb166 := NB123_145.out
                                have hnc166 := NB145_123.out
                                have hcz167_0 : wc.cell? ⟨gb123, 0, none⟩ = some (.int .i64 t118) := (blk_cell BK123.out 0).trans rfl
                                have hcz167_1 : wc.cell? ⟨gb123, 1, none⟩ = some (.slice Ao37 t134.length co37) := (blk_cell BK123.out 1).trans rfl
                                have hfz167_0 := blk_frozen BK123.out 0
                                have hfz167_1 := blk_frozen BK123.out 1
                                go_wp2_with (first | ((with_reducible refine gate_callee (f := 39) rfl ?_); refine goesL_ (some 95) rfl rfl Try.func39 (by kernel_rfl) rfl #[.agg #[.int .i64 t118, .slice Ao37 t134.length co37], .int .i64 1] rfl (by (try simp only [List.map_toArray, List.map_cons, List.map_nil]); first | done | rfl | (simp only [List.length_drop, List.length_take]; rfl)) ?_; (with_reducible refine (laws_heldDiagram.calls kj103 t118 _ _ t134 1 t147 _ ?side1 ?side2 A148.out).mono ?_); (case side1 => repeat (first | exact (Kd.R_reads' HO_124001.out).2.2 | (with_reducible refine Kd.C_alloc ?_ _) | (with_reducible refine Kd.C_drewN ?_ _) | (with_reducible refine Kd.C_drew ?_))); (case side2 => exact (Kd.R_reads' HO_124001.out).2.1); rintro e w168 ⟨rfl, hb⟩; refine ⟨_, rfl, ?_⟩; have n0_ := Aside0.mk (Kd.R_below (by (with_reducible repeat (first | apply Kd.R_alloc | apply Kd.R_drewN | apply Kd.R_drew)); exact HO_113001.out) hb); have n1_ := Aside0.mk (Kd.R_below (by (with_reducible repeat (first | apply Kd.R_alloc | apply Kd.R_drewN | apply Kd.R_drew)); exact HO_118001.out) hb); have n2_ := Aside0.mk (Kd.R_below (by (with_reducible repeat (first | apply Kd.R_alloc | apply Kd.R_drewN | apply Kd.R_drew)); exact HO_124001.out) hb); have n3_ := Aside0.mk (Kd.R_below (by (with_reducible repeat (first | apply Kd.R_alloc | apply Kd.R_drewN | apply Kd.R_drew)); exact HO_146001.out) hb); have n4_ := Aside0.mk (blk_below (g := gb101) (o := .cells #[.int .i64 a1_0, .slice A1_1 l1_1.length c1_1] 24 (0, 0)) (by (with_reducible repeat (first | refine blk_drewN ?_ _ | refine blk_drew ?_ | refine blk_alloc ?_ _)); exact BK101.out) hb); have n5_ := Aside0.mk (blk_below (g := gb112) (o := .cells #[.int .i64 t107, .slice Ao23 t108.length co23] 29 (0, 0)) (by (with_reducible repeat (first | refine blk_drewN ?_ _ | refine blk_drew ?_ | refine blk_alloc ?_ _)); exact BK112.out) hb); have n6_ := Aside0.mk (blk_below (g := gb117) (o := .cells #[.int .i64 t113, .slice Ao30 t131.length co30] 29 (0, 0)) (by (with_reducible repeat (first | refine blk_drewN ?_ _ | refine blk_drew ?_ | refine blk_alloc ?_ _)); exact BK117.out) hb); have n7_ := Aside0.mk (blk_below (g := gb123) (o := .cells #[.int .i64 t118, .slice Ao37 t134.length co37] 29 (0, 0)) (by (with_reducible repeat (first | refine blk_drewN ?_ _ | refine blk_drew ?_ | refine blk_alloc ?_ _)); exact BK123.out) hb); have n8_ := Aside0.mk (blk_below (g := gb145) (o := .cells #[.int .i64 t140, .slice Ao124 t141.length co124] 29 (0, 0)) (by (with_reducible repeat (first | refine blk_drewN ?_ _ | refine blk_drew ?_ | refine blk_alloc ?_ _)); exact BK145.out) hb); have n9_ := Aside0.mk (below_step (by repeat (first | (with_reducible first | exact HB.out | apply below_alloc | apply pw_below_drewN | apply below_drew1 | refine below_set ?_ GE101.out | refine below_set ?_ GE112.out | refine below_set ?_ GE117.out | refine below_set ?_ GE123.out | refine below_set ?_ GE145.out) | exact HB.out)) hb); clear HO_113001; clear HO_118001; clear HO_124001; clear HO_146001; clear BK101; clear BK112; clear BK117; clear BK123; clear BK145; clear HB; have HO_113001 := n0_; have HO_118001 := n1_; have HO_124001 := n2_; have HO_146001 := n3_; have BK101 := n4_; have BK112 := n5_; have BK117 := n6_; have BK123 := n7_; have BK145 := n8_; have HB := n9_; clear n0_ n1_ n2_ n3_ n4_ n5_ n6_ n7_ n8_ n9_; (try clear hb); (try clear hb2); (try clear hk); (try clear hi)))
                                go_ret
                                exact ⟨by first | rfl | (simp [errW_none, errW_some] <;> rfl) | (simp [*, errW_none, errW_some] <;> rfl), by repeat (first | (with_reducible first | exact HB.out | apply below_alloc | apply pw_below_drewN | apply below_drew1 | refine below_set ?_ GE101.out | refine below_set ?_ GE112.out | refine below_set ?_ GE117.out | refine below_set ?_ GE123.out | refine below_set ?_ GE145.out) | exact HB.out)⟩
                    · rw [if_neg c101] at H
                      have c101b0 : (t135 == t133) = false := beq_eq_false_iff_ne.mpr c101
                      have c101b1 : (t135 != t133) = true := bne_iff_ne.mpr c101
                      obtain rfl := Option.some.inj H
                      have hnb169 := NB123_101.out
                      have hnc169 := NB101_123.out
                      have hnb170 := NB123_112.out
                      have hnc170 := NB112_123.out
                      have hnb171 := NB123_117.out
                      have hnc171 := NB117_123.out
                      have hcz172_0 : wc.cell? ⟨gb123, 0, none⟩ = some (.int .i64 t118) := (blk_cell BK123.out 0).trans rfl
                      have hcz172_1 : wc.cell? ⟨gb123, 1, none⟩ = some (.slice Ao37 t119.length co37) := (blk_cell BK123.out 1).trans rfl
                      have hfz172_0 := blk_frozen BK123.out 0
                      have hfz172_1 := blk_frozen BK123.out 1
                      go_wp2_with (first | ((with_reducible refine gate_callee (f := 38) rfl ?_); refine goesL_ (some 68) rfl rfl Try.func38 (by kernel_rfl) rfl #[.agg #[.int .i64 t118, .slice Ao37 t119.length co37], .int .i64 1] rfl (by (try simp only [List.map_toArray, List.map_cons, List.map_nil]); first | done | rfl | (simp only [List.length_drop, List.length_take]; rfl)) ?_; (with_reducible refine (laws_markDiagram.calls kj60 t118 (fun k_ => some k_ = (.slice Ao37 t119.length co37 : Value).ownBlock) (.slice Ao37 t119.length co37) t119 1 t133 t134 w _ ?side1 ?side2 A91.out).mono ?_); (case side1 => repeat (first | (with_reducible first | exact HB.out | apply below_alloc | apply pw_below_drewN | apply below_drew1 | refine below_set ?_ GE101.out | refine below_set ?_ GE112.out | refine below_set ?_ GE117.out | refine below_set ?_ GE123.out) | exact HB.out)); (case side2 => exact Kd.R_tight rfl HO_124001.out); rintro e w173 ⟨rfl, hy0, hb, hkp⟩; refine ⟨_, rfl, ?_⟩; have n0_ := Aside0.mk (Kd.R_mono (ok' := fun k_ => some k_ ≠ (.slice Ao30 t131.length co30 : Value).ownBlock ∧ some k_ ≠ (.slice Ao37 t119.length co37 : Value).ownBlock) (Kd.R_keptB (HO_113001.out) hkp (fun k_ hk_ hs_ => (hk_.2) hs_)) (fun k_ hk_ => ⟨hk_.1.1, hk_.1.2⟩)); have n1_ := Aside0.mk (Kd.R_mono (ok' := fun k_ => some k_ ≠ (.slice Ao23 t108.length co23 : Value).ownBlock ∧ some k_ ≠ (.slice Ao37 t119.length co37 : Value).ownBlock) (Kd.R_keptB (HO_118001.out) hkp (fun k_ hk_ hs_ => (hk_.2) hs_)) (fun k_ hk_ => ⟨hk_.1.1, hk_.1.2⟩)); have n2_ := Aside0.mk (Kd.R_reok rfl hy0 (fun k_ e_ => HO_124001.out.1 k_ e_)); have n3_ := Aside0.mk (blk_kept (by (with_reducible repeat (first | refine blk_drewN ?_ _ | refine blk_drew ?_ | refine blk_alloc ?_ _)); exact BK101.out) hkp (fun hs_ => (fun e_ => (Kd.R_ne HO_124001.out BK101.out (by decide)) e_) hs_)); have n4_ := Aside0.mk (blk_kept (by (with_reducible repeat (first | refine blk_drewN ?_ _ | refine blk_drew ?_ | refine blk_alloc ?_ _)); exact BK112.out) hkp (fun hs_ => (fun e_ => (Kd.R_ne HO_124001.out BK112.out (by decide)) e_) hs_)); have n5_ := Aside0.mk (blk_kept (by (with_reducible repeat (first | refine blk_drewN ?_ _ | refine blk_drew ?_ | refine blk_alloc ?_ _)); exact BK117.out) hkp (fun hs_ => (fun e_ => (Kd.R_ne HO_124001.out BK117.out (by decide)) e_) hs_)); have n6_ := Aside0.mk (blk_kept (by (with_reducible repeat (first | refine blk_drewN ?_ _ | refine blk_drew ?_ | refine blk_alloc ?_ _)); exact BK123.out) hkp (fun hs_ => (fun e_ => (Kd.R_ne HO_124001.out BK123.out (by decide)) e_) hs_)); have n7_ := Aside0.mk (hb); clear HO_113001; clear HO_118001; clear HO_124001; clear BK101; clear BK112; clear BK117; clear BK123; clear HB; have HO_113001 := n0_; have HO_118001 := n1_; have HO_124001 := n2_; have BK101 := n3_; have BK112 := n4_; have BK117 := n5_; have BK123 := n6_; have HB := n7_; clear n0_ n1_ n2_ n3_ n4_ n5_ n6_ n7_; (try clear hb); (try clear hkp); (try clear hy0); have hcz174_0 : w173.cell? ⟨gb123, 0, none⟩ = some (.int .i64 t118) := (blk_cell BK123.out 0).trans rfl; have hcz174_1 : w173.cell? ⟨gb123, 1, none⟩ = some (.slice Ao37 t119.length co37) := (blk_cell BK123.out 1).trans rfl; have hfz174_0 := blk_frozen BK123.out 0; have hfz174_1 := blk_frozen BK123.out 1) | ((with_reducible refine gate_callee (f := 39) rfl ?_); refine goesL_ (some 71) rfl rfl Try.func39 (by kernel_rfl) rfl #[.agg #[.int .i64 t118, .slice Ao37 t134.length co37], .int .i64 1] rfl (by (try simp only [List.map_toArray, List.map_cons, List.map_nil]); first | done | (rw [show t134.length = t119.length from (Kd.R_reads' HO_124001.out).1.symm] <;> rfl) | rfl | (simp only [List.length_drop, List.length_take]; rfl)) ?_; (with_reducible refine (laws_heldDiagram.calls kj60 t118 _ _ t134 1 t135 _ ?side1 ?side2 A92.out).mono ?_); (case side1 => repeat (first | exact (Kd.R_reads' HO_124001.out).2.2 | (with_reducible refine Kd.C_alloc ?_ _) | (with_reducible refine Kd.C_drewN ?_ _) | (with_reducible refine Kd.C_drew ?_))); (case side2 => rw [show t134.length = t119.length from (Kd.R_reads' HO_124001.out).1.symm]; exact (Kd.R_reads' HO_124001.out).2.1); rintro e w175 ⟨rfl, hb⟩; refine ⟨_, rfl, ?_⟩; have n0_ := Aside0.mk (Kd.R_below (by (with_reducible repeat (first | apply Kd.R_alloc | apply Kd.R_drewN | apply Kd.R_drew)); exact HO_113001.out) hb); have n1_ := Aside0.mk (Kd.R_below (by (with_reducible repeat (first | apply Kd.R_alloc | apply Kd.R_drewN | apply Kd.R_drew)); exact HO_118001.out) hb); have n2_ := Aside0.mk (Kd.R_below (by (with_reducible repeat (first | apply Kd.R_alloc | apply Kd.R_drewN | apply Kd.R_drew)); exact HO_124001.out) hb); have n3_ := Aside0.mk (blk_below (g := gb101) (o := .cells #[.int .i64 a1_0, .slice A1_1 l1_1.length c1_1] 24 (0, 0)) (by (with_reducible repeat (first | refine blk_drewN ?_ _ | refine blk_drew ?_ | refine blk_alloc ?_ _)); exact BK101.out) hb); have n4_ := Aside0.mk (blk_below (g := gb112) (o := .cells #[.int .i64 t107, .slice Ao23 t108.length co23] 29 (0, 0)) (by (with_reducible repeat (first | refine blk_drewN ?_ _ | refine blk_drew ?_ | refine blk_alloc ?_ _)); exact BK112.out) hb); have n5_ := Aside0.mk (blk_below (g := gb117) (o := .cells #[.int .i64 t113, .slice Ao30 t131.length co30] 29 (0, 0)) (by (with_reducible repeat (first | refine blk_drewN ?_ _ | refine blk_drew ?_ | refine blk_alloc ?_ _)); exact BK117.out) hb); have n6_ := Aside0.mk (blk_below (g := gb123) (o := .cells #[.int .i64 t118, .slice Ao37 t119.length co37] 29 (0, 0)) (by (with_reducible repeat (first | refine blk_drewN ?_ _ | refine blk_drew ?_ | refine blk_alloc ?_ _)); exact BK123.out) hb); have n7_ := Aside0.mk (below_step (by repeat (first | (with_reducible first | exact HB.out | apply below_alloc | apply pw_below_drewN | apply below_drew1 | refine below_set ?_ GE101.out | refine below_set ?_ GE112.out | refine below_set ?_ GE117.out | refine below_set ?_ GE123.out) | exact HB.out)) hb); clear HO_113001; clear HO_118001; clear HO_124001; clear BK101; clear BK112; clear BK117; clear BK123; clear HB; have HO_113001 := n0_; have HO_118001 := n1_; have HO_124001 := n2_; have BK101 := n3_; have BK112 := n4_; have BK117 := n5_; have BK123 := n6_; have HB := n7_; clear n0_ n1_ n2_ n3_ n4_ n5_ n6_ n7_; (try clear hb); (try clear hb2); (try clear hk); (try clear hi)))
                      go_ret
                      exact ⟨by first | rfl | (simp [errW_none, errW_some] <;> rfl) | (simp [*, errW_none, errW_some] <;> rfl), by repeat (first | (with_reducible first | exact HB.out | apply below_alloc | apply pw_below_drewN | apply below_drew1 | refine below_set ?_ GE101.out | refine below_set ?_ GE112.out | refine below_set ?_ GE117.out | refine below_set ?_ GE123.out) | exact HB.out)⟩
          · replace c59 := Bool.eq_false_iff.mpr c59
            subst c59
            have H1 : (some false) = some r := by rw [if_neg (show ¬ (false = true) by decide)] at H; exact H
            clear H
            have H := H1
            clear H1
            obtain rfl := Option.some.inj H
            try go_wp2
            have n0_ := Aside0.mk (Kd.R_drew HO_113001.out)
            have n1_ := Aside0.mk (Kd.R_drew HO_118001.out)
            have n2_ := Aside0.mk (Kd.R_drew HO_124001.out)
            have n3_ := Aside0.mk (blk_drew BK101.out)
            have n4_ := Aside0.mk (blk_drew BK112.out)
            have n5_ := Aside0.mk (blk_drew BK117.out)
            have n6_ := Aside0.mk (blk_drew BK123.out)
            have n7_ := Aside0.mk (below_drew1 HB.out)
            clear HO_113001
            clear HO_118001
            clear HO_124001
            clear BK101
            clear BK112
            clear BK117
            clear BK123
            clear HB
            have HO_113001 := n0_
            have HO_118001 := n1_
            have HO_124001 := n2_
            have BK101 := n3_
            have BK112 := n4_
            have BK117 := n5_
            have BK123 := n6_
            have HB := n7_
            clear n0_ n1_ n2_ n3_ n4_ n5_ n6_ n7_
            refine start_ (n := 5) (S := fun w' => w'.cell? ⟨gb117, 0, none⟩ = some (.int .i64 t113) ∧ w'.cell? ⟨gb117, 1, none⟩ = some (.slice Ao30 t114.length co30) ∧ w'.cell? ⟨gb101, 0, none⟩ = some (.int .i64 a1_0) ∧ w'.cell? ⟨gb101, 1, none⟩ = some (.slice A1_1 l1_1.length c1_1)) (ds := []) #[false, false, false, false, false] (by kernel_rfl) rfl rfl ⟨(blk_cell BK117.out 0).trans rfl, (blk_cell BK117.out 1).trans rfl, (blk_cell BK101.out 0).trans rfl, (blk_cell BK101.out 1).trans rfl⟩ (fun hHeld => ?_)
            generalize wc.drew = w176 at HO_113001 HO_118001 HO_124001 BK101 BK112 BK117 BK123 HB hHeld ⊢
            refine take_ (i := 0) (N := some 45) (v := ?_) (a' := ?_) #[true, false, false, false, false] rfl rfl (by kernel_rfl) (fun _ _ _ h => h) (Or.inl ⟨by rfl, ?_⟩) hHeld ?_ ?_
            rotate_left
            · rintro w' ⟨s0, s1, s2, s3⟩
              go_simp
              with_reducible rfl
            rotate_left
            · simp only [Act.put, List.setIfInBounds_toArray, List.set_cons_zero, List.set_cons_succ, i64_w, i32_w]
              rfl
            refine take_ (i := 1) (N := some 46) (v := ?_) (a' := ?_) #[true, true, false, false, false] rfl rfl (by kernel_rfl) (fun _ _ _ h => h) (Or.inl ⟨by rfl, ?_⟩) hHeld ?_ ?_
            rotate_left
            · rintro w' ⟨s0, s1, s2, s3⟩
              go_simp
              with_reducible rfl
            rotate_left
            · simp only [Act.put, List.setIfInBounds_toArray, List.set_cons_zero, List.set_cons_succ, i64_w, i32_w]
              rfl
            refine one_ (i := 2) (N := some 47) #[true, true, true, false, false] rfl rfl (by kernel_rfl) (by decide) (fun K hK => ?_)
            refine goes_ Try.func16 (by kernel_rfl) rfl #[.agg #[.int .i64 a1_0, .slice A1_1 l1_1.length c1_1]] (by rfl) rfl rfl (by (try simp only [List.map_toArray, List.map_cons, List.map_nil]); first | done | rfl | (simp only [List.length_drop, List.length_take]; rfl)) ?_
            with_reducible refine (laws_toDiagram.calls kj11 a1_0 _ _ l1_1 t125 t126 _ ?side1 ?side2 A57.out).mono ?_
            (case side1 => repeat (first | exact (Kd.C_below HR1_1.out HB.out) | (with_reducible refine Kd.C_alloc ?_ _) | (with_reducible refine Kd.C_drewN ?_ _) | (with_reducible refine Kd.C_drew ?_)))
            (case side2 => exact HC1_1.out)
            rintro e w177 ⟨v127, rfl, ho0, hb⟩
            refine ⟨_, rfl, ?_⟩
            have n0_ := Aside0.mk (Kd.R_elder' (by (with_reducible repeat (first | apply Kd.R_alloc | apply Kd.R_drewN | apply Kd.R_drew)); exact HO_113001.out) (Kd.R_base ho0) hb)
            have n1_ := Aside0.mk (Kd.R_elder' (by (with_reducible repeat (first | apply Kd.R_alloc | apply Kd.R_drewN | apply Kd.R_drew)); exact HO_118001.out) (Kd.R_base ho0) hb)
            have n2_ := Aside0.mk (Kd.R_elder' (by (with_reducible repeat (first | apply Kd.R_alloc | apply Kd.R_drewN | apply Kd.R_drew)); exact HO_124001.out) (Kd.R_base ho0) hb)
            have n3_ := Aside0.mk (Kd.R_lower (Kd.R_new' (Kd.R_new' (Kd.R_new' ho0 (Kd.R_lt (by (with_reducible repeat (first | apply Kd.R_alloc | apply Kd.R_drewN | apply Kd.R_drew)); exact HO_113001.out))) (Kd.R_lt (by (with_reducible repeat (first | apply Kd.R_alloc | apply Kd.R_drewN | apply Kd.R_drew)); exact HO_118001.out))) (Kd.R_lt (by (with_reducible repeat (first | apply Kd.R_alloc | apply Kd.R_drewN | apply Kd.R_drew)); exact HO_124001.out))) (below_size (by repeat (first | (with_reducible first | exact HB.out | apply below_alloc | apply pw_below_drewN | apply below_drew1 | refine below_set ?_ GE101.out | refine below_set ?_ GE112.out | refine below_set ?_ GE117.out | refine below_set ?_ GE123.out) | exact HB.out))))
            have n4_ := Aside0.mk (blk_below (g := gb101) (o := .cells #[.int .i64 a1_0, .slice A1_1 l1_1.length c1_1] 24 (0, 0)) (by (with_reducible repeat (first | refine blk_drewN ?_ _ | refine blk_drew ?_ | refine blk_alloc ?_ _)); exact BK101.out) hb)
            have n5_ := Aside0.mk (blk_below (g := gb112) (o := .cells #[.int .i64 t107, .slice Ao23 t108.length co23] 29 (0, 0)) (by (with_reducible repeat (first | refine blk_drewN ?_ _ | refine blk_drew ?_ | refine blk_alloc ?_ _)); exact BK112.out) hb)
            have n6_ := Aside0.mk (blk_below (g := gb117) (o := .cells #[.int .i64 t113, .slice Ao30 t114.length co30] 29 (0, 0)) (by (with_reducible repeat (first | refine blk_drewN ?_ _ | refine blk_drew ?_ | refine blk_alloc ?_ _)); exact BK117.out) hb)
            have n7_ := Aside0.mk (blk_below (g := gb123) (o := .cells #[.int .i64 t118, .slice Ao37 t119.length co37] 29 (0, 0)) (by (with_reducible repeat (first | refine blk_drewN ?_ _ | refine blk_drew ?_ | refine blk_alloc ?_ _)); exact BK123.out) hb)
            have n8_ := Aside0.mk (below_step (by repeat (first | (with_reducible first | exact HB.out | apply below_alloc | apply pw_below_drewN | apply below_drew1 | refine below_set ?_ GE101.out | refine below_set ?_ GE112.out | refine below_set ?_ GE117.out | refine below_set ?_ GE123.out) | exact HB.out)) hb)
            clear HO_113001
            clear HO_118001
            clear HO_124001
            clear BK101
            clear BK112
            clear BK117
            clear BK123
            clear HB
            have HO_113001 := n0_
            have HO_118001 := n1_
            have HO_124001 := n2_
            have HO128 := n3_
            have BK101 := n4_
            have BK112 := n5_
            have BK117 := n6_
            have BK123 := n7_
            have HB := n8_
            clear n0_ n1_ n2_ n3_ n4_ n5_ n6_ n7_ n8_
            (try clear hb)
            (try clear hb2)
            (try clear hk)
            (try clear hi)
            (try clear ho0)
            obtain ⟨Ao178, co178, eo178⟩ := Kd.R_slice HO128.out
            (first | subst eo178 | (injection eo178 with f1_ f2_ f3_; have f4_ := f1_.symm; have f5_ := f3_.symm; clear f1_ f2_ f3_; subst f4_; subst f5_))
            refine hK.out _ _ ⟨(blk_cell BK117.out 0).trans rfl, (blk_cell BK117.out 1).trans rfl, (blk_cell BK101.out 0).trans rfl, (blk_cell BK101.out 1).trans rfl⟩ (fun hHeld => ?_)
            clear hK K
            refine norm_ (a' := ?_) ?_ ?_
            rotate_left
            · show Act.put _ (some 47) _ = _
              simp only [Act.put, List.setIfInBounds_toArray, List.set_cons_zero, List.set_cons_succ, i64_w, i32_w]
              rfl
            refine one_ (i := 3) (N := some 48) #[true, true, true, true, false] rfl rfl (by kernel_rfl) (by decide) (fun K hK => ?_)
            refine goes_ Try.func18 (by kernel_rfl) rfl #[.agg #[.int .i64 t113, .slice Ao30 t114.length co30], .agg #[.int .i64 t125, .slice Ao178 t126.length co178]] (by rfl) rfl rfl (by (try simp only [List.map_toArray, List.map_cons, List.map_nil]); first | done | rfl | (simp only [List.length_drop, List.length_take]; rfl)) ?_
            with_reducible refine (laws_eqDiagram.calls kj11 t113 _ _ t114 t125 _ _ t126 false _ ?side1 ?side2 ?side3 ?side4 A58.out).mono ?_
            (case side1 => repeat (first | exact (Kd.R_reads' HO_118001.out).2.2 | (with_reducible refine Kd.C_alloc ?_ _) | (with_reducible refine Kd.C_drewN ?_ _) | (with_reducible refine Kd.C_drew ?_)))
            (case side2 => exact (Kd.R_reads' HO_118001.out).2.1)
            (case side3 => repeat (first | exact (Kd.R_reads' HO128.out).2.2 | (with_reducible refine Kd.C_alloc ?_ _) | (with_reducible refine Kd.C_drewN ?_ _) | (with_reducible refine Kd.C_drew ?_)))
            (case side4 => exact (Kd.R_reads' HO128.out).2.1)
            rintro e w179 ⟨rfl, hb⟩
            refine ⟨_, rfl, ?_⟩
            have n0_ := Aside0.mk (Kd.R_below (by (with_reducible repeat (first | apply Kd.R_alloc | apply Kd.R_drewN | apply Kd.R_drew)); exact HO_113001.out) hb)
            have n1_ := Aside0.mk (Kd.R_below (by (with_reducible repeat (first | apply Kd.R_alloc | apply Kd.R_drewN | apply Kd.R_drew)); exact HO_118001.out) hb)
            have n2_ := Aside0.mk (Kd.R_below (by (with_reducible repeat (first | apply Kd.R_alloc | apply Kd.R_drewN | apply Kd.R_drew)); exact HO_124001.out) hb)
            have n3_ := Aside0.mk (Kd.R_below (by (with_reducible repeat (first | apply Kd.R_alloc | apply Kd.R_drewN | apply Kd.R_drew)); exact HO128.out) hb)
            have n4_ := Aside0.mk (blk_below (g := gb101) (o := .cells #[.int .i64 a1_0, .slice A1_1 l1_1.length c1_1] 24 (0, 0)) (by (with_reducible repeat (first | refine blk_drewN ?_ _ | refine blk_drew ?_ | refine blk_alloc ?_ _)); exact BK101.out) hb)
            have n5_ := Aside0.mk (blk_below (g := gb112) (o := .cells #[.int .i64 t107, .slice Ao23 t108.length co23] 29 (0, 0)) (by (with_reducible repeat (first | refine blk_drewN ?_ _ | refine blk_drew ?_ | refine blk_alloc ?_ _)); exact BK112.out) hb)
            have n6_ := Aside0.mk (blk_below (g := gb117) (o := .cells #[.int .i64 t113, .slice Ao30 t114.length co30] 29 (0, 0)) (by (with_reducible repeat (first | refine blk_drewN ?_ _ | refine blk_drew ?_ | refine blk_alloc ?_ _)); exact BK117.out) hb)
            have n7_ := Aside0.mk (blk_below (g := gb123) (o := .cells #[.int .i64 t118, .slice Ao37 t119.length co37] 29 (0, 0)) (by (with_reducible repeat (first | refine blk_drewN ?_ _ | refine blk_drew ?_ | refine blk_alloc ?_ _)); exact BK123.out) hb)
            have n8_ := Aside0.mk (below_step (by repeat (first | (with_reducible first | exact HB.out | apply below_alloc | apply pw_below_drewN | apply below_drew1 | refine below_set ?_ GE101.out | refine below_set ?_ GE112.out | refine below_set ?_ GE117.out | refine below_set ?_ GE123.out) | exact HB.out)) hb)
            clear HO_113001
            clear HO_118001
            clear HO_124001
            clear HO128
            clear BK101
            clear BK112
            clear BK117
            clear BK123
            clear HB
            have HO_113001 := n0_
            have HO_118001 := n1_
            have HO_124001 := n2_
            have HO128 := n3_
            have BK101 := n4_
            have BK112 := n5_
            have BK117 := n6_
            have BK123 := n7_
            have HB := n8_
            clear n0_ n1_ n2_ n3_ n4_ n5_ n6_ n7_ n8_
            (try clear hb)
            (try clear hb2)
            (try clear hk)
            (try clear hi)
            refine hK.out _ _ ⟨(blk_cell BK117.out 0).trans rfl, (blk_cell BK117.out 1).trans rfl, (blk_cell BK101.out 0).trans rfl, (blk_cell BK101.out 1).trans rfl⟩ (fun hHeld => ?_)
            clear hK K
            refine norm_ (a' := ?_) ?_ ?_
            rotate_left
            · show Act.put _ (some 48) _ = _
              simp only [Act.put, List.setIfInBounds_toArray, List.set_cons_zero, List.set_cons_succ, i64_w, i32_w]
              rfl
            refine pure_ (i := 4) (N := some 49) (v := ?_) (a' := ?_) #[true, true, true, true, true] rfl rfl (by kernel_rfl) (fun _ _ _ h => h) (Or.inl ⟨by rfl, ?_⟩) ?_ ?_
            rotate_left
            · intro w'
              go_simp
              with_reducible rfl
            rotate_left
            · simp only [Act.put, List.setIfInBounds_toArray, List.set_cons_zero, List.set_cons_succ, i64_w, i32_w]
              rfl
            refine done_ (by kernel_rfl) ?_
            try go_wp2
            go_ret
            exact ⟨by first | rfl | (simp [errW_none, errW_some] <;> rfl) | (simp [*, errW_none, errW_some] <;> rfl), by repeat (first | (with_reducible first | exact HB.out | apply below_alloc | apply pw_below_drewN | apply below_drew1 | refine below_set ?_ GE101.out | refine below_set ?_ GE112.out | refine below_set ?_ GE117.out | refine below_set ?_ GE123.out) | exact HB.out)⟩

end Go.Proofs.Ytggjpogcimdepaa.Print
