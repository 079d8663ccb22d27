/- The law FnExactOrDiagrams holds: called with any arguments of its types it returns true and leaves them as they were. No conditions. (Written by xprint.py, a program of this session, out of the law's Pure and the printed contract; Lean checks it.) -/
import Derived.Test.YtggjpogcimdepaaJOrDiagramsa
import Derived.Test.YtggjpogcimdepaaJOrDiagramsb
import Derived.Test.YtggjpogcimdepaaJOrDiagramsd
import Derived.Test.YtggjpogcimdepaaJOrDiagramsf
import Derived.Deep.RegionHeld3
import Derived.Deep.DeepCutAuto
import Derived.Lib.Hide
import Derived.Test.YtggjpogcimdepaaJOrDiagramsc
import Derived.Test.YtggjpogcimdepaaJOrDiagramse
import Derived.Test.YtggjpogcimdepaaWWords
import Derived.Deep.Slices
import Derived.WideShapes
import Derived.Test.YtggjpogcimdepaaRows
import Derived.WalkKit
import Derived.ProofKit
import Derived.OpenShut
import Derived.ShutString
import Derived.ChangeOld
import Derived.Below
import Derived.SizedLaws
namespace Go.Proofs.Ytggjpogcimdepaa.GLaw
open Go.RowKit Go.Proofs.YtggjpogcimdepaaW.PrintWords Go.Proofs.YtggjpogcimdepaaW.PrintLast Go.Proofs.YtggjpogcimdepaaW.PrintMore Go.Proofs.Ytggjpogcimdepaa.Print Go.Proofs.Ytggjpogcimdepaa.XLaw
set_option linter.unusedVariables false
set_option linter.unusedSimpArgs false
set_option maxHeartbeats 16000000 in
set_option maxRecDepth 100000 in
theorem laws_FnExactOrDiagrams.no0 (a0 : Int) (a1_0 : Int) (A1_1 : Option Addr) (c1_1 : Nat) (l1_1 : List (S99)) (a2_0 : Int) (A2_1 : Option Addr) (c2_1 : Nat) (l2_1 : List (S99)) (n0 : Int) (S0 : Hid (laws_szDiagram.f a1_0 l1_1 1048576 = some n0))  (gn : n0 < 0) (w : World) (hr1_1 : Kd.C k99 w A1_1 l1_1.length l1_1) (hc1_1 : l1_1.length ≤ c1_1) (hr2_1 : Kd.C k99 w A2_1 l2_1.length l2_1) (hc2_1 : l2_1.length ≤ c2_1) :
    Calls Try.prog 12 #[.int .i64 a0, .agg #[.int .i64 a1_0, .slice A1_1 l1_1.length c1_1], .agg #[.int .i64 a2_0, .slice A2_1 l2_1.length c2_1]] w fun e w' => e = .returned (.bool true) ∧ Below w.heap.size w w' := by
  have HBw := Lib.hid (Below.refl w.heap.size w)
  have HA1_1 := Lib.hid hr1_1
  have HA2_1 := Lib.hid hr2_1
  clear hr1_1 hr2_1
  go_enter Try.func12, Try.ntmps12
  go_wp2_with fail
  (with_reducible refine (laws_szDiagram.calls _ _ _ _ _ _ _ ?hr0_1 ?hc0_1 S0.out).mono ?_)
  case hr0_1 => repeat (first | exact Kd.C_below HA1_1.out HBw.out | (with_reducible refine Kd.C_alloc ?_ _) | (with_reducible refine Kd.C_drewN ?_ _) | (with_reducible refine Kd.C_drew ?_))
  case hc0_1 => exact hc1_1
  rintro e W1 ⟨rfl, hb1⟩
  obtain ⟨x2, x3, hb4⟩ := box2 hb1
  have X5 := Lib.hid x2
  have X6 := Lib.hid x3
  have Z7 := Lib.hid hb4.size
  have Z8 := Lib.hid (blk_lt X5.out)
  have Z9 := Lib.hid (blk_lt X6.out)
  have HB10 := Lib.hid hb4
  clear x2 x3 hb4 hb1
  go_wp2_with fail
  go_ret
  exact ⟨rfl, HB10.out⟩
set_option maxHeartbeats 16000000 in
set_option maxRecDepth 100000 in
theorem laws_FnExactOrDiagrams.no1 (a0 : Int) (a1_0 : Int) (A1_1 : Option Addr) (c1_1 : Nat) (l1_1 : List (S99)) (a2_0 : Int) (A2_1 : Option Addr) (c2_1 : Nat) (l2_1 : List (S99)) (n0 : Int) (n1 : Int) (S0 : Hid (laws_szDiagram.f a1_0 l1_1 1048576 = some n0)) (S1 : Hid (laws_szDiagram.f a2_0 l2_1 n0 = some n1)) (g0 : 0 ≤ n0) (gn : n1 < 0) (w : World) (hr1_1 : Kd.C k99 w A1_1 l1_1.length l1_1) (hc1_1 : l1_1.length ≤ c1_1) (hr2_1 : Kd.C k99 w A2_1 l2_1.length l2_1) (hc2_1 : l2_1.length ≤ c2_1) :
    Calls Try.prog 12 #[.int .i64 a0, .agg #[.int .i64 a1_0, .slice A1_1 l1_1.length c1_1], .agg #[.int .i64 a2_0, .slice A2_1 l2_1.length c2_1]] w fun e w' => e = .returned (.bool true) ∧ Below w.heap.size w w' := by
  have HBw := Lib.hid (Below.refl w.heap.size w)
  have HA1_1 := Lib.hid hr1_1
  have HA2_1 := Lib.hid hr2_1
  clear hr1_1 hr2_1
  go_enter Try.func12, Try.ntmps12
  go_wp2_with fail
  (with_reducible refine (laws_szDiagram.calls _ _ _ _ _ _ _ ?hr0_1 ?hc0_1 S0.out).mono ?_)
  case hr0_1 => repeat (first | exact Kd.C_below HA1_1.out HBw.out | (with_reducible refine Kd.C_alloc ?_ _) | (with_reducible refine Kd.C_drewN ?_ _) | (with_reducible refine Kd.C_drew ?_))
  case hc0_1 => exact hc1_1
  rintro e W1 ⟨rfl, hb1⟩
  obtain ⟨x2, x3, hb4⟩ := box2 hb1
  have X5 := Lib.hid x2
  have X6 := Lib.hid x3
  have Z7 := Lib.hid hb4.size
  have Z8 := Lib.hid (blk_lt X5.out)
  have Z9 := Lib.hid (blk_lt X6.out)
  have HB10 := Lib.hid hb4
  clear x2 x3 hb4 hb1
  obtain ⟨p11, p12, p13, p14⟩ := cells2 X6.out
  have p15 := blk_lt X6.out
  go_wp2_with fail
  (with_reducible refine (laws_szDiagram.calls _ _ _ _ _ _ _ ?hr0_1 ?hc0_1 S1.out).mono ?_)
  case hr0_1 => repeat (first | exact Kd.C_below HA2_1.out HB10.out | (with_reducible refine Kd.C_alloc ?_ _) | (with_reducible refine Kd.C_drewN ?_ _) | (with_reducible refine Kd.C_drew ?_))
  case hc0_1 => exact hc2_1
  rintro e W2 ⟨rfl, hb16⟩
  have Z17 := Lib.hid hb16.size
  have HB18 := Lib.hid (pchain HB10.out hb16)
  have X19 := Lib.hid ((hb16.block _ (blk_lt X5.out)).trans X5.out)
  have X20 := Lib.hid ((hb16.block _ (blk_lt X6.out)).trans X6.out)
  clear X5 X6
  clear hb16
  go_wp2_with fail
  go_ret
  exact ⟨rfl, HB18.out⟩
set_option maxHeartbeats 16000000 in
set_option maxRecDepth 100000 in
theorem laws_FnExactOrDiagrams.go (a0 : Int) (a1_0 : Int) (A1_1 : Option Addr) (c1_1 : Nat) (l1_1 : List (S99)) (a2_0 : Int) (A2_1 : Option Addr) (c2_1 : Nat) (l2_1 : List (S99)) (xs1_0 : Int) (xl1_1 : List (S97)) (xs2_0 : Int) (xl2_1 : List (S97)) (rs0_0 : Int) (rl0_1 : List (S97)) (rs1_0 : Bool) (kk1 : Int) (xm1_1 : List (S97)) (kk2 : Int) (xm2_1 : List (S97)) (mm0 : Int) (rm0_1 : List (S97)) (n0 : Int) (n1 : Int) (S0 : Hid (laws_szDiagram.f a1_0 l1_1 1048576 = some n0)) (S1 : Hid (laws_szDiagram.f a2_0 l2_1 n0 = some n1)) (kT1 : Nat) (T1 : Hid (laws_toDiagram.f kT1 a1_0 l1_1 = some (xs1_0, xl1_1))) (kT2 : Nat) (T2 : Hid (laws_toDiagram.f kT2 a2_0 l2_1 = some (xs2_0, xl2_1))) (kFW : Nat) (FW : Hid (spec_OrDiagrams.f kFW a0 xs1_0 xl1_1 xs2_0 xl2_1 = some (rs0_0, rl0_1, rs1_0))) (kFG : Nat) (FG : Hid (impl_OrDiagrams.f kFG a0 xs1_0 xl1_1 xs2_0 xl2_1 = some (rs0_0, rl0_1, rs1_0))) (kER0 : Nat) (ER0 : Hid (laws_eqDiagram.f kER0 rs0_0 rl0_1 rs0_0 rl0_1 = some true)) (kEX1 : Nat) (EX1 : Hid (laws_eqDiagram.f kEX1 xs1_0 xl1_1 xs1_0 xl1_1 = some true)) (kEX2 : Nat) (EX2 : Hid (laws_eqDiagram.f kEX2 xs2_0 xl2_1 xs2_0 xl2_1 = some true)) (kMX1 : Nat) (MX1 : Hid (laws_markDiagram.f kMX1 xs1_0 xl1_1 1 = some (kk1, xm1_1))) (kMX2 : Nat) (MX2 : Hid (laws_markDiagram.f kMX2 xs2_0 xl2_1 kk1 = some (kk2, xm2_1))) (kMR0 : Nat) (MR0 : Hid (laws_markDiagram.f kMR0 rs0_0 rl0_1 1 = some (mm0, rm0_1))) (kHR0 : Nat) (HR0 : Hid (laws_heldDiagram.f kHR0 rs0_0 rm0_1 1 = some mm0)) (g0 : 0 ≤ n0) (g1 : 0 ≤ n1) (gk : 0 ≤ kk2) (gm : 0 ≤ mm0) (w : World) (hr1_1 : Kd.C k99 w A1_1 l1_1.length l1_1) (hc1_1 : l1_1.length ≤ c1_1) (hr2_1 : Kd.C k99 w A2_1 l2_1.length l2_1) (hc2_1 : l2_1.length ≤ c2_1) :
    Calls Try.prog 12 #[.int .i64 a0, .agg #[.int .i64 a1_0, .slice A1_1 l1_1.length c1_1], .agg #[.int .i64 a2_0, .slice A2_1 l2_1.length c2_1]] w fun e w' => e = .returned (.bool true) ∧ Below w.heap.size w w' := by
  have HBw := Lib.hid (Below.refl w.heap.size w)
  have HA1_1 := Lib.hid hr1_1
  have HA2_1 := Lib.hid hr2_1
  clear hr1_1 hr2_1
  have ers1_0 : (rs1_0 != rs1_0) = false := by simp
  have emm0 : (mm0 != mm0) = false := by simp
  go_enter Try.func12, Try.ntmps12
  go_wp2_with fail
  (with_reducible refine (laws_szDiagram.calls _ _ _ _ _ _ _ ?hr0_1 ?hc0_1 S0.out).mono ?_)
  case hr0_1 => repeat (first | exact Kd.C_below HA1_1.out HBw.out | (with_reducible refine Kd.C_alloc ?_ _) | (with_reducible refine Kd.C_drewN ?_ _) | (with_reducible refine Kd.C_drew ?_))
  case hc0_1 => exact hc1_1
  rintro e W1 ⟨rfl, hb1⟩
  obtain ⟨x2, x3, hb4⟩ := box2 hb1
  have X5 := Lib.hid x2
  have X6 := Lib.hid x3
  have Z7 := Lib.hid hb4.size
  have Z8 := Lib.hid (blk_lt X5.out)
  have Z9 := Lib.hid (blk_lt X6.out)
  have HB10 := Lib.hid hb4
  clear x2 x3 hb4 hb1
  obtain ⟨p11, p12, p13, p14⟩ := cells2 X6.out
  have p15 := blk_lt X6.out
  go_wp2_with fail
  (with_reducible refine (laws_szDiagram.calls _ _ _ _ _ _ _ ?hr0_1 ?hc0_1 S1.out).mono ?_)
  case hr0_1 => repeat (first | exact Kd.C_below HA2_1.out HB10.out | (with_reducible refine Kd.C_alloc ?_ _) | (with_reducible refine Kd.C_drewN ?_ _) | (with_reducible refine Kd.C_drew ?_))
  case hc0_1 => exact hc2_1
  rintro e W2 ⟨rfl, hb16⟩
  have Z17 := Lib.hid hb16.size
  have HB18 := Lib.hid (pchain HB10.out hb16)
  have X19 := Lib.hid ((hb16.block _ (blk_lt X5.out)).trans X5.out)
  have X20 := Lib.hid ((hb16.block _ (blk_lt X6.out)).trans X6.out)
  clear X5 X6
  clear hb16
  obtain ⟨p21, p22, p23, p24⟩ := cells2 X19.out
  have p25 := blk_lt X19.out
  obtain ⟨p26, p27, p28, p29⟩ := cells2 X20.out
  have p30 := blk_lt X20.out
  go_wp2_with fail
  have HQ0 := Lib.hid (drewP W2)
  go_cut [8, 9] (fun s8 s9 wx => ∃ (q32g0 : Nat) (wA0_1 : Option Addr) (wC0_1 : Nat), s8 = .pointer (some ⟨q32g0, 0, none⟩) ∧ s9 = .bool rs1_0 ∧ Hid (wx.heap[q32g0]? = some (.cells #[.int .i64 rs0_0, .slice wA0_1 rl0_1.length wC0_1] 29 (0, 0))) ∧ Hid (W2.heap.size ≤ q32g0) ∧ Hid (Kd.R k97 97 wx w.heap.size (fun k => W2.heap.size ≤ k ∧ k < wx.heap.size) (.slice wA0_1 rl0_1.length wC0_1) rl0_1) ∧ Hid (Below W2.heap.size W2 wx))
  case first =>
    have ne0_0 := Nat.ne_of_gt (blk_lt X19.out)
    have ne0_1 := Nat.ne_of_gt (blk_lt X20.out)
    go_region_held3 (fun w' => w'.cell? ⟨w.heap.size, 0, none⟩ = some (.int .i64 a1_0) ∧ w'.cell? ⟨w.heap.size, 1, none⟩ = some (.slice A1_1 l1_1.length c1_1) ∧ w'.cell? ⟨w.heap.size + 1, 0, none⟩ = some (.int .i64 a2_0) ∧ w'.cell? ⟨w.heap.size + 1, 1, none⟩ = some (.slice A2_1 l2_1.length c2_1)) (go_keep) (first | (first | (go_at_call 16; (with_reducible refine (laws_toDiagram.calls kT1 _ _ _ _ _ _ _ ?hr0_1 ?hc0_1 T1.out).mono ?_); (case hr0_1 => repeat (first | exact Kd.C_below HA1_1.out HB18.out | exact Kd.C_below HA1_1.out (pchain HB18.out HQ2.out) | exact Kd.C_below HA1_1.out (pchain HB18.out HQ1.out) | (with_reducible refine Kd.C_alloc ?_ _) | (with_reducible refine Kd.C_drewN ?_ _) | (with_reducible refine Kd.C_drew ?_))); (case hc0_1 => exact hc1_1); rintro e W3 ⟨v39, rfl, hR37, hb38⟩; obtain ⟨t31TA1_1, t31TC1_1, rfl⟩ := Kd.R_slice hR37; have HT1_1 := Lib.hid (Kd.R_reads' hR37).2; clear hR37; have HQ1 := Lib.hid (pchainR (w := W2) hb38 (by repeat (first | (with_reducible exact Below.refl _ _) | exact HQ0.out | (with_reducible refine below_alloc ?_ _) | (with_reducible refine below_drew ?_)))); obtain ⟨p40, p41, p42, p43⟩ := cells2 ((HQ1.out.block _ (blk_lt X19.out)).trans X19.out); obtain ⟨p44, p45, p46, p47⟩ := cells2 ((HQ1.out.block _ (blk_lt X20.out)).trans X20.out); have ne1_0 := Nat.ne_of_gt (Nat.lt_of_lt_of_le (blk_lt X19.out) HQ1.out.size); have ne1_1 := Nat.ne_of_gt (Nat.lt_of_lt_of_le (blk_lt X20.out) HQ1.out.size); (first | (have HBX2 := Lib.hid ((hb38.block _ (blk_lt HBX.out)).trans HBX.out); clear HBX; have HBX := HBX2; clear HBX2) | (first | (with_reducible have HB1 := box1e (n := W2.heap.size) hb38 (by first | exact Nat.le_refl _ | exact HQ3.out.size | exact HQ2.out.size | exact HQ1.out.size | exact HQ0.out.size); obtain ⟨HBX1, HGE1, HG1⟩ := HB1; have HBX := Lib.hid HBX1; have HGE := Lib.hid HGE1; clear HBX1 HGE1 HG1) | (with_reducible have HB1 := box1d (n := W2.heap.size) hb38 (by first | exact Nat.le_refl _ | exact HQ3.out.size | exact HQ2.out.size | exact HQ1.out.size | exact HQ0.out.size); obtain ⟨HBX1, HGE1, HG1⟩ := HB1; have HBX := Lib.hid HBX1; have HGE := Lib.hid HGE1; clear HBX1 HGE1 HG1) | (with_reducible have HB1 := box1a (n := W2.heap.size) hb38 (by first | exact Nat.le_refl _ | exact HQ3.out.size | exact HQ2.out.size | exact HQ1.out.size | exact HQ0.out.size); obtain ⟨HBX1, HGE1, HG1⟩ := HB1; have HBX := Lib.hid HBX1; have HGE := Lib.hid HGE1; clear HBX1 HGE1 HG1) | skip)); (try (have HC1 := cells2 HBX.out; obtain ⟨p33, p34, p35, p36⟩ := HC1)); clear hb38) | (go_at_call 16; (with_reducible refine (laws_toDiagram.calls kT2 _ _ _ _ _ _ _ ?hr0_1 ?hc0_1 T2.out).mono ?_); (case hr0_1 => repeat (first | exact Kd.C_below HA2_1.out HB18.out | exact Kd.C_below HA2_1.out (pchain HB18.out HQ2.out) | exact Kd.C_below HA2_1.out (pchain HB18.out HQ1.out) | (with_reducible refine Kd.C_alloc ?_ _) | (with_reducible refine Kd.C_drewN ?_ _) | (with_reducible refine Kd.C_drew ?_))); (case hc0_1 => exact hc2_1); rintro e W4 ⟨v50, rfl, hR48, hb49⟩; obtain ⟨t31TA2_1, t31TC2_1, rfl⟩ := Kd.R_slice hR48; have HT2_1 := Lib.hid (Kd.R_reads' hR48).2; clear hR48; have HQ2 := Lib.hid (pchainR (w := W2) hb49 (by repeat (first | (with_reducible exact Below.refl _ _) | exact HQ1.out | (with_reducible refine below_alloc ?_ _) | (with_reducible refine below_drew ?_)))); obtain ⟨p51, p52, p53, p54⟩ := cells2 ((HQ2.out.block _ (blk_lt X19.out)).trans X19.out); obtain ⟨p55, p56, p57, p58⟩ := cells2 ((HQ2.out.block _ (blk_lt X20.out)).trans X20.out); have ne2_0 := Nat.ne_of_gt (Nat.lt_of_lt_of_le (blk_lt X19.out) HQ2.out.size); have ne2_1 := Nat.ne_of_gt (Nat.lt_of_lt_of_le (blk_lt X20.out) HQ2.out.size); have HTm := Lib.hid (rT HT1_1.out (pchainR hb49 (by repeat (first | (with_reducible exact Below.refl _ _) | (with_reducible refine below_alloc ?_ _) | (with_reducible refine below_drew ?_))))); clear HT1_1; have HT1_1 := HTm; clear HTm; (first | (have HBX2 := Lib.hid ((hb49.block _ (blk_lt HBX.out)).trans HBX.out); clear HBX; have HBX := HBX2; clear HBX2) | (first | (with_reducible have HB1 := box1e (n := W2.heap.size) hb49 (by first | exact Nat.le_refl _ | exact HQ3.out.size | exact HQ2.out.size | exact HQ1.out.size | exact HQ0.out.size); obtain ⟨HBX1, HGE1, HG1⟩ := HB1; have HBX := Lib.hid HBX1; have HGE := Lib.hid HGE1; clear HBX1 HGE1 HG1) | (with_reducible have HB1 := box1d (n := W2.heap.size) hb49 (by first | exact Nat.le_refl _ | exact HQ3.out.size | exact HQ2.out.size | exact HQ1.out.size | exact HQ0.out.size); obtain ⟨HBX1, HGE1, HG1⟩ := HB1; have HBX := Lib.hid HBX1; have HGE := Lib.hid HGE1; clear HBX1 HGE1 HG1) | (with_reducible have HB1 := box1a (n := W2.heap.size) hb49 (by first | exact Nat.le_refl _ | exact HQ3.out.size | exact HQ2.out.size | exact HQ1.out.size | exact HQ0.out.size); obtain ⟨HBX1, HGE1, HG1⟩ := HB1; have HBX := Lib.hid HBX1; have HGE := Lib.hid HGE1; clear HBX1 HGE1 HG1) | skip)); (try (have HC1 := cells2 HBX.out; obtain ⟨p33, p34, p35, p36⟩ := HC1)); clear hb49)) | (go_at_call 44; (with_reducible refine (spec_OrDiagrams.calls kFW _ _ _ _ _ _ _ _ _ _ _ _ _ ?hr1_1 ?hc1_1 ?hr2_1 ?hc2_1 FW.out).mono ?_); (case hr1_1 => repeat (first | exact HT1_1.out.2 | (with_reducible refine Kd.C_alloc ?_ _) | (with_reducible refine Kd.C_drewN ?_ _) | (with_reducible refine Kd.C_drew ?_))); (case hc1_1 => exact HT1_1.out.1); (case hr2_1 => repeat (first | exact HT2_1.out.2 | (with_reducible refine Kd.C_alloc ?_ _) | (with_reducible refine Kd.C_drewN ?_ _) | (with_reducible refine Kd.C_drew ?_))); (case hc2_1 => exact HT2_1.out.1); rintro e W5 ⟨v61, rfl, hR59, hb60⟩; obtain ⟨wA0_1, wC0_1, rfl⟩ := Kd.R_slice hR59; have HF1_w0 := Lib.hid hR59; clear hR59; have HQ3 := Lib.hid (pchainR (w := W2) hb60 (by repeat (first | (with_reducible exact Below.refl _ _) | exact HQ2.out | (with_reducible refine below_alloc ?_ _) | (with_reducible refine below_drew ?_)))); obtain ⟨p62, p63, p64, p65⟩ := cells2 ((HQ3.out.block _ (blk_lt X19.out)).trans X19.out); obtain ⟨p66, p67, p68, p69⟩ := cells2 ((HQ3.out.block _ (blk_lt X20.out)).trans X20.out); have ne3_0 := Nat.ne_of_gt (Nat.lt_of_lt_of_le (blk_lt X19.out) HQ3.out.size); have ne3_1 := Nat.ne_of_gt (Nat.lt_of_lt_of_le (blk_lt X20.out) HQ3.out.size); (first | (have HG := Lib.hid (blk_lt HBX.out); have HBX2 := Lib.hid ((hb60.block _ (blk_lt HBX.out)).trans HBX.out); clear HBX; have HBX := HBX2; clear HBX2) | (first | (with_reducible have HB1 := box1e (n := W2.heap.size) hb60 (by first | exact Nat.le_refl _ | exact HQ3.out.size | exact HQ2.out.size | exact HQ1.out.size | exact HQ0.out.size); obtain ⟨HBX1, HGE1, HG1⟩ := HB1; have HBX := Lib.hid HBX1; have HGE := Lib.hid HGE1; have HG := Lib.hid HG1; clear HBX1 HGE1 HG1) | (with_reducible have HB1 := box1d (n := W2.heap.size) hb60 (by first | exact Nat.le_refl _ | exact HQ3.out.size | exact HQ2.out.size | exact HQ1.out.size | exact HQ0.out.size); obtain ⟨HBX1, HGE1, HG1⟩ := HB1; have HBX := Lib.hid HBX1; have HGE := Lib.hid HGE1; have HG := Lib.hid HG1; clear HBX1 HGE1 HG1) | (with_reducible have HB1 := box1a (n := W2.heap.size) hb60 (by first | exact Nat.le_refl _ | exact HQ3.out.size | exact HQ2.out.size | exact HQ1.out.size | exact HQ0.out.size); obtain ⟨HBX1, HGE1, HG1⟩ := HB1; have HBX := Lib.hid HBX1; have HGE := Lib.hid HGE1; have HG := Lib.hid HG1; clear HBX1 HGE1 HG1) | skip)); (try (have HC1 := cells2 HBX.out; obtain ⟨p33, p34, p35, p36⟩ := HC1)); clear hb60))
    all_goals
      go_wp2_with fail
      go_meet
      first
        | exact ⟨_, wA0_1, wC0_1, rfl, rfl, Lib.hid (by first | exact heap_alloc_new _ _ | simpa using heap_alloc_new _ _), Lib.hid HQ3.out.size, Lib.hid (cutA (W := W2) HF1_w0.out HQ3.out (by first | exact HQ2.out.size | (simpa using HQ2.out.size) | (have := HQ2.out.size; simp; omega)) HB18.out.size _), Lib.hid (below_alloc HQ3.out _)⟩
        | exact ⟨_, wA0_1, wC0_1, rfl, rfl, Lib.hid (blk_set (blk_set HBX.out 0 _) 1 _), HGE, Lib.hid (cutB2 (W := W2) HF1_w0.out (by first | exact HQ2.out.size | (have := HQ2.out.size; simp; omega)) HB18.out.size HG.out), Lib.hid (below_setN (below_setN HQ3.out HGE.out) HGE.out)⟩
  case rest =>
    rename World => W6
    obtain ⟨q32g0, wA0_1, wC0_1, rfl, rfl, X70, Z71, R72, HQ73⟩ := hcut
    have Z74 := Lib.hid HQ73.out.size
    have Z75 := Lib.hid (blk_lt X70.out)
    have HB76 := Lib.hid (pchain HB18.out HQ73.out)
    have X77 := Lib.hid ((HQ73.out.block _ (blk_lt X19.out)).trans X19.out)
    have X78 := Lib.hid ((HQ73.out.block _ (blk_lt X20.out)).trans X20.out)
    clear X19 X20
    clear HQ0 HQ73
    obtain ⟨p79, p80, p81, p82⟩ := cells2 X77.out
    have p83 := blk_lt X77.out
    go_wp2_with fail
    (with_reducible refine (laws_toDiagram.calls kT1 _ _ _ _ _ _ _ ?hr0_1 ?hc0_1 T1.out).mono ?_)
    case hr0_1 => repeat (first | exact Kd.C_below HA1_1.out HB76.out | (with_reducible refine Kd.C_alloc ?_ _) | (with_reducible refine Kd.C_drewN ?_ _) | (with_reducible refine Kd.C_drew ?_))
    case hc0_1 => exact hc1_1
    rintro e W7 ⟨v86, rfl, hR84, hb85⟩
    obtain ⟨XA1_1, XC1_1, rfl⟩ := Kd.R_slice hR84
    have Z87 := Lib.hid hb85.size
    have HB88 := Lib.hid (pchain HB76.out hb85)
    have R89 := Lib.hid (rIn (lo := W6.heap.size) (w0 := w) hR84 (Nat.le_refl _) (by have := HB76.out.size; omega))
    clear hR84
    have X90 := Lib.hid ((hb85.block _ (blk_lt X77.out)).trans X77.out)
    have X91 := Lib.hid ((hb85.block _ (blk_lt X78.out)).trans X78.out)
    have X92 := Lib.hid ((hb85.block _ (blk_lt X70.out)).trans X70.out)
    have R93 := Lib.hid (Kd.R_below R72.out hb85)
    clear X77 X78 X70 R72
    clear hb85
    obtain ⟨p94, p95, p96, p97⟩ := cells2 X91.out
    have p98 := blk_lt X91.out
    go_wp2_with fail
    (with_reducible refine (laws_toDiagram.calls kT2 _ _ _ _ _ _ _ ?hr0_1 ?hc0_1 T2.out).mono ?_)
    case hr0_1 => repeat (first | exact Kd.C_below HA2_1.out HB88.out | (with_reducible refine Kd.C_alloc ?_ _) | (with_reducible refine Kd.C_drewN ?_ _) | (with_reducible refine Kd.C_drew ?_))
    case hc0_1 => exact hc2_1
    rintro e W8 ⟨v101, rfl, hR99, hb100⟩
    obtain ⟨XA2_1, XC2_1, rfl⟩ := Kd.R_slice hR99
    obtain ⟨x102, hb103⟩ := box1 hb100
    have X104 := Lib.hid x102
    clear x102 hb100
    have Z105 := Lib.hid hb103.size
    have Z106 := Lib.hid (blk_lt X104.out)
    have HB107 := Lib.hid (pchain HB88.out hb103)
    have R108 := Lib.hid (rIn (lo := (W7.heap.size + 1)) (w0 := w) hR99 (by simp) (by have := HB88.out.size; omega))
    clear hR99
    have X109 := Lib.hid ((hb103.block _ (blk_lt X90.out)).trans X90.out)
    have X110 := Lib.hid ((hb103.block _ (blk_lt X91.out)).trans X91.out)
    have X111 := Lib.hid ((hb103.block _ (blk_lt X92.out)).trans X92.out)
    have R112 := Lib.hid (Kd.R_below R93.out hb103)
    have R113 := Lib.hid (Kd.R_below R89.out hb103)
    clear X90 X91 X92 R93 R89
    clear hb103
    obtain ⟨p114, p115, p116, p117⟩ := cells2 X104.out
    have p118 := blk_lt X104.out
    go_wp2_with fail
    (with_reducible refine (impl_OrDiagrams.calls kFG _ _ _ _ _ _ _ _ _ _ _ _ _ ?hr1_1 ?hc1_1 ?hr2_1 ?hc2_1 FG.out).mono ?_)
    case hr1_1 => repeat (first | exact (Kd.R_reads' R113.out).2.2 | (with_reducible refine Kd.C_alloc ?_ _) | (with_reducible refine Kd.C_drewN ?_ _) | (with_reducible refine Kd.C_drew ?_))
    case hc1_1 => exact (Kd.R_reads' R113.out).2.1
    case hr2_1 => repeat (first | exact (Kd.R_reads' R108.out).2.2 | (with_reducible refine Kd.C_alloc ?_ _) | (with_reducible refine Kd.C_drewN ?_ _) | (with_reducible refine Kd.C_drew ?_))
    case hc2_1 => exact (Kd.R_reads' R108.out).2.1
    rintro e W9 ⟨v121, rfl, hR119, hb120⟩
    obtain ⟨gA0_1, gC0_1, rfl⟩ := Kd.R_slice hR119
    obtain ⟨x122, hb123⟩ := box1 hb120
    have X124 := Lib.hid x122
    clear x122 hb120
    have Z125 := Lib.hid hb123.size
    have Z126 := Lib.hid (blk_lt X124.out)
    have HB127 := Lib.hid (pchain HB107.out hb123)
    have R128 := Lib.hid (rIn (lo := (W8.heap.size + 1)) (w0 := w) hR119 (by simp) (by have := HB107.out.size; omega))
    clear hR119
    have X129 := Lib.hid ((hb123.block _ (blk_lt X109.out)).trans X109.out)
    have X130 := Lib.hid ((hb123.block _ (blk_lt X110.out)).trans X110.out)
    have X131 := Lib.hid ((hb123.block _ (blk_lt X111.out)).trans X111.out)
    have X132 := Lib.hid ((hb123.block _ (blk_lt X104.out)).trans X104.out)
    have R133 := Lib.hid (Kd.R_below R112.out hb123)
    have R134 := Lib.hid (Kd.R_below R113.out hb123)
    have R135 := Lib.hid (Kd.R_below R108.out hb123)
    clear X109 X110 X111 X104 R112 R113 R108
    clear hb123
    obtain ⟨p136, p137, p138, p139⟩ := cells2 X131.out
    have p140 := blk_lt X131.out
    go_wp2_with fail
    (with_reducible refine (laws_eqDiagram.calls kER0 _ _ _ _ _ _ _ _ _ _ ?hr0_1 ?hc0_1 ?hr1_1 ?hc1_1 ER0.out).mono ?_)
    case hr0_1 => repeat (first | exact (Kd.R_reads' R128.out).2.2 | (with_reducible refine Kd.C_alloc ?_ _) | (with_reducible refine Kd.C_drewN ?_ _) | (with_reducible refine Kd.C_drew ?_))
    case hc0_1 => exact (Kd.R_reads' R128.out).2.1
    case hr1_1 => repeat (first | exact (Kd.R_reads' R133.out).2.2 | (with_reducible refine Kd.C_alloc ?_ _) | (with_reducible refine Kd.C_drewN ?_ _) | (with_reducible refine Kd.C_drew ?_))
    case hc1_1 => exact (Kd.R_reads' R133.out).2.1
    rintro e W10 ⟨rfl, hb141⟩
    obtain ⟨x142, hb143⟩ := box1 hb141
    have X144 := Lib.hid x142
    clear x142 hb141
    have Z145 := Lib.hid hb143.size
    have Z146 := Lib.hid (blk_lt X144.out)
    have HB147 := Lib.hid (pchain HB127.out hb143)
    have X148 := Lib.hid ((hb143.block _ (blk_lt X129.out)).trans X129.out)
    have X149 := Lib.hid ((hb143.block _ (blk_lt X130.out)).trans X130.out)
    have X150 := Lib.hid ((hb143.block _ (blk_lt X131.out)).trans X131.out)
    have X151 := Lib.hid ((hb143.block _ (blk_lt X132.out)).trans X132.out)
    have X152 := Lib.hid ((hb143.block _ (blk_lt X124.out)).trans X124.out)
    have R153 := Lib.hid (Kd.R_below R133.out hb143)
    have R154 := Lib.hid (Kd.R_below R134.out hb143)
    have R155 := Lib.hid (Kd.R_below R135.out hb143)
    have R156 := Lib.hid (Kd.R_below R128.out hb143)
    clear X129 X130 X131 X132 X124 R133 R134 R135 R128
    clear hb143
    obtain ⟨p157, p158, p159, p160⟩ := cells2 X148.out
    have p161 := blk_lt X148.out
    obtain ⟨p162, p163, p164, p165⟩ := cells2 X151.out
    have p166 := blk_lt X151.out
    go_wp2_with fail
    go_region_held3 (fun w' => w'.cell? ⟨w.heap.size, 0, none⟩ = some (.int .i64 a1_0) ∧ w'.cell? ⟨w.heap.size, 1, none⟩ = some (.slice A1_1 l1_1.length c1_1) ∧ w'.cell? ⟨W7.heap.size, 0, none⟩ = some (.int .i64 xs1_0) ∧ w'.cell? ⟨W7.heap.size, 1, none⟩ = some (.slice XA1_1 xl1_1.length XC1_1)) (go_keep) (first | (go_at_call 16; (with_reducible refine (laws_toDiagram.calls kT1 _ _ _ _ _ _ _ ?hr0_1 ?hc0_1 T1.out).mono ?_); (case hr0_1 => repeat (first | exact Kd.C_drew (Kd.C_below HA1_1.out HB147.out) | (with_reducible refine Kd.C_alloc ?_ _) | (with_reducible refine Kd.C_drewN ?_ _) | (with_reducible refine Kd.C_drew ?_))); (case hc0_1 => exact hc1_1); rintro e W11 ⟨v169, rfl, hR167, hb168⟩; obtain ⟨TA1_1, TC1_1, rfl⟩ := Kd.R_slice hR167; have hb170 := pchain (drewP W10) hb168; clear hb168; have Z171 := Lib.hid hb170.size; have HB172 := Lib.hid (pchain HB147.out hb170); have R173 := Lib.hid (rIn (lo := W10.heap.size) (w0 := w) hR167 (Nat.le_refl _) (by have := HB147.out.size; omega)); clear hR167; have X174 := Lib.hid ((hb170.block _ (blk_lt X148.out)).trans X148.out); have X175 := Lib.hid ((hb170.block _ (blk_lt X149.out)).trans X149.out); have X176 := Lib.hid ((hb170.block _ (blk_lt X150.out)).trans X150.out); have X177 := Lib.hid ((hb170.block _ (blk_lt X151.out)).trans X151.out); have X178 := Lib.hid ((hb170.block _ (blk_lt X152.out)).trans X152.out); have X179 := Lib.hid ((hb170.block _ (blk_lt X144.out)).trans X144.out); have R180 := Lib.hid (Kd.R_below R153.out hb170); have R181 := Lib.hid (Kd.R_below R154.out hb170); have R182 := Lib.hid (Kd.R_below R155.out hb170); have R183 := Lib.hid (Kd.R_below R156.out hb170); clear X148 X149 X150 X151 X152 X144 R153 R154 R155 R156; clear hb170; obtain ⟨p184, p185, p186, p187⟩ := cells2 X174.out; have p188 := blk_lt X174.out; obtain ⟨p189, p190, p191, p192⟩ := cells2 X177.out; have p193 := blk_lt X177.out) | (go_at_call 18; (with_reducible refine (laws_eqDiagram.calls kEX1 _ _ _ _ _ _ _ _ _ _ ?hr0_1 ?hc0_1 ?hr1_1 ?hc1_1 EX1.out).mono ?_); (case hr0_1 => repeat (first | exact (Kd.R_reads' R181.out).2.2 | (with_reducible refine Kd.C_alloc ?_ _) | (with_reducible refine Kd.C_drewN ?_ _) | (with_reducible refine Kd.C_drew ?_))); (case hc0_1 => exact (Kd.R_reads' R181.out).2.1); (case hr1_1 => repeat (first | exact (Kd.R_reads' R173.out).2.2 | (with_reducible refine Kd.C_alloc ?_ _) | (with_reducible refine Kd.C_drewN ?_ _) | (with_reducible refine Kd.C_drew ?_))); (case hc1_1 => exact (Kd.R_reads' R173.out).2.1); rintro e W12 ⟨rfl, hb194⟩; have Z195 := Lib.hid hb194.size; have HB196 := Lib.hid (pchain HB172.out hb194); have X197 := Lib.hid ((hb194.block _ (blk_lt X174.out)).trans X174.out); have X198 := Lib.hid ((hb194.block _ (blk_lt X175.out)).trans X175.out); have X199 := Lib.hid ((hb194.block _ (blk_lt X176.out)).trans X176.out); have X200 := Lib.hid ((hb194.block _ (blk_lt X177.out)).trans X177.out); have X201 := Lib.hid ((hb194.block _ (blk_lt X178.out)).trans X178.out); have X202 := Lib.hid ((hb194.block _ (blk_lt X179.out)).trans X179.out); have R203 := Lib.hid (Kd.R_below R180.out hb194); have R204 := Lib.hid (Kd.R_below R181.out hb194); have R205 := Lib.hid (Kd.R_below R182.out hb194); have R206 := Lib.hid (Kd.R_below R183.out hb194); have R207 := Lib.hid (Kd.R_below R173.out hb194); clear X174 X175 X176 X177 X178 X179 R180 R181 R182 R183 R173; clear hb194; obtain ⟨p208, p209, p210, p211⟩ := cells2 X197.out; have p212 := blk_lt X197.out; obtain ⟨p213, p214, p215, p216⟩ := cells2 X200.out; have p217 := blk_lt X200.out))
    obtain ⟨p218, p219, p220, p221⟩ := cells2 X198.out
    have p222 := blk_lt X198.out
    obtain ⟨p223, p224, p225, p226⟩ := cells2 X201.out
    have p227 := blk_lt X201.out
    go_wp2_with fail
    go_region_held3 (fun w' => w'.cell? ⟨w.heap.size + 1, 0, none⟩ = some (.int .i64 a2_0) ∧ w'.cell? ⟨w.heap.size + 1, 1, none⟩ = some (.slice A2_1 l2_1.length c2_1) ∧ w'.cell? ⟨W8.heap.size, 0, none⟩ = some (.int .i64 xs2_0) ∧ w'.cell? ⟨W8.heap.size, 1, none⟩ = some (.slice XA2_1 xl2_1.length XC2_1)) (go_keep) (first | (go_at_call 16; (with_reducible refine (laws_toDiagram.calls kT2 _ _ _ _ _ _ _ ?hr0_1 ?hc0_1 T2.out).mono ?_); (case hr0_1 => repeat (first | exact Kd.C_drew (Kd.C_below HA2_1.out HB196.out) | (with_reducible refine Kd.C_alloc ?_ _) | (with_reducible refine Kd.C_drewN ?_ _) | (with_reducible refine Kd.C_drew ?_))); (case hc0_1 => exact hc2_1); rintro e W13 ⟨v230, rfl, hR228, hb229⟩; obtain ⟨TA2_1, TC2_1, rfl⟩ := Kd.R_slice hR228; have hb231 := pchain (drewP W12) hb229; clear hb229; have Z232 := Lib.hid hb231.size; have HB233 := Lib.hid (pchain HB196.out hb231); have R234 := Lib.hid (rIn (lo := W12.heap.size) (w0 := w) hR228 (Nat.le_refl _) (by have := HB196.out.size; omega)); clear hR228; have X235 := Lib.hid ((hb231.block _ (blk_lt X197.out)).trans X197.out); have X236 := Lib.hid ((hb231.block _ (blk_lt X198.out)).trans X198.out); have X237 := Lib.hid ((hb231.block _ (blk_lt X199.out)).trans X199.out); have X238 := Lib.hid ((hb231.block _ (blk_lt X200.out)).trans X200.out); have X239 := Lib.hid ((hb231.block _ (blk_lt X201.out)).trans X201.out); have X240 := Lib.hid ((hb231.block _ (blk_lt X202.out)).trans X202.out); have R241 := Lib.hid (Kd.R_below R203.out hb231); have R242 := Lib.hid (Kd.R_below R204.out hb231); have R243 := Lib.hid (Kd.R_below R205.out hb231); have R244 := Lib.hid (Kd.R_below R206.out hb231); clear X197 X198 X199 X200 X201 X202 R203 R204 R205 R206; clear hb231; obtain ⟨p245, p246, p247, p248⟩ := cells2 X236.out; have p249 := blk_lt X236.out; obtain ⟨p250, p251, p252, p253⟩ := cells2 X239.out; have p254 := blk_lt X239.out) | (go_at_call 18; (with_reducible refine (laws_eqDiagram.calls kEX2 _ _ _ _ _ _ _ _ _ _ ?hr0_1 ?hc0_1 ?hr1_1 ?hc1_1 EX2.out).mono ?_); (case hr0_1 => repeat (first | exact (Kd.R_reads' R243.out).2.2 | (with_reducible refine Kd.C_alloc ?_ _) | (with_reducible refine Kd.C_drewN ?_ _) | (with_reducible refine Kd.C_drew ?_))); (case hc0_1 => exact (Kd.R_reads' R243.out).2.1); (case hr1_1 => repeat (first | exact (Kd.R_reads' R234.out).2.2 | (with_reducible refine Kd.C_alloc ?_ _) | (with_reducible refine Kd.C_drewN ?_ _) | (with_reducible refine Kd.C_drew ?_))); (case hc1_1 => exact (Kd.R_reads' R234.out).2.1); rintro e W14 ⟨rfl, hb255⟩; have Z256 := Lib.hid hb255.size; have HB257 := Lib.hid (pchain HB233.out hb255); have X258 := Lib.hid ((hb255.block _ (blk_lt X235.out)).trans X235.out); have X259 := Lib.hid ((hb255.block _ (blk_lt X236.out)).trans X236.out); have X260 := Lib.hid ((hb255.block _ (blk_lt X237.out)).trans X237.out); have X261 := Lib.hid ((hb255.block _ (blk_lt X238.out)).trans X238.out); have X262 := Lib.hid ((hb255.block _ (blk_lt X239.out)).trans X239.out); have X263 := Lib.hid ((hb255.block _ (blk_lt X240.out)).trans X240.out); have R264 := Lib.hid (Kd.R_below R241.out hb255); have R265 := Lib.hid (Kd.R_below R242.out hb255); have R266 := Lib.hid (Kd.R_below R243.out hb255); have R267 := Lib.hid (Kd.R_below R244.out hb255); have R268 := Lib.hid (Kd.R_below R234.out hb255); clear X235 X236 X237 X238 X239 X240 R241 R242 R243 R244 R234; clear hb255; obtain ⟨p269, p270, p271, p272⟩ := cells2 X259.out; have p273 := blk_lt X259.out; obtain ⟨p274, p275, p276, p277⟩ := cells2 X262.out; have p278 := blk_lt X262.out))
    obtain ⟨p279, p280, p281, p282⟩ := cells2 X261.out
    have p283 := blk_lt X261.out
    go_wp2_with fail
    (with_reducible refine (laws_markDiagram.calls kMX1 _ (fun k_ => (W6.heap.size ≤ k_ ∧ k_ < W7.heap.size)) _ _ _ _ _ w _ ?hB ?ho0_1 MX1.out).mono ?_)
    case hB => exact HB257.out
    case ho0_1 => exact R265.out
    rintro e W15 ⟨rfl, hR284, hB285, hk286⟩
    have Z287 := Lib.hid hk286.1
    have HB288 := Lib.hid hB285
    have R289 := Lib.hid (rMn hR284)
    clear hR284 R265
    have X290 := Lib.hid (blk_kept X258.out hk286 (fun hk_ => absurd hk_ (by have z0_ := Z7.out; have z1_ := Z8.out; have z2_ := Z9.out; have z3_ := Z17.out; have z4_ := Z71.out; have z5_ := Z74.out; have z6_ := Z75.out; have z7_ := Z87.out; have z8_ := Z105.out; have z9_ := Z106.out; have z10_ := Z125.out; have z11_ := Z126.out; have z12_ := Z145.out; have z13_ := Z146.out; have z14_ := Z171.out; have z15_ := Z195.out; have z16_ := Z232.out; have z17_ := Z256.out; have z18_ := Z287.out; omega)))
    have X291 := Lib.hid (blk_kept X259.out hk286 (fun hk_ => absurd hk_ (by have z0_ := Z7.out; have z1_ := Z8.out; have z2_ := Z9.out; have z3_ := Z17.out; have z4_ := Z71.out; have z5_ := Z74.out; have z6_ := Z75.out; have z7_ := Z87.out; have z8_ := Z105.out; have z9_ := Z106.out; have z10_ := Z125.out; have z11_ := Z126.out; have z12_ := Z145.out; have z13_ := Z146.out; have z14_ := Z171.out; have z15_ := Z195.out; have z16_ := Z232.out; have z17_ := Z256.out; have z18_ := Z287.out; omega)))
    have X292 := Lib.hid (blk_kept X260.out hk286 (fun hk_ => absurd hk_ (by have z0_ := Z7.out; have z1_ := Z8.out; have z2_ := Z9.out; have z3_ := Z17.out; have z4_ := Z71.out; have z5_ := Z74.out; have z6_ := Z75.out; have z7_ := Z87.out; have z8_ := Z105.out; have z9_ := Z106.out; have z10_ := Z125.out; have z11_ := Z126.out; have z12_ := Z145.out; have z13_ := Z146.out; have z14_ := Z171.out; have z15_ := Z195.out; have z16_ := Z232.out; have z17_ := Z256.out; have z18_ := Z287.out; omega)))
    have X293 := Lib.hid (blk_kept X261.out hk286 (fun hk_ => absurd hk_ (by have z0_ := Z7.out; have z1_ := Z8.out; have z2_ := Z9.out; have z3_ := Z17.out; have z4_ := Z71.out; have z5_ := Z74.out; have z6_ := Z75.out; have z7_ := Z87.out; have z8_ := Z105.out; have z9_ := Z106.out; have z10_ := Z125.out; have z11_ := Z126.out; have z12_ := Z145.out; have z13_ := Z146.out; have z14_ := Z171.out; have z15_ := Z195.out; have z16_ := Z232.out; have z17_ := Z256.out; have z18_ := Z287.out; omega)))
    have X294 := Lib.hid (blk_kept X262.out hk286 (fun hk_ => absurd hk_ (by have z0_ := Z7.out; have z1_ := Z8.out; have z2_ := Z9.out; have z3_ := Z17.out; have z4_ := Z71.out; have z5_ := Z74.out; have z6_ := Z75.out; have z7_ := Z87.out; have z8_ := Z105.out; have z9_ := Z106.out; have z10_ := Z125.out; have z11_ := Z126.out; have z12_ := Z145.out; have z13_ := Z146.out; have z14_ := Z171.out; have z15_ := Z195.out; have z16_ := Z232.out; have z17_ := Z256.out; have z18_ := Z287.out; omega)))
    have X295 := Lib.hid (blk_kept X263.out hk286 (fun hk_ => absurd hk_ (by have z0_ := Z7.out; have z1_ := Z8.out; have z2_ := Z9.out; have z3_ := Z17.out; have z4_ := Z71.out; have z5_ := Z74.out; have z6_ := Z75.out; have z7_ := Z87.out; have z8_ := Z105.out; have z9_ := Z106.out; have z10_ := Z125.out; have z11_ := Z126.out; have z12_ := Z145.out; have z13_ := Z146.out; have z14_ := Z171.out; have z15_ := Z195.out; have z16_ := Z232.out; have z17_ := Z256.out; have z18_ := Z287.out; omega)))
    have R296 := Lib.hid (Kd.R_kept R264.out hk286 (fun k_ hk_ hn_ => absurd hk_ (by have z0_ := Z7.out; have z1_ := Z8.out; have z2_ := Z9.out; have z3_ := Z17.out; have z4_ := Z71.out; have z5_ := Z74.out; have z6_ := Z75.out; have z7_ := Z87.out; have z8_ := Z105.out; have z9_ := Z106.out; have z10_ := Z125.out; have z11_ := Z126.out; have z12_ := Z145.out; have z13_ := Z146.out; have z14_ := Z171.out; have z15_ := Z195.out; have z16_ := Z232.out; have z17_ := Z256.out; have z18_ := Z287.out; omega)))
    have R297 := Lib.hid (Kd.R_kept R266.out hk286 (fun k_ hk_ hn_ => absurd hk_ (by have z0_ := Z7.out; have z1_ := Z8.out; have z2_ := Z9.out; have z3_ := Z17.out; have z4_ := Z71.out; have z5_ := Z74.out; have z6_ := Z75.out; have z7_ := Z87.out; have z8_ := Z105.out; have z9_ := Z106.out; have z10_ := Z125.out; have z11_ := Z126.out; have z12_ := Z145.out; have z13_ := Z146.out; have z14_ := Z171.out; have z15_ := Z195.out; have z16_ := Z232.out; have z17_ := Z256.out; have z18_ := Z287.out; omega)))
    have R298 := Lib.hid (Kd.R_kept R267.out hk286 (fun k_ hk_ hn_ => absurd hk_ (by have z0_ := Z7.out; have z1_ := Z8.out; have z2_ := Z9.out; have z3_ := Z17.out; have z4_ := Z71.out; have z5_ := Z74.out; have z6_ := Z75.out; have z7_ := Z87.out; have z8_ := Z105.out; have z9_ := Z106.out; have z10_ := Z125.out; have z11_ := Z126.out; have z12_ := Z145.out; have z13_ := Z146.out; have z14_ := Z171.out; have z15_ := Z195.out; have z16_ := Z232.out; have z17_ := Z256.out; have z18_ := Z287.out; omega)))
    clear X258 X259 X260 X261 X262 X263 R264 R266 R267
    clear hk286 hB285
    have X300 := Lib.hid (by have h_ := X293.out; rw [len_R R289.out] at h_; exact h_)
    clear X293
    have R299 := Lib.hid (R_len R289.out)
    clear R289
    obtain ⟨p301, p302, p303, p304⟩ := cells2 X294.out
    have p305 := blk_lt X294.out
    go_wp2_with fail
    (with_reducible refine (laws_markDiagram.calls kMX2 _ (fun k_ => ((W7.heap.size + 1) ≤ k_ ∧ k_ < W8.heap.size)) _ _ _ _ _ w _ ?hB ?ho0_1 MX2.out).mono ?_)
    case hB => exact HB288.out
    case ho0_1 => exact R297.out
    rintro e W16 ⟨rfl, hR306, hB307, hk308⟩
    have Z309 := Lib.hid hk308.1
    have HB310 := Lib.hid hB307
    have R311 := Lib.hid (rMn hR306)
    clear hR306 R297
    have X312 := Lib.hid (blk_kept X290.out hk308 (fun hk_ => absurd hk_ (by have z0_ := Z7.out; have z1_ := Z8.out; have z2_ := Z9.out; have z3_ := Z17.out; have z4_ := Z71.out; have z5_ := Z74.out; have z6_ := Z75.out; have z7_ := Z87.out; have z8_ := Z105.out; have z9_ := Z106.out; have z10_ := Z125.out; have z11_ := Z126.out; have z12_ := Z145.out; have z13_ := Z146.out; have z14_ := Z171.out; have z15_ := Z195.out; have z16_ := Z232.out; have z17_ := Z256.out; have z18_ := Z287.out; have z19_ := Z309.out; omega)))
    have X313 := Lib.hid (blk_kept X291.out hk308 (fun hk_ => absurd hk_ (by have z0_ := Z7.out; have z1_ := Z8.out; have z2_ := Z9.out; have z3_ := Z17.out; have z4_ := Z71.out; have z5_ := Z74.out; have z6_ := Z75.out; have z7_ := Z87.out; have z8_ := Z105.out; have z9_ := Z106.out; have z10_ := Z125.out; have z11_ := Z126.out; have z12_ := Z145.out; have z13_ := Z146.out; have z14_ := Z171.out; have z15_ := Z195.out; have z16_ := Z232.out; have z17_ := Z256.out; have z18_ := Z287.out; have z19_ := Z309.out; omega)))
    have X314 := Lib.hid (blk_kept X292.out hk308 (fun hk_ => absurd hk_ (by have z0_ := Z7.out; have z1_ := Z8.out; have z2_ := Z9.out; have z3_ := Z17.out; have z4_ := Z71.out; have z5_ := Z74.out; have z6_ := Z75.out; have z7_ := Z87.out; have z8_ := Z105.out; have z9_ := Z106.out; have z10_ := Z125.out; have z11_ := Z126.out; have z12_ := Z145.out; have z13_ := Z146.out; have z14_ := Z171.out; have z15_ := Z195.out; have z16_ := Z232.out; have z17_ := Z256.out; have z18_ := Z287.out; have z19_ := Z309.out; omega)))
    have X315 := Lib.hid (blk_kept X300.out hk308 (fun hk_ => absurd hk_ (by have z0_ := Z7.out; have z1_ := Z8.out; have z2_ := Z9.out; have z3_ := Z17.out; have z4_ := Z71.out; have z5_ := Z74.out; have z6_ := Z75.out; have z7_ := Z87.out; have z8_ := Z105.out; have z9_ := Z106.out; have z10_ := Z125.out; have z11_ := Z126.out; have z12_ := Z145.out; have z13_ := Z146.out; have z14_ := Z171.out; have z15_ := Z195.out; have z16_ := Z232.out; have z17_ := Z256.out; have z18_ := Z287.out; have z19_ := Z309.out; omega)))
    have X316 := Lib.hid (blk_kept X294.out hk308 (fun hk_ => absurd hk_ (by have z0_ := Z7.out; have z1_ := Z8.out; have z2_ := Z9.out; have z3_ := Z17.out; have z4_ := Z71.out; have z5_ := Z74.out; have z6_ := Z75.out; have z7_ := Z87.out; have z8_ := Z105.out; have z9_ := Z106.out; have z10_ := Z125.out; have z11_ := Z126.out; have z12_ := Z145.out; have z13_ := Z146.out; have z14_ := Z171.out; have z15_ := Z195.out; have z16_ := Z232.out; have z17_ := Z256.out; have z18_ := Z287.out; have z19_ := Z309.out; omega)))
    have X317 := Lib.hid (blk_kept X295.out hk308 (fun hk_ => absurd hk_ (by have z0_ := Z7.out; have z1_ := Z8.out; have z2_ := Z9.out; have z3_ := Z17.out; have z4_ := Z71.out; have z5_ := Z74.out; have z6_ := Z75.out; have z7_ := Z87.out; have z8_ := Z105.out; have z9_ := Z106.out; have z10_ := Z125.out; have z11_ := Z126.out; have z12_ := Z145.out; have z13_ := Z146.out; have z14_ := Z171.out; have z15_ := Z195.out; have z16_ := Z232.out; have z17_ := Z256.out; have z18_ := Z287.out; have z19_ := Z309.out; omega)))
    have R318 := Lib.hid (Kd.R_kept R296.out hk308 (fun k_ hk_ hn_ => absurd hk_ (by have z0_ := Z7.out; have z1_ := Z8.out; have z2_ := Z9.out; have z3_ := Z17.out; have z4_ := Z71.out; have z5_ := Z74.out; have z6_ := Z75.out; have z7_ := Z87.out; have z8_ := Z105.out; have z9_ := Z106.out; have z10_ := Z125.out; have z11_ := Z126.out; have z12_ := Z145.out; have z13_ := Z146.out; have z14_ := Z171.out; have z15_ := Z195.out; have z16_ := Z232.out; have z17_ := Z256.out; have z18_ := Z287.out; have z19_ := Z309.out; omega)))
    have R319 := Lib.hid (Kd.R_kept R299.out hk308 (fun k_ hk_ hn_ => absurd hk_ (by have z0_ := Z7.out; have z1_ := Z8.out; have z2_ := Z9.out; have z3_ := Z17.out; have z4_ := Z71.out; have z5_ := Z74.out; have z6_ := Z75.out; have z7_ := Z87.out; have z8_ := Z105.out; have z9_ := Z106.out; have z10_ := Z125.out; have z11_ := Z126.out; have z12_ := Z145.out; have z13_ := Z146.out; have z14_ := Z171.out; have z15_ := Z195.out; have z16_ := Z232.out; have z17_ := Z256.out; have z18_ := Z287.out; have z19_ := Z309.out; omega)))
    have R320 := Lib.hid (Kd.R_kept R298.out hk308 (fun k_ hk_ hn_ => absurd hk_ (by have z0_ := Z7.out; have z1_ := Z8.out; have z2_ := Z9.out; have z3_ := Z17.out; have z4_ := Z71.out; have z5_ := Z74.out; have z6_ := Z75.out; have z7_ := Z87.out; have z8_ := Z105.out; have z9_ := Z106.out; have z10_ := Z125.out; have z11_ := Z126.out; have z12_ := Z145.out; have z13_ := Z146.out; have z14_ := Z171.out; have z15_ := Z195.out; have z16_ := Z232.out; have z17_ := Z256.out; have z18_ := Z287.out; have z19_ := Z309.out; omega)))
    clear X290 X291 X292 X300 X294 X295 R296 R299 R298
    clear hk308 hB307
    have X322 := Lib.hid (by have h_ := X316.out; rw [len_R R311.out] at h_; exact h_)
    clear X316
    have R321 := Lib.hid (R_len R311.out)
    clear R311
    obtain ⟨p323, p324, p325, p326⟩ := cells2 X317.out
    have p327 := blk_lt X317.out
    obtain ⟨p328, p329, p330, p331⟩ := cells2 X314.out
    have p332 := blk_lt X314.out
    go_wp2_with fail
    (with_reducible refine (laws_eqDiagram.calls kER0 _ _ _ _ _ _ _ _ _ _ ?hr0_1 ?hc0_1 ?hr1_1 ?hc1_1 ER0.out).mono ?_)
    case hr0_1 => repeat (first | exact (Kd.R_reads' R320.out).2.2 | (with_reducible refine Kd.C_alloc ?_ _) | (with_reducible refine Kd.C_drewN ?_ _) | (with_reducible refine Kd.C_drew ?_))
    case hc0_1 => exact (Kd.R_reads' R320.out).2.1
    case hr1_1 => repeat (first | exact (Kd.R_reads' R318.out).2.2 | (with_reducible refine Kd.C_alloc ?_ _) | (with_reducible refine Kd.C_drewN ?_ _) | (with_reducible refine Kd.C_drew ?_))
    case hc1_1 => exact (Kd.R_reads' R318.out).2.1
    rintro e W17 ⟨rfl, hb333⟩
    have Z334 := Lib.hid hb333.size
    have HB335 := Lib.hid (pchain HB310.out hb333)
    have X336 := Lib.hid ((hb333.block _ (blk_lt X312.out)).trans X312.out)
    have X337 := Lib.hid ((hb333.block _ (blk_lt X313.out)).trans X313.out)
    have X338 := Lib.hid ((hb333.block _ (blk_lt X314.out)).trans X314.out)
    have X339 := Lib.hid ((hb333.block _ (blk_lt X315.out)).trans X315.out)
    have X340 := Lib.hid ((hb333.block _ (blk_lt X322.out)).trans X322.out)
    have X341 := Lib.hid ((hb333.block _ (blk_lt X317.out)).trans X317.out)
    have R342 := Lib.hid (Kd.R_below R318.out hb333)
    have R343 := Lib.hid (Kd.R_below R319.out hb333)
    have R344 := Lib.hid (Kd.R_below R321.out hb333)
    have R345 := Lib.hid (Kd.R_below R320.out hb333)
    clear X312 X313 X314 X315 X322 X317 R318 R319 R321 R320
    clear hb333
    obtain ⟨p346, p347, p348, p349⟩ := cells2 X341.out
    have p350 := blk_lt X341.out
    go_wp2_with fail
    (with_reducible refine (laws_markDiagram.calls kMR0 _ (fun k_ => ((W8.heap.size + 1) ≤ k_ ∧ k_ < W9.heap.size)) _ _ _ _ _ w _ ?hB ?ho0_1 MR0.out).mono ?_)
    case hB => exact HB335.out
    case ho0_1 => exact R345.out
    rintro e W18 ⟨rfl, hR351, hB352, hk353⟩
    have Z354 := Lib.hid hk353.1
    have HB355 := Lib.hid hB352
    have R356 := Lib.hid (rMn hR351)
    clear hR351 R345
    have X357 := Lib.hid (blk_kept X336.out hk353 (fun hk_ => absurd hk_ (by have z0_ := Z7.out; have z1_ := Z8.out; have z2_ := Z9.out; have z3_ := Z17.out; have z4_ := Z71.out; have z5_ := Z74.out; have z6_ := Z75.out; have z7_ := Z87.out; have z8_ := Z105.out; have z9_ := Z106.out; have z10_ := Z125.out; have z11_ := Z126.out; have z12_ := Z145.out; have z13_ := Z146.out; have z14_ := Z171.out; have z15_ := Z195.out; have z16_ := Z232.out; have z17_ := Z256.out; have z18_ := Z287.out; have z19_ := Z309.out; have z20_ := Z334.out; have z21_ := Z354.out; omega)))
    have X358 := Lib.hid (blk_kept X337.out hk353 (fun hk_ => absurd hk_ (by have z0_ := Z7.out; have z1_ := Z8.out; have z2_ := Z9.out; have z3_ := Z17.out; have z4_ := Z71.out; have z5_ := Z74.out; have z6_ := Z75.out; have z7_ := Z87.out; have z8_ := Z105.out; have z9_ := Z106.out; have z10_ := Z125.out; have z11_ := Z126.out; have z12_ := Z145.out; have z13_ := Z146.out; have z14_ := Z171.out; have z15_ := Z195.out; have z16_ := Z232.out; have z17_ := Z256.out; have z18_ := Z287.out; have z19_ := Z309.out; have z20_ := Z334.out; have z21_ := Z354.out; omega)))
    have X359 := Lib.hid (blk_kept X338.out hk353 (fun hk_ => absurd hk_ (by have z0_ := Z7.out; have z1_ := Z8.out; have z2_ := Z9.out; have z3_ := Z17.out; have z4_ := Z71.out; have z5_ := Z74.out; have z6_ := Z75.out; have z7_ := Z87.out; have z8_ := Z105.out; have z9_ := Z106.out; have z10_ := Z125.out; have z11_ := Z126.out; have z12_ := Z145.out; have z13_ := Z146.out; have z14_ := Z171.out; have z15_ := Z195.out; have z16_ := Z232.out; have z17_ := Z256.out; have z18_ := Z287.out; have z19_ := Z309.out; have z20_ := Z334.out; have z21_ := Z354.out; omega)))
    have X360 := Lib.hid (blk_kept X339.out hk353 (fun hk_ => absurd hk_ (by have z0_ := Z7.out; have z1_ := Z8.out; have z2_ := Z9.out; have z3_ := Z17.out; have z4_ := Z71.out; have z5_ := Z74.out; have z6_ := Z75.out; have z7_ := Z87.out; have z8_ := Z105.out; have z9_ := Z106.out; have z10_ := Z125.out; have z11_ := Z126.out; have z12_ := Z145.out; have z13_ := Z146.out; have z14_ := Z171.out; have z15_ := Z195.out; have z16_ := Z232.out; have z17_ := Z256.out; have z18_ := Z287.out; have z19_ := Z309.out; have z20_ := Z334.out; have z21_ := Z354.out; omega)))
    have X361 := Lib.hid (blk_kept X340.out hk353 (fun hk_ => absurd hk_ (by have z0_ := Z7.out; have z1_ := Z8.out; have z2_ := Z9.out; have z3_ := Z17.out; have z4_ := Z71.out; have z5_ := Z74.out; have z6_ := Z75.out; have z7_ := Z87.out; have z8_ := Z105.out; have z9_ := Z106.out; have z10_ := Z125.out; have z11_ := Z126.out; have z12_ := Z145.out; have z13_ := Z146.out; have z14_ := Z171.out; have z15_ := Z195.out; have z16_ := Z232.out; have z17_ := Z256.out; have z18_ := Z287.out; have z19_ := Z309.out; have z20_ := Z334.out; have z21_ := Z354.out; omega)))
    have X362 := Lib.hid (blk_kept X341.out hk353 (fun hk_ => absurd hk_ (by have z0_ := Z7.out; have z1_ := Z8.out; have z2_ := Z9.out; have z3_ := Z17.out; have z4_ := Z71.out; have z5_ := Z74.out; have z6_ := Z75.out; have z7_ := Z87.out; have z8_ := Z105.out; have z9_ := Z106.out; have z10_ := Z125.out; have z11_ := Z126.out; have z12_ := Z145.out; have z13_ := Z146.out; have z14_ := Z171.out; have z15_ := Z195.out; have z16_ := Z232.out; have z17_ := Z256.out; have z18_ := Z287.out; have z19_ := Z309.out; have z20_ := Z334.out; have z21_ := Z354.out; omega)))
    have R363 := Lib.hid (Kd.R_kept R342.out hk353 (fun k_ hk_ hn_ => absurd hk_ (by have z0_ := Z7.out; have z1_ := Z8.out; have z2_ := Z9.out; have z3_ := Z17.out; have z4_ := Z71.out; have z5_ := Z74.out; have z6_ := Z75.out; have z7_ := Z87.out; have z8_ := Z105.out; have z9_ := Z106.out; have z10_ := Z125.out; have z11_ := Z126.out; have z12_ := Z145.out; have z13_ := Z146.out; have z14_ := Z171.out; have z15_ := Z195.out; have z16_ := Z232.out; have z17_ := Z256.out; have z18_ := Z287.out; have z19_ := Z309.out; have z20_ := Z334.out; have z21_ := Z354.out; omega)))
    have R364 := Lib.hid (Kd.R_kept R343.out hk353 (fun k_ hk_ hn_ => absurd hk_ (by have z0_ := Z7.out; have z1_ := Z8.out; have z2_ := Z9.out; have z3_ := Z17.out; have z4_ := Z71.out; have z5_ := Z74.out; have z6_ := Z75.out; have z7_ := Z87.out; have z8_ := Z105.out; have z9_ := Z106.out; have z10_ := Z125.out; have z11_ := Z126.out; have z12_ := Z145.out; have z13_ := Z146.out; have z14_ := Z171.out; have z15_ := Z195.out; have z16_ := Z232.out; have z17_ := Z256.out; have z18_ := Z287.out; have z19_ := Z309.out; have z20_ := Z334.out; have z21_ := Z354.out; omega)))
    have R365 := Lib.hid (Kd.R_kept R344.out hk353 (fun k_ hk_ hn_ => absurd hk_ (by have z0_ := Z7.out; have z1_ := Z8.out; have z2_ := Z9.out; have z3_ := Z17.out; have z4_ := Z71.out; have z5_ := Z74.out; have z6_ := Z75.out; have z7_ := Z87.out; have z8_ := Z105.out; have z9_ := Z106.out; have z10_ := Z125.out; have z11_ := Z126.out; have z12_ := Z145.out; have z13_ := Z146.out; have z14_ := Z171.out; have z15_ := Z195.out; have z16_ := Z232.out; have z17_ := Z256.out; have z18_ := Z287.out; have z19_ := Z309.out; have z20_ := Z334.out; have z21_ := Z354.out; omega)))
    clear X336 X337 X338 X339 X340 X341 R342 R343 R344
    clear hk353 hB352
    have X367 := Lib.hid (by have h_ := X362.out; rw [len_R R356.out] at h_; exact h_)
    clear X362
    have R366 := Lib.hid (R_len R356.out)
    clear R356
    obtain ⟨p368, p369, p370, p371⟩ := cells2 X367.out
    have p372 := blk_lt X367.out
    go_wp2_with fail
    (with_reducible refine (laws_heldDiagram.calls kHR0 _ _ _ _ _ _ _ ?hr0_1 ?hc0_1 HR0.out).mono ?_)
    case hr0_1 => repeat (first | exact (Kd.R_reads' R366.out).2.2 | (with_reducible refine Kd.C_alloc ?_ _) | (with_reducible refine Kd.C_drewN ?_ _) | (with_reducible refine Kd.C_drew ?_))
    case hc0_1 => exact (Kd.R_reads' R366.out).2.1
    rintro e W19 ⟨rfl, hb373⟩
    have Z374 := Lib.hid hb373.size
    have HB375 := Lib.hid (pchain HB355.out hb373)
    have X376 := Lib.hid ((hb373.block _ (blk_lt X357.out)).trans X357.out)
    have X377 := Lib.hid ((hb373.block _ (blk_lt X358.out)).trans X358.out)
    have X378 := Lib.hid ((hb373.block _ (blk_lt X359.out)).trans X359.out)
    have X379 := Lib.hid ((hb373.block _ (blk_lt X360.out)).trans X360.out)
    have X380 := Lib.hid ((hb373.block _ (blk_lt X361.out)).trans X361.out)
    have X381 := Lib.hid ((hb373.block _ (blk_lt X367.out)).trans X367.out)
    have R382 := Lib.hid (Kd.R_below R363.out hb373)
    have R383 := Lib.hid (Kd.R_below R364.out hb373)
    have R384 := Lib.hid (Kd.R_below R365.out hb373)
    have R385 := Lib.hid (Kd.R_below R366.out hb373)
    clear X357 X358 X359 X360 X361 X367 R363 R364 R365 R366
    clear hb373
    obtain ⟨p386, p387, p388, p389⟩ := cells2 X376.out
    have p390 := blk_lt X376.out
    obtain ⟨p391, p392, p393, p394⟩ := cells2 X377.out
    have p395 := blk_lt X377.out
    go_wp2_with fail
    have HQ0 := Lib.hid (drewP W19)
    go_cut [17, 18] (fun s17 s18 wx => ∃ (q397g0 : Nat) (hA0_1 : Option Addr) (hC0_1 : Nat), s17 = .pointer (some ⟨q397g0, 0, none⟩) ∧ s18 = .bool rs1_0 ∧ Hid (wx.heap[q397g0]? = some (.cells #[.int .i64 rs0_0, .slice hA0_1 rl0_1.length hC0_1] 29 (0, 0))) ∧ Hid (W19.heap.size ≤ q397g0) ∧ Hid (Kd.R k97 97 wx w.heap.size (fun k => W19.heap.size ≤ k ∧ k < wx.heap.size) (.slice hA0_1 rl0_1.length hC0_1) rl0_1) ∧ Hid (Below W19.heap.size W19 wx))
    case first =>
      have ne0_0 := Nat.ne_of_gt (blk_lt X376.out)
      have ne0_1 := Nat.ne_of_gt (blk_lt X377.out)
      go_region_held3 (fun w' => w'.cell? ⟨w.heap.size, 0, none⟩ = some (.int .i64 a1_0) ∧ w'.cell? ⟨w.heap.size, 1, none⟩ = some (.slice A1_1 l1_1.length c1_1) ∧ w'.cell? ⟨w.heap.size + 1, 0, none⟩ = some (.int .i64 a2_0) ∧ w'.cell? ⟨w.heap.size + 1, 1, none⟩ = some (.slice A2_1 l2_1.length c2_1)) (go_keep) (first | (first | (go_at_call 16; (with_reducible refine (laws_toDiagram.calls kT1 _ _ _ _ _ _ _ ?hr0_1 ?hc0_1 T1.out).mono ?_); (case hr0_1 => repeat (first | exact Kd.C_below HA1_1.out HB375.out | exact Kd.C_below HA1_1.out (pchain HB375.out HQ2.out) | exact Kd.C_below HA1_1.out (pchain HB375.out HQ1.out) | (with_reducible refine Kd.C_alloc ?_ _) | (with_reducible refine Kd.C_drewN ?_ _) | (with_reducible refine Kd.C_drew ?_))); (case hc0_1 => exact hc1_1); rintro e W20 ⟨v404, rfl, hR402, hb403⟩; obtain ⟨t396TA1_1, t396TC1_1, rfl⟩ := Kd.R_slice hR402; have HT1_1 := Lib.hid (Kd.R_reads' hR402).2; clear hR402; have HQ1 := Lib.hid (pchainR (w := W19) hb403 (by repeat (first | (with_reducible exact Below.refl _ _) | exact HQ0.out | (with_reducible refine below_alloc ?_ _) | (with_reducible refine below_drew ?_)))); obtain ⟨p405, p406, p407, p408⟩ := cells2 ((HQ1.out.block _ (blk_lt X376.out)).trans X376.out); obtain ⟨p409, p410, p411, p412⟩ := cells2 ((HQ1.out.block _ (blk_lt X377.out)).trans X377.out); have ne1_0 := Nat.ne_of_gt (Nat.lt_of_lt_of_le (blk_lt X376.out) HQ1.out.size); have ne1_1 := Nat.ne_of_gt (Nat.lt_of_lt_of_le (blk_lt X377.out) HQ1.out.size); (first | (have HBX2 := Lib.hid ((hb403.block _ (blk_lt HBX.out)).trans HBX.out); clear HBX; have HBX := HBX2; clear HBX2) | (first | (with_reducible have HB1 := box1e (n := W19.heap.size) hb403 (by first | exact Nat.le_refl _ | exact HQ3.out.size | exact HQ2.out.size | exact HQ1.out.size | exact HQ0.out.size); obtain ⟨HBX1, HGE1, HG1⟩ := HB1; have HBX := Lib.hid HBX1; have HGE := Lib.hid HGE1; clear HBX1 HGE1 HG1) | (with_reducible have HB1 := box1d (n := W19.heap.size) hb403 (by first | exact Nat.le_refl _ | exact HQ3.out.size | exact HQ2.out.size | exact HQ1.out.size | exact HQ0.out.size); obtain ⟨HBX1, HGE1, HG1⟩ := HB1; have HBX := Lib.hid HBX1; have HGE := Lib.hid HGE1; clear HBX1 HGE1 HG1) | (with_reducible have HB1 := box1a (n := W19.heap.size) hb403 (by first | exact Nat.le_refl _ | exact HQ3.out.size | exact HQ2.out.size | exact HQ1.out.size | exact HQ0.out.size); obtain ⟨HBX1, HGE1, HG1⟩ := HB1; have HBX := Lib.hid HBX1; have HGE := Lib.hid HGE1; clear HBX1 HGE1 HG1) | skip)); (try (have HC1 := cells2 HBX.out; obtain ⟨p398, p399, p400, p401⟩ := HC1)); clear hb403) | (go_at_call 16; (with_reducible refine (laws_toDiagram.calls kT2 _ _ _ _ _ _ _ ?hr0_1 ?hc0_1 T2.out).mono ?_); (case hr0_1 => repeat (first | exact Kd.C_below HA2_1.out HB375.out | exact Kd.C_below HA2_1.out (pchain HB375.out HQ2.out) | exact Kd.C_below HA2_1.out (pchain HB375.out HQ1.out) | (with_reducible refine Kd.C_alloc ?_ _) | (with_reducible refine Kd.C_drewN ?_ _) | (with_reducible refine Kd.C_drew ?_))); (case hc0_1 => exact hc2_1); rintro e W21 ⟨v415, rfl, hR413, hb414⟩; obtain ⟨t396TA2_1, t396TC2_1, rfl⟩ := Kd.R_slice hR413; have HT2_1 := Lib.hid (Kd.R_reads' hR413).2; clear hR413; have HQ2 := Lib.hid (pchainR (w := W19) hb414 (by repeat (first | (with_reducible exact Below.refl _ _) | exact HQ1.out | (with_reducible refine below_alloc ?_ _) | (with_reducible refine below_drew ?_)))); obtain ⟨p416, p417, p418, p419⟩ := cells2 ((HQ2.out.block _ (blk_lt X376.out)).trans X376.out); obtain ⟨p420, p421, p422, p423⟩ := cells2 ((HQ2.out.block _ (blk_lt X377.out)).trans X377.out); have ne2_0 := Nat.ne_of_gt (Nat.lt_of_lt_of_le (blk_lt X376.out) HQ2.out.size); have ne2_1 := Nat.ne_of_gt (Nat.lt_of_lt_of_le (blk_lt X377.out) HQ2.out.size); have HTm := Lib.hid (rT HT1_1.out (pchainR hb414 (by repeat (first | (with_reducible exact Below.refl _ _) | (with_reducible refine below_alloc ?_ _) | (with_reducible refine below_drew ?_))))); clear HT1_1; have HT1_1 := HTm; clear HTm; (first | (have HBX2 := Lib.hid ((hb414.block _ (blk_lt HBX.out)).trans HBX.out); clear HBX; have HBX := HBX2; clear HBX2) | (first | (with_reducible have HB1 := box1e (n := W19.heap.size) hb414 (by first | exact Nat.le_refl _ | exact HQ3.out.size | exact HQ2.out.size | exact HQ1.out.size | exact HQ0.out.size); obtain ⟨HBX1, HGE1, HG1⟩ := HB1; have HBX := Lib.hid HBX1; have HGE := Lib.hid HGE1; clear HBX1 HGE1 HG1) | (with_reducible have HB1 := box1d (n := W19.heap.size) hb414 (by first | exact Nat.le_refl _ | exact HQ3.out.size | exact HQ2.out.size | exact HQ1.out.size | exact HQ0.out.size); obtain ⟨HBX1, HGE1, HG1⟩ := HB1; have HBX := Lib.hid HBX1; have HGE := Lib.hid HGE1; clear HBX1 HGE1 HG1) | (with_reducible have HB1 := box1a (n := W19.heap.size) hb414 (by first | exact Nat.le_refl _ | exact HQ3.out.size | exact HQ2.out.size | exact HQ1.out.size | exact HQ0.out.size); obtain ⟨HBX1, HGE1, HG1⟩ := HB1; have HBX := Lib.hid HBX1; have HGE := Lib.hid HGE1; clear HBX1 HGE1 HG1) | skip)); (try (have HC1 := cells2 HBX.out; obtain ⟨p398, p399, p400, p401⟩ := HC1)); clear hb414)) | (go_at_call 45; (with_reducible refine (impl_OrDiagrams.calls kFG _ _ _ _ _ _ _ _ _ _ _ _ _ ?hr1_1 ?hc1_1 ?hr2_1 ?hc2_1 FG.out).mono ?_); (case hr1_1 => repeat (first | exact HT1_1.out.2 | (with_reducible refine Kd.C_alloc ?_ _) | (with_reducible refine Kd.C_drewN ?_ _) | (with_reducible refine Kd.C_drew ?_))); (case hc1_1 => exact HT1_1.out.1); (case hr2_1 => repeat (first | exact HT2_1.out.2 | (with_reducible refine Kd.C_alloc ?_ _) | (with_reducible refine Kd.C_drewN ?_ _) | (with_reducible refine Kd.C_drew ?_))); (case hc2_1 => exact HT2_1.out.1); rintro e W22 ⟨v426, rfl, hR424, hb425⟩; obtain ⟨hA0_1, hC0_1, rfl⟩ := Kd.R_slice hR424; have HF1_h0 := Lib.hid hR424; clear hR424; have HQ3 := Lib.hid (pchainR (w := W19) hb425 (by repeat (first | (with_reducible exact Below.refl _ _) | exact HQ2.out | (with_reducible refine below_alloc ?_ _) | (with_reducible refine below_drew ?_)))); obtain ⟨p427, p428, p429, p430⟩ := cells2 ((HQ3.out.block _ (blk_lt X376.out)).trans X376.out); obtain ⟨p431, p432, p433, p434⟩ := cells2 ((HQ3.out.block _ (blk_lt X377.out)).trans X377.out); have ne3_0 := Nat.ne_of_gt (Nat.lt_of_lt_of_le (blk_lt X376.out) HQ3.out.size); have ne3_1 := Nat.ne_of_gt (Nat.lt_of_lt_of_le (blk_lt X377.out) HQ3.out.size); (first | (have HG := Lib.hid (blk_lt HBX.out); have HBX2 := Lib.hid ((hb425.block _ (blk_lt HBX.out)).trans HBX.out); clear HBX; have HBX := HBX2; clear HBX2) | (first | (with_reducible have HB1 := box1e (n := W19.heap.size) hb425 (by first | exact Nat.le_refl _ | exact HQ3.out.size | exact HQ2.out.size | exact HQ1.out.size | exact HQ0.out.size); obtain ⟨HBX1, HGE1, HG1⟩ := HB1; have HBX := Lib.hid HBX1; have HGE := Lib.hid HGE1; have HG := Lib.hid HG1; clear HBX1 HGE1 HG1) | (with_reducible have HB1 := box1d (n := W19.heap.size) hb425 (by first | exact Nat.le_refl _ | exact HQ3.out.size | exact HQ2.out.size | exact HQ1.out.size | exact HQ0.out.size); obtain ⟨HBX1, HGE1, HG1⟩ := HB1; have HBX := Lib.hid HBX1; have HGE := Lib.hid HGE1; have HG := Lib.hid HG1; clear HBX1 HGE1 HG1) | (with_reducible have HB1 := box1a (n := W19.heap.size) hb425 (by first | exact Nat.le_refl _ | exact HQ3.out.size | exact HQ2.out.size | exact HQ1.out.size | exact HQ0.out.size); obtain ⟨HBX1, HGE1, HG1⟩ := HB1; have HBX := Lib.hid HBX1; have HGE := Lib.hid HGE1; have HG := Lib.hid HG1; clear HBX1 HGE1 HG1) | skip)); (try (have HC1 := cells2 HBX.out; obtain ⟨p398, p399, p400, p401⟩ := HC1)); clear hb425))
      all_goals
        go_wp2_with fail
        go_meet
        first
          | exact ⟨_, hA0_1, hC0_1, rfl, rfl, Lib.hid (by first | exact heap_alloc_new _ _ | simpa using heap_alloc_new _ _), Lib.hid HQ3.out.size, Lib.hid (cutA (W := W19) HF1_h0.out HQ3.out (by first | exact HQ2.out.size | (simpa using HQ2.out.size) | (have := HQ2.out.size; simp; omega)) HB375.out.size _), Lib.hid (below_alloc HQ3.out _)⟩
          | exact ⟨_, hA0_1, hC0_1, rfl, rfl, Lib.hid (blk_set (blk_set HBX.out 0 _) 1 _), HGE, Lib.hid (cutB2 (W := W19) HF1_h0.out (by first | exact HQ2.out.size | (have := HQ2.out.size; simp; omega)) HB375.out.size HG.out), Lib.hid (below_setN (below_setN HQ3.out HGE.out) HGE.out)⟩
    case rest =>
      rename World => W23
      obtain ⟨q397g0, hA0_1, hC0_1, rfl, rfl, X435, Z436, R437, HQ438⟩ := hcut
      have Z439 := Lib.hid HQ438.out.size
      have Z440 := Lib.hid (blk_lt X435.out)
      have HB441 := Lib.hid (pchain HB375.out HQ438.out)
      have X442 := Lib.hid ((HQ438.out.block _ (blk_lt X376.out)).trans X376.out)
      have X443 := Lib.hid ((HQ438.out.block _ (blk_lt X377.out)).trans X377.out)
      have X444 := Lib.hid ((HQ438.out.block _ (blk_lt X378.out)).trans X378.out)
      have X445 := Lib.hid ((HQ438.out.block _ (blk_lt X379.out)).trans X379.out)
      have X446 := Lib.hid ((HQ438.out.block _ (blk_lt X380.out)).trans X380.out)
      have X447 := Lib.hid ((HQ438.out.block _ (blk_lt X381.out)).trans X381.out)
      have R448 := Lib.hid (Kd.R_below R382.out HQ438.out)
      have R449 := Lib.hid (Kd.R_below R383.out HQ438.out)
      have R450 := Lib.hid (Kd.R_below R384.out HQ438.out)
      have R451 := Lib.hid (Kd.R_below R385.out HQ438.out)
      clear X376 X377 X378 X379 X380 X381 R382 R383 R384 R385
      clear HQ0 HQ438
      obtain ⟨p452, p453, p454, p455⟩ := cells2 X435.out
      have p456 := blk_lt X435.out
      obtain ⟨p457, p458, p459, p460⟩ := cells2 X444.out
      have p461 := blk_lt X444.out
      go_wp2_with fail
      (with_reducible refine (laws_eqDiagram.calls kER0 _ _ _ _ _ _ _ _ _ _ ?hr0_1 ?hc0_1 ?hr1_1 ?hc1_1 ER0.out).mono ?_)
      case hr0_1 => repeat (first | exact (Kd.R_reads' R437.out).2.2 | (with_reducible refine Kd.C_alloc ?_ _) | (with_reducible refine Kd.C_drewN ?_ _) | (with_reducible refine Kd.C_drew ?_))
      case hc0_1 => exact (Kd.R_reads' R437.out).2.1
      case hr1_1 => repeat (first | exact (Kd.R_reads' R448.out).2.2 | (with_reducible refine Kd.C_alloc ?_ _) | (with_reducible refine Kd.C_drewN ?_ _) | (with_reducible refine Kd.C_drew ?_))
      case hc1_1 => exact (Kd.R_reads' R448.out).2.1
      rintro e W24 ⟨rfl, hb462⟩
      have Z463 := Lib.hid hb462.size
      have HB464 := Lib.hid (pchain HB441.out hb462)
      have X465 := Lib.hid ((hb462.block _ (blk_lt X442.out)).trans X442.out)
      have X466 := Lib.hid ((hb462.block _ (blk_lt X443.out)).trans X443.out)
      have X467 := Lib.hid ((hb462.block _ (blk_lt X444.out)).trans X444.out)
      have X468 := Lib.hid ((hb462.block _ (blk_lt X445.out)).trans X445.out)
      have X469 := Lib.hid ((hb462.block _ (blk_lt X446.out)).trans X446.out)
      have X470 := Lib.hid ((hb462.block _ (blk_lt X447.out)).trans X447.out)
      have X471 := Lib.hid ((hb462.block _ (blk_lt X435.out)).trans X435.out)
      have R472 := Lib.hid (Kd.R_below R448.out hb462)
      have R473 := Lib.hid (Kd.R_below R449.out hb462)
      have R474 := Lib.hid (Kd.R_below R450.out hb462)
      have R475 := Lib.hid (Kd.R_below R451.out hb462)
      have R476 := Lib.hid (Kd.R_below R437.out hb462)
      clear X442 X443 X444 X445 X446 X447 X435 R448 R449 R450 R451 R437
      clear hb462
      obtain ⟨p477, p478, p479, p480⟩ := cells2 X470.out
      have p481 := blk_lt X470.out
      go_wp2_with fail
      (with_reducible refine (laws_heldDiagram.calls kHR0 _ _ _ _ _ _ _ ?hr0_1 ?hc0_1 HR0.out).mono ?_)
      case hr0_1 => repeat (first | exact (Kd.R_reads' R475.out).2.2 | (with_reducible refine Kd.C_alloc ?_ _) | (with_reducible refine Kd.C_drewN ?_ _) | (with_reducible refine Kd.C_drew ?_))
      case hc0_1 => exact (Kd.R_reads' R475.out).2.1
      rintro e W25 ⟨rfl, hb482⟩
      have Z483 := Lib.hid hb482.size
      have HB484 := Lib.hid (pchain HB464.out hb482)
      have X485 := Lib.hid ((hb482.block _ (blk_lt X465.out)).trans X465.out)
      have X486 := Lib.hid ((hb482.block _ (blk_lt X466.out)).trans X466.out)
      have X487 := Lib.hid ((hb482.block _ (blk_lt X467.out)).trans X467.out)
      have X488 := Lib.hid ((hb482.block _ (blk_lt X468.out)).trans X468.out)
      have X489 := Lib.hid ((hb482.block _ (blk_lt X469.out)).trans X469.out)
      have X490 := Lib.hid ((hb482.block _ (blk_lt X470.out)).trans X470.out)
      have X491 := Lib.hid ((hb482.block _ (blk_lt X471.out)).trans X471.out)
      have R492 := Lib.hid (Kd.R_below R472.out hb482)
      have R493 := Lib.hid (Kd.R_below R473.out hb482)
      have R494 := Lib.hid (Kd.R_below R474.out hb482)
      have R495 := Lib.hid (Kd.R_below R475.out hb482)
      have R496 := Lib.hid (Kd.R_below R476.out hb482)
      clear X465 X466 X467 X468 X469 X470 X471 R472 R473 R474 R475 R476
      clear hb482
      go_wp2_with fail
      go_ret
      exact ⟨rfl, HB484.out⟩
/-- What is left to the plain half: either a size fails, or every part answers as it should. -/
def laws_FnExactOrDiagrams.Facts (a0 : Int) (a1_0 : Int) (l1_1 : List (S99)) (a2_0 : Int) (l2_1 : List (S99)) : Prop := ∃ n0 : Int, laws_szDiagram.f a1_0 l1_1 1048576 = some n0 ∧ (n0 < 0 ∨ (0 ≤ n0 ∧ ∃ n1 : Int, laws_szDiagram.f a2_0 l2_1 n0 = some n1 ∧ (n1 < 0 ∨ (0 ≤ n1 ∧ ∃ (xs1_0 : Int) (xl1_1 : List (S97)) (xs2_0 : Int) (xl2_1 : List (S97)) (rs0_0 : Int) (rl0_1 : List (S97)) (rs1_0 : Bool) (kk1 : Int) (xm1_1 : List (S97)) (kk2 : Int) (xm2_1 : List (S97)) (mm0 : Int) (rm0_1 : List (S97)), (∃ k, laws_toDiagram.f k a1_0 l1_1 = some (xs1_0, xl1_1)) ∧ (∃ k, laws_toDiagram.f k a2_0 l2_1 = some (xs2_0, xl2_1)) ∧ (∃ k, spec_OrDiagrams.f k a0 xs1_0 xl1_1 xs2_0 xl2_1 = some (rs0_0, rl0_1, rs1_0)) ∧ (∃ k, impl_OrDiagrams.f k a0 xs1_0 xl1_1 xs2_0 xl2_1 = some (rs0_0, rl0_1, rs1_0)) ∧ (∃ k, laws_eqDiagram.f k rs0_0 rl0_1 rs0_0 rl0_1 = some true) ∧ (∃ k, laws_eqDiagram.f k xs1_0 xl1_1 xs1_0 xl1_1 = some true) ∧ (∃ k, laws_eqDiagram.f k xs2_0 xl2_1 xs2_0 xl2_1 = some true) ∧ (∃ k, laws_markDiagram.f k xs1_0 xl1_1 1 = some (kk1, xm1_1)) ∧ (∃ k, laws_markDiagram.f k xs2_0 xl2_1 kk1 = some (kk2, xm2_1)) ∧ (∃ k, laws_markDiagram.f k rs0_0 rl0_1 1 = some (mm0, rm0_1)) ∧ (∃ k, laws_heldDiagram.f k rs0_0 rm0_1 1 = some mm0) ∧ 0 ≤ kk2 ∧ 0 ≤ mm0))))
theorem laws_FnExactOrDiagrams.of_facts (a0 : Int) (a1_0 : Int) (A1_1 : Option Addr) (c1_1 : Nat) (l1_1 : List (S99)) (a2_0 : Int) (A2_1 : Option Addr) (c2_1 : Nat) (l2_1 : List (S99)) (hF : laws_FnExactOrDiagrams.Facts a0 a1_0 l1_1 a2_0 l2_1) (w : World) (hr1_1 : Kd.C k99 w A1_1 l1_1.length l1_1) (hc1_1 : l1_1.length ≤ c1_1) (hr2_1 : Kd.C k99 w A2_1 l2_1.length l2_1) (hc2_1 : l2_1.length ≤ c2_1) :
    Calls Try.prog 12 #[.int .i64 a0, .agg #[.int .i64 a1_0, .slice A1_1 l1_1.length c1_1], .agg #[.int .i64 a2_0, .slice A2_1 l2_1.length c2_1]] w fun e w' => e = .returned (.bool true) ∧ Below w.heap.size w w' := by
  obtain ⟨n0, S0, hF⟩ := hF
  rcases hF with gn | ⟨g0, hF⟩
  · exact laws_FnExactOrDiagrams.no0 a0 a1_0 A1_1 c1_1 l1_1 a2_0 A2_1 c2_1 l2_1 n0 (Lib.hid S0)  gn w hr1_1 hc1_1 hr2_1 hc2_1
  obtain ⟨n1, S1, hF⟩ := hF
  rcases hF with gn | ⟨g1, hF⟩
  · exact laws_FnExactOrDiagrams.no1 a0 a1_0 A1_1 c1_1 l1_1 a2_0 A2_1 c2_1 l2_1 n0 n1 (Lib.hid S0) (Lib.hid S1) g0 gn w hr1_1 hc1_1 hr2_1 hc2_1
  obtain ⟨xs1_0, xl1_1, xs2_0, xl2_1, rs0_0, rl0_1, rs1_0, kk1, xm1_1, kk2, xm2_1, mm0, rm0_1, ⟨kT1, T1⟩, ⟨kT2, T2⟩, ⟨kFW, FW⟩, ⟨kFG, FG⟩, ⟨kER0, ER0⟩, ⟨kEX1, EX1⟩, ⟨kEX2, EX2⟩, ⟨kMX1, MX1⟩, ⟨kMX2, MX2⟩, ⟨kMR0, MR0⟩, ⟨kHR0, HR0⟩, gk, gm⟩ := hF
  exact laws_FnExactOrDiagrams.go a0 a1_0 A1_1 c1_1 l1_1 a2_0 A2_1 c2_1 l2_1 xs1_0 xl1_1 xs2_0 xl2_1 rs0_0 rl0_1 rs1_0 kk1 xm1_1 kk2 xm2_1 mm0 rm0_1 n0 n1 (Lib.hid S0) (Lib.hid S1) kT1 (Lib.hid T1) kT2 (Lib.hid T2) kFW (Lib.hid FW) kFG (Lib.hid FG) kER0 (Lib.hid ER0) kEX1 (Lib.hid EX1) kEX2 (Lib.hid EX2) kMX1 (Lib.hid MX1) kMX2 (Lib.hid MX2) kMR0 (Lib.hid MR0) kHR0 (Lib.hid HR0) g0 g1 gk gm w hr1_1 hc1_1 hr2_1 hc2_1
end Go.Proofs.Ytggjpogcimdepaa.GLaw
namespace Go.Proofs.Ytggjpogcimdepaa.Print
def laws_FnExactOrDiagrams.Pure : Prop := ∀ (a0 : Int) (a1_0 : Int) (l1_1 : List (S99)) (a2_0 : Int) (l2_1 : List (S99)), (Lit.int .i64 a0).wf = true → ((Lit.int .i64 a1_0).wf = true ∧ (l1_1.length ≤ maxLen ∧ ∀ x22 ∈ l1_1, ((Lit.int .i64 x22.f0).wf = true ∧ (Lit.int .i64 x22.f1).wf = true ∧ (Lit.int .i64 x22.f2).wf = true))) → ((Lit.int .i64 a2_0).wf = true ∧ (l2_1.length ≤ maxLen ∧ ∀ x22 ∈ l2_1, ((Lit.int .i64 x22.f0).wf = true ∧ (Lit.int .i64 x22.f1).wf = true ∧ (Lit.int .i64 x22.f2).wf = true))) → GLaw.laws_FnExactOrDiagrams.Facts a0 a1_0 l1_1 a2_0 l2_1
end Go.Proofs.Ytggjpogcimdepaa.Print
namespace Go.Proofs.Ytggjpogcimdepaa.DiagA
open Go.RowKit Go.Proofs.YtggjpogcimdepaaW.PrintWords Go.Proofs.YtggjpogcimdepaaW.PrintMore Go.Proofs.Ytggjpogcimdepaa.XEv Go.Proofs.Ytggjpogcimdepaa.Print Go.Proofs.Ytggjpogcimdepaa.Man
set_option linter.unusedVariables false
set_option linter.unusedSimpArgs false
def ob (v b : Nat) : Int := Go.bits .or .i64 (b : Int) (wrap64 (2 ^ (v - 1)))
theorem ob_all : ∀ v, v < 7 → ∀ b, b < 32 → 1 ≤ v → b < 2 ^ (v - 1) → 0 ≤ ob v b ∧ ob v b < ((2 ^ v : Nat) : Int) := by decide +kernel
theorem ob_range {v bits : Int} (h1 : 1 ≤ v) (h6 : v ≤ 6) (h0 : 0 ≤ bits) (hb : bits < ((2 ^ (v.toNat - 1) : Nat) : Int)) :
    0 ≤ Go.bits .or .i64 bits (wrap64 (2 ^ (v.toNat - 1))) ∧ Go.bits .or .i64 bits (wrap64 (2 ^ (v.toNat - 1))) < ((2 ^ v.toNat : Nat) : Int) := by
  obtain ⟨n, rfl⟩ := Int.eq_ofNat_of_zero_le (show 0 ≤ v by omega)
  obtain ⟨b, rfl⟩ := Int.eq_ofNat_of_zero_le h0
  rw [Int.toNat_natCast] at hb ⊢
  have h5 : (2 : Nat) ^ (n - 1) ≤ 2 ^ 5 := Nat.pow_le_pow_right (by omega) (by omega)
  exact ob_all n (by omega) b (by omega) (by omega) (by omega)
theorem shl1' {v : Int} (h1 : 1 ≤ v) (h6 : v ≤ 6) : shl .i64 1 (wrap64 (v - 1)) = wrap64 (2 ^ (v.toNat - 1)) := by
  rw [wrap_in (n := v - 1) (by omega) (by omega), shl1 (by omega) (by omega)]
  obtain ⟨n, rfl⟩ := Int.eq_ofNat_of_zero_le (show 0 ≤ v by omega)
  rw [Int.toNat_natCast, show ((n : Int) - 1).toNat = n - 1 by omega]
  have h5 : (2 : Nat) ^ (n - 1) ≤ 2 ^ 5 := Nat.pow_le_pow_right (by omega) (by omega)
  have e : ((2 : Int) ^ (n - 1)) = ((2 ^ (n - 1) : Nat) : Int) := (Int.natCast_pow 2 (n - 1)).symm
  rw [e]
  have h7 : (2 : Nat) ^ 5 = 32 := rfl
  rw [h7] at h5
  generalize (2 : Nat) ^ (n - 1) = q at h5 ⊢
  rw [wrap_in (by omega) (by omega)]
theorem bq (a b : Int) : (a == b) = (b == a) := BEq.comm
theorem find_ (nodes : List S97) (hl : nodes.length ≤ 1000) (n : S97) : ∀ (r q : List S97), nodes = q ++ r →
    Ev (fun k => spec_l26Plan.l0 k nodes (q.length : Int) n.f0 n.f1 n.f2) (if nidx r n < 0 then (nodes ++ [n], (nodes.length : Int) + 2) else (nodes, (q.length : Int) + nidx r n + 2))
  | [], q, h => by
    subst h
    refine estep (fun k => spec_l26Plan.l0.eq_2 (k := k) ..) (eneg (by simp) (epos (by omega) (eok ?_)))
    rw [wrap_in (by omega) (by omega)]
    simp [nidx]
  | x :: r, q, h => by
    have hr : rd_T97 nodes (q.length : Int) = x := by subst h; simp [rd_T97]
    have hl2 : (q.length : Int) < nodes.length := by subst h; simp; omega
    refine estep (fun k => spec_l26Plan.l0.eq_2 (k := k) ..) (epos hl2 (epos (by omega) ?_))
    rw [hr, bq x.f0, bq x.f1, bq x.f2]
    by_cases e : (n.f0 == x.f0 && (n.f1 == x.f1 && n.f2 == x.f2)) = true
    · refine epos e (eok ?_)
      rw [nidx_hit e, wrap_in (by omega) (by omega)]
      simp
    · refine eneg e ?_
      rw [wrap_in (by omega) (by omega), show (q.length : Int) + 1 = ((q ++ [x]).length : Int) by simp]
      refine ecast (find_ nodes hl n r (q ++ [x]) (by rw [h]; simp)) ?_
      have hge := nidx_ge n r
      rw [nidx_miss e]
      by_cases h0 : nidx r n < 0
      · simp [h0]
      · rw [if_neg h0, if_neg h0, if_neg (by omega)]
        simp
        omega
theorem plan_ (vars : Int) (h0 : 0 ≤ vars) (h6 : vars ≤ 6) (values : List Bool) (p : Int → Bool) (hlen : values.length = 2 ^ vars.toNat) (hval : ∀ b : Nat, b < 2 ^ vars.toNat → rdOf false values (b : Int) = p (b : Int)) :
    ∀ (m : Nat) (v bits : Int) (nodes : List S97), 1 ≤ v → v ≤ vars + 1 → vars + 1 - v < m → 0 ≤ bits → bits < ((2 ^ (v.toNat - 1) : Nat) : Int) → nodes.length + 2 ^ m ≤ 1000 →
      Ev (fun k => spec_l26Plan.f k vars values v bits nodes) (bplan vars p m v bits nodes)
  | 0, v, bits, nodes, h1, h2, h3, h4, h5, h6 => by omega
  | m + 1, v, bits, nodes, h1, h2, h3, h4, h5, hn => by
    rw [bplan]
    refine estep (fun k => spec_l26Plan.f.eq_2 (k := k) ..) ?_
    by_cases hv : v > vars
    · obtain ⟨b, rfl⟩ := Int.eq_ofNat_of_zero_le h4
      have hvv : v.toNat - 1 = vars.toNat := by omega
      rw [hvv] at h5
      refine epos hv (epos h4 (epos (by rw [hlen]; exact h5) ?_))
      rw [if_pos hv, hval b (by omega)]
      by_cases hp : p (b : Int) = true
      · exact epos hp (eok (by simp [hp]))
      · exact eneg hp (eok (by simp [hp]))
    · have hp2 : 2 ^ (m + 1) = 2 ^ m + 2 ^ m := by rw [Nat.pow_succ]; omega
      have hq : 1 ≤ 2 ^ m := Nat.one_le_two_pow
      have hvt : (v + 1).toNat - 1 = v.toNat := by omega
      have hmono : (2 : Nat) ^ (v.toNat - 1) ≤ 2 ^ v.toNat := Nat.pow_le_pow_right (by omega) (by omega)
      have hob := ob_range h1 (by omega) h4 h5
      have ha := plan_ vars h0 h6 values p hlen hval m (v + 1) bits nodes (by omega) (by omega) (by omega) h4 (by rw [hvt]; omega) (by omega)
      have hla := bplan_len vars p m (v + 1) bits nodes
      have hb := plan_ vars h0 h6 values p hlen hval m (v + 1) (Go.bits .or .i64 bits (wrap64 (2 ^ (v.toNat - 1)))) (bplan vars p m (v + 1) bits nodes).1 (by omega) (by omega) (by omega) hob.1 (by rw [hvt]; exact hob.2) (by omega)
      have hlb := bplan_len vars p m (v + 1) (Go.bits .or .i64 bits (wrap64 (2 ^ (v.toNat - 1)))) (bplan vars p m (v + 1) bits nodes).1
      rw [if_neg hv]
      refine eneg hv ?_
      rw [wrap_in (n := v + 1) (by omega) (by omega), shl1' h1 (by omega)]
      refine ebind ha (epos (by rw [wrap_in (by omega) (by omega)]; omega) (ebind hb ?_))
      dsimp only
      generalize bplan vars p m (v + 1) bits nodes = a at *
      generalize bplan vars p m (v + 1) (Go.bits .or .i64 bits (wrap64 (2 ^ (v.toNat - 1)))) a.1 = b at *
      by_cases he : a.2 = b.2
      · rw [if_pos he]
        exact epos he (eok rfl)
      · rw [if_neg he]
        refine eneg he ?_
        have hf := find_ b.1 (by omega) ⟨v, a.2, b.2⟩ b.1 [] rfl
        refine ecast hf ?_
        by_cases hi : nidx b.1 ⟨v, a.2, b.2⟩ < 0
        · rw [if_pos hi, if_pos hi]
        · rw [if_neg hi, if_neg hi]
          simp
/-- The reference's diagram of values. -/
theorem of_ (vars : Int) (h0 : 0 ≤ vars) (h6 : vars ≤ 6) (values : List Bool) (p : Int → Bool) (hlen : values.length = 2 ^ vars.toNat) (hval : ∀ b : Nat, b < 2 ^ vars.toNat → rdOf false values (b : Int) = p (b : Int)) :
    Ev (fun k => spec_l26Of.f k vars values) ((bplan vars p 8 1 0 []).2, (bplan vars p 8 1 0 []).1) := by
  unfold spec_l26Of.f
  exact ebind (plan_ vars h0 h6 values p hlen hval 8 1 0 [] (by omega) (by omega) (by omega) (by omega) (by decide) (by decide)) (eok rfl)
theorem rdOf_at (l : List Bool) (n : Nat) (h : n < l.length) : rdOf false l (n : Int) = l[n] := by simp [rdOf, h]
theorem ofVals (vars root : Int) (ns : List S97) (hg : Good vars root ns) : Ev (fun k => spec_l26Of.f k vars (values vars root ns)) ((bplan vars (dval ns root) 8 1 0 []).2, (bplan vars (dval ns root) 8 1 0 []).1) :=
  of_ vars hg.1 hg.2.1 _ _ (values_length vars root ns) (fun b hb => by
    have h1 := values_at vars root ns b hb
    obtain ⟨hlt, he⟩ := List.getElem?_eq_some_iff.1 h1
    rw [rdOf_at _ _ hlt, he])
end Go.Proofs.Ytggjpogcimdepaa.DiagA
namespace Go.Proofs.Ytggjpogcimdepaa.DiagA
open Go.RowKit Go.Proofs.YtggjpogcimdepaaW.PrintWords Go.Proofs.YtggjpogcimdepaaW.PrintMore Go.Proofs.Ytggjpogcimdepaa.XEv Go.Proofs.Ytggjpogcimdepaa.Print Go.Proofs.Ytggjpogcimdepaa.Man
set_option linter.unusedVariables false
set_option linter.unusedSimpArgs false
def opr (f3 : Bool) (p q : Int → Bool) : Int → Bool := fun i => if f3 = true then and_r (p i) (q i) else or_r (p i) (q i)
theorem set_inv (n i : Nat) (hi : i < n) (xs : List Bool) (hx : xs.length = n) (p r : Int → Bool) (hp : ∀ b : Nat, b < n → rdOf false xs (b : Int) = if b < i then r (b : Int) else p (b : Int)) (y : Bool) (hy : y = r (i : Int)) :
    ∀ b : Nat, b < n → rdOf false (xs.set i y) (b : Int) = if b < i + 1 then r (b : Int) else p (b : Int) := by
  intro b hb
  by_cases hbi : b = i
  · subst hbi
    rw [if_pos (by omega), ← hy]
    simp [rdOf, hx, hb]
  · have : rdOf false (xs.set i y) (b : Int) = rdOf false xs (b : Int) := by
      simp only [rdOf, Int.toNat_natCast, List.getD_eq_getElem?_getD]
      rw [List.getElem?_set_ne (by omega)]
    rw [this, hp b hb]
    by_cases h1 : b < i
    · rw [if_pos h1, if_pos (by omega)]
    · rw [if_neg h1, if_neg (by omega)]
theorem two_l (vars : Int) (h0 : 0 ≤ vars) (h6 : vars ≤ 6) (n : Nat) (hn : n = 2 ^ vars.toNat) (hn64 : n ≤ 64) (f3 : Bool) (p q : Int → Bool) (ys : List Bool) (hy : ys.length = n) (hq : ∀ b : Nat, b < n → rdOf false ys (b : Int) = q (b : Int)) :
    ∀ (d i : Nat) (xs : List Bool), i + d = n → xs.length = n → (∀ b : Nat, b < n → rdOf false xs (b : Int) = if b < i then opr f3 p q (b : Int) else p (b : Int)) →
    Ev (fun k => spec_l26Two.l0 k vars f3 xs ys (i : Int)) ((bplan vars (opr f3 p q) 8 1 0 []).2, (bplan vars (opr f3 p q) 8 1 0 []).1, true) := by
  intro d
  induction d with
  | zero =>
    intro i xs hi hx hp
    refine estep (fun k => spec_l26Two.l0.eq_2 (k := k) ..) (eneg (by omega) (ebind (of_ vars h0 h6 xs (opr f3 p q) (by rw [hx, hn]) (fun b hb => ?_)) (eok rfl)))
    rw [hp b (by omega), if_pos (by omega)]
  | succ d ih =>
    intro i xs hi hx hp
    have hpi := hp i (by omega)
    rw [if_neg (by omega)] at hpi
    have hqi := hq i (by omega)
    have hw : wrap64 ((i : Int) + 1) = ((i + 1 : Nat) : Int) := by rw [wrap_in (by omega) (by omega)]; omega
    have next : ∀ y, y = opr f3 p q (i : Int) → Ev (fun k => spec_l26Two.l0 k vars f3 (xs.set ((i : Int)).toNat y) ys (wrap64 ((i : Int) + 1))) ((bplan vars (opr f3 p q) 8 1 0 []).2, (bplan vars (opr f3 p q) 8 1 0 []).1, true) := by
      intro y hyy
      rw [hw, Int.toNat_natCast]
      exact ih (i + 1) _ (by omega) (by simpa using hx) (set_inv n i (by omega) xs hx p _ hp y hyy)
    refine estep (fun k => spec_l26Two.l0.eq_2 (k := k) ..) (epos (by omega) ?_)
    cases f3 with
    | true =>
      refine epos rfl (epos (by omega) ?_)
      cases e : p (i : Int) with
      | true => exact epos (by rw [hpi, e]) (epos (by omega) (next _ (by rw [hqi]; simp [opr, and_r, e])))
      | false => exact eneg (by rw [hpi, e]; simp) (next _ (by simp [opr, and_r, e]))
    | false =>
      refine eneg (by simp) (epos (by omega) ?_)
      cases e : p (i : Int) with
      | true => exact epos (by rw [hpi, e]) (next _ (by simp [opr, or_r, e]))
      | false => exact eneg (by rw [hpi, e]; simp) (epos (by omega) (next _ (by rw [hqi]; simp [opr, or_r, e])))
theorem two_ (vars r1 r2 : Int) (n1 n2 : List S97) (g1 : Good vars r1 n1) (g2 : Good vars r2 n2) (f3 : Bool) :
    Ev (fun k => spec_l26Two.j0 k vars f3 (!true) r1 n1 r2 n2) ((bplan vars (opr f3 (dval n1 r1) (dval n2 r2)) 8 1 0 []).2, (bplan vars (opr f3 (dval n1 r1) (dval n2 r2)) 8 1 0 []).1, true) := by
  have hp6 := pow6 g1.1 g1.2.1
  have at_ : ∀ (r : Int) (ns : List S97), ∀ b : Nat, b < 2 ^ vars.toNat → rdOf false (values vars r ns) (b : Int) = dval ns r (b : Int) := by
    intro r ns b hb
    obtain ⟨hlt, he⟩ := List.getElem?_eq_some_iff.1 (values_at vars r ns b hb)
    rw [rdOf_at _ _ hlt, he]
  refine estep (fun k => spec_l26Two.j0.eq_2 (k := k) ..) (eneg (by simp) (ebind (specVals vars r1 _ g1) (ebind (specVals vars r2 _ g2) ?_)))
  exact two_l vars g1.1 g1.2.1 (2 ^ vars.toNat) rfl hp6.2 f3 (dval n1 r1) (dval n2 r2) _ (values_length vars r2 _) (at_ r2 n2) (2 ^ vars.toNat) 0 _ (by omega) (values_length vars r1 _) (fun b hb => by rw [at_ r1 n1 b hb, if_neg (by omega)])
end Go.Proofs.Ytggjpogcimdepaa.DiagA
namespace Go.Proofs.Ytggjpogcimdepaa.DiagA
open Go.RowKit Go.Proofs.YtggjpogcimdepaaW.PrintWords Go.Proofs.Ytggjpogcimdepaa.XEv Go.Proofs.Ytggjpogcimdepaa.Print
set_option linter.unusedVariables false
set_option linter.unusedSimpArgs false
/-- The marks from a on. -/
def nmarks (a : Int) (n : Nat) : List S97 := (List.range n).map fun j : Nat => (⟨a + 3 * (j : Int), a + 3 * (j : Int) + 1, a + 3 * (j : Int) + 2⟩ : S97)
theorem nmarks_length (a : Int) (n : Nat) : (nmarks a n).length = n := by simp [nmarks]
theorem rdN_set (xs : List S97) (i : Nat) (y : S97) (h : i < xs.length) : rd_T97 (xs.set i y) (i : Int) = y := by simp [rd_T97, h]
theorem nmark_l (n : Nat) (hn : n ≤ 1048576) (a : Int) (ha : 0 ≤ a) (ha2 : a ≤ 4611686018427387904) : ∀ (d : Nat) (i : Nat) (xs : List S97), i + d = n → xs.length = n → (∀ j, j < i → xs[j]? = (nmarks a n)[j]?) →
    Ev (fun k => laws_markBddNodeS.l0 k xs (a + 3 * (i : Int)) (i : Int)) (a + 3 * (n : Int), nmarks a n) := by
  intro d
  induction d with
  | zero =>
    intro i xs hi hx hp
    refine estep (fun k => laws_markBddNodeS.l0.eq_2 (k := k) ..) (eneg (by omega) (eok ?_))
    have : xs = nmarks a n := by
      apply List.ext_getElem?
      intro j
      by_cases hj : j < i
      · exact hp j hj
      · rw [List.getElem?_eq_none (by omega), List.getElem?_eq_none (by simp [nmarks]; omega)]
    rw [this, show i = n from by omega]
  | succ d ih =>
    intro i xs hi hx hp
    refine estep (fun k => laws_markBddNodeS.l0.eq_2 (k := k) ..) (epos (by omega) (epos (by omega) ?_))
    rw [wrap_in (n := a + 3 * (i : Int) + 1) (by omega) (by omega), wrap_in (n := a + 3 * (i : Int) + 1 + 1) (by omega) (by omega), wrap_in (n := a + 3 * (i : Int) + 1 + 1 + 1) (by omega) (by omega), wrap_in (n := (i : Int) + 1) (by omega) (by omega), Int.toNat_natCast]
    refine ebind1 rfl (ebind1 rfl ?_)
    rw [rdN_set _ _ _ (by omega), rdN_set _ _ _ (by rw [List.length_set]; omega)]
    have e : a + 3 * (i : Int) + 1 + 1 + 1 = a + 3 * ((i + 1 : Nat) : Int) := by omega
    rw [e, show (i : Int) + 1 = ((i + 1 : Nat) : Int) by omega]
    refine ih (i + 1) _ (by omega) (by simpa using hx) (fun j hj => ?_)
    by_cases hji : j = i
    · subst hji
      have e1 : a + 3 * (j : Int) + 1 + 1 = a + 3 * (j : Int) + 2 := by omega
      simp [nmarks, hx, show j < n from by omega, e1]
    · rw [List.getElem?_set_ne (by omega), List.getElem?_set_ne (by omega), List.getElem?_set_ne (by omega)]
      exact hp j (by omega)
theorem markN (r : Int) (xs : List S97) (a : Int) (ha : 0 ≤ a) (ha2 : a ≤ 4611686018427387904) (hl : xs.length ≤ 1048576) : Ev (fun k => laws_markDiagram.f k r xs a) (a + 3 * (xs.length : Int), nmarks a xs.length) := by
  unfold laws_markDiagram.f laws_markBddNodeS.f
  have := nmark_l xs.length hl a ha ha2 xs.length 0 xs (Nat.zero_add _) rfl (fun j hj => by omega)
  rw [show a + 3 * ((0 : Nat) : Int) = a by omega] at this
  exact ebind this (eok rfl)
theorem nheld_l (n : Nat) (hn : n ≤ 1048576) (a : Int) (ha : 0 ≤ a) (ha2 : a ≤ 4611686018427387904) : ∀ (d : Nat) (i : Nat), i + d = n →
    Ev (fun k => laws_heldBddNodeS.l0 k (nmarks a n) (a + 3 * (i : Int)) (i : Int)) (a + 3 * (n : Int)) := by
  have hml := nmarks_length a n
  intro d
  induction d with
  | zero =>
    intro i hi
    refine estep (fun k => laws_heldBddNodeS.l0.eq_2 (k := k) ..) (eneg (by omega) (eok ?_))
    rw [show i = n from by omega]
  | succ d ih =>
    intro i hi
    have hr : rd_T97 (nmarks a n) (i : Int) = (⟨a + 3 * (i : Int), a + 3 * (i : Int) + 1, a + 3 * (i : Int) + 2⟩ : S97) := by
      simp [rd_T97, nmarks, show i < n from by omega]
    refine estep (fun k => laws_heldBddNodeS.l0.eq_2 (k := k) ..) (epos (by omega) (epos (by omega) ?_))
    rw [hr, wrap_in (n := a + 3 * (i : Int) + 1) (by omega) (by omega), wrap_in (n := a + 3 * (i : Int) + 1 + 1) (by omega) (by omega), wrap_in (n := a + 3 * (i : Int) + 1 + 1 + 1) (by omega) (by omega), wrap_in (n := (i : Int) + 1) (by omega) (by omega)]
    refine epos rfl (epos rfl (epos (by show a + 3 * (i : Int) + 2 = _; omega) ?_))
    have e : a + 3 * (i : Int) + 1 + 1 + 1 = a + 3 * ((i + 1 : Nat) : Int) := by omega
    rw [e]
    exact ih (i + 1) (by omega)
theorem heldN (r : Int) (n : Nat) (a : Int) (ha : 0 ≤ a) (ha2 : a ≤ 4611686018427387904) (hl : n ≤ 1048576) : Ev (fun k => laws_heldDiagram.f k r (nmarks a n) a) (a + 3 * (n : Int)) := by
  unfold laws_heldDiagram.f laws_heldBddNodeS.f
  have := nheld_l n hl a ha ha2 n 0 (Nat.zero_add _)
  rw [show a + 3 * ((0 : Nat) : Int) = a by omega] at this
  exact ebind this (eneg (by omega) (eok rfl))
end Go.Proofs.Ytggjpogcimdepaa.DiagA
namespace Go.Proofs.Ytggjpogcimdepaa.Pure
open Go.RowKit Go.Proofs.YtggjpogcimdepaaW.PrintWords Go.Proofs.YtggjpogcimdepaaW.PrintMore Go.Proofs.Ytggjpogcimdepaa.XEv Go.Proofs.Ytggjpogcimdepaa.Print Go.Proofs.Ytggjpogcimdepaa.DiagA Go.Proofs.Ytggjpogcimdepaa.Man
set_option linter.unusedVariables false
set_option linter.unusedSimpArgs false
theorem FnExactOrDiagrams : laws_FnExactOrDiagrams.Pure := by
  intro vars r1 l1 r2 l2 _ h1 h2
  obtain ⟨_, hl1, _⟩ := h1
  obtain ⟨_, hl2, _⟩ := h2
  unfold GLaw.laws_FnExactOrDiagrams.Facts
  refine ⟨_, sz r1 l1 1048576 hl1 (by omega), ?_⟩
  by_cases hs : (l1.length : Int) ≤ 1048576
  case neg => exact .inl (by rw [if_neg hs]; omega)
  rw [if_pos hs]
  refine .inr ⟨by omega, _, sz r2 l2 _ hl2 (by omega), ?_⟩
  by_cases hs2 : (l2.length : Int) ≤ 1048576 - l1.length
  case neg => exact .inl (by rw [if_neg hs2]; omega)
  rw [if_pos hs2]
  refine .inr ⟨by omega, ?_⟩
  have hn1 : l1.length ≤ 1048576 := by omega
  have hn2 : l2.length ≤ 1048576 := by omega
  have m1 : (l1.map conv).length = l1.length := List.length_map _
  have m2 : (l2.map conv).length = l2.length := List.length_map _
  have hc1 : (l1.map conv).length ≤ 1048576 := by omega
  have hc2 : (l2.map conv).length ≤ 1048576 := by omega
  have hboth : ∃ (q : Int) (nr : List S97) (b : Bool), nr.length ≤ 1000 ∧ Ev (fun k => spec_OrDiagrams.f k vars r1 (l1.map conv) r2 (l2.map conv)) (q, nr, b) ∧ Ev (fun k => impl_OrDiagrams.f k vars r1 (l1.map conv) r2 (l2.map conv)) (q, nr, b) := by
    unfold spec_OrDiagrams.f impl_OrDiagrams.f spec_l26Two.f
    obtain ⟨t, a1, a2, hr⟩ := good_both vars r1 (l1.map conv) hc1
    obtain ⟨u, b1, b2, hu⟩ := good_both vars r2 (l2.map conv) hc2
    cases t with
    | false => exact ⟨0, [], false, by simp, ebind (ebind a1 (eneg (by simp) (estep (fun k => spec_l26Two.j0.eq_2 (k := k) ..) (epos rfl (eok rfl))))) (eok rfl), ebind a2 (eneg (by simp) (eok rfl))⟩
    | true =>
      cases u with
      | false => exact ⟨0, [], false, by simp, ebind (ebind a1 (epos rfl (ebind b1 (estep (fun k => spec_l26Two.j0.eq_2 (k := k) ..) (epos rfl (eok rfl)))))) (eok rfl), ebind a2 (epos rfl (ebind b2 (eneg (by simp) (eok rfl))))⟩
      | true =>
        have hbl := (bplan_len vars (opr false (dval (l1.map conv) r1) (dval (l2.map conv) r2)) 8 1 0 []).2
        exact ⟨(bplan vars (opr false (dval (l1.map conv) r1) (dval (l2.map conv) r2)) 8 1 0 []).2, (bplan vars (opr false (dval (l1.map conv) r1) (dval (l2.map conv) r2)) 8 1 0 []).1, true, by simp at hbl; omega, ebind (ebind a1 (epos rfl (ebind b1 (two_ vars r1 r2 _ _ (hr.1 rfl) (hu.1 rfl) false)))) (eok rfl), ebind a2 (epos rfl (ebind b2 (epos rfl (eok rfl))))⟩
  obtain ⟨q, nr, b, hnr, hs1, hs2⟩ := hboth
  have hn3 : nr.length ≤ 1048576 := by omega
  exact ⟨r1, l1.map conv, r2, l2.map conv, q, nr, b, _, _, _, _, _, _, (toD r1 l1 hn1).rounds, (toD r2 l2 hn2).rounds, hs1.rounds, hs2.rounds,
    (ecast (eqD q nr q nr hn3) (by simp)).rounds, (ecast (eqD r1 _ r1 _ hc1) (by simp)).rounds, (ecast (eqD r2 _ r2 _ hc2) (by simp)).rounds,
    (markN r1 (l1.map conv) 1 (by omega) (by omega) hc1).rounds, (markN r2 (l2.map conv) _ (by omega) (by omega) hc2).rounds, (markN q nr 1 (by omega) (by omega) hn3).rounds, (heldN q nr.length 1 (by omega) (by omega) hn3).rounds, by omega, by omega⟩
end Go.Proofs.Ytggjpogcimdepaa.Pure
namespace Go.Proofs.Ytggjpogcimdepaa.XOpen
open Go.RowKit Go.Proofs.YtggjpogcimdepaaW.PrintWords Go.ChangeShapes Go.WideShapes Go.Deep
set_option linter.unusedVariables false
set_option linter.unusedSimpArgs false

/-- What reads as data of type t holds an x of kind d, and ok x. -/
structure Opens (P : Program) (t : TypeId) {α : Type} (d : Kd α) (ok : α → Prop) : Prop where
  cells : P.cellsOf t = d.sz
  down : ∀ {H : Type} {enc : TypeId × Value → H} {w : World} {base : Nat} {sp : Nat → Bool} {hd : Bool} {fuel : Nat} {cs : List Value} {x : DataW H × List MemPlace},
    DataW.trod enc P w base sp hd fuel t cs = some x → ∃ a, d.K w a cs ∧ ok a

theorem Opens.int {P : Program} {t : TypeId} {k : IntKind} (ht : P.underlying t = some (.int k)) (hc : P.cellsOf t = 1) : Opens P t (Kd.int k) (fun n => (Lit.int k n).wf = true) :=
  ⟨hc, fun h => by
    obtain ⟨n, rfl, _, hw⟩ := DataW.trod_int ht h
    exact ⟨n, rfl, hw⟩⟩
theorem Opens.bool {P : Program} {t : TypeId} (ht : P.underlying t = some .bool) (hc : P.cellsOf t = 1) : Opens P t Kd.bool (fun _ => True) :=
  ⟨hc, fun h => by
    obtain ⟨n, rfl, _⟩ := DataW.trod_bool ht h
    exact ⟨n, rfl, trivial⟩⟩
theorem Opens.string {P : Program} {t : TypeId} (ht : P.underlying t = some .string) (hc : P.cellsOf t = 1) : Opens P t Kd.string (fun s => s.size ≤ maxLen) :=
  ⟨hc, fun h => by
    obtain ⟨s, rfl, _, hs⟩ := DataW.trod_string ht h
    exact ⟨s, rfl, hs⟩⟩

theorem cells_eq {w : World} {base n : Nat} {a : Addr} {cs : List Value} (h : w.cells? base a n = some cs) : cs.length = n ∧ ∀ i u, cs[i]? = some u → w.cell? (a.add i) = some u := by
  obtain ⟨_, hl, hc⟩ := World.cells?_some h
  refine ⟨hl, fun i u hu => ?_⟩
  have hi : i < n := by
    have := (List.getElem?_eq_some_iff.1 hu).1
    omega
  rw [hc i hi, hu]

theorem Opens.slice {P : Program} {t e : TypeId} {α : Type} {d : Kd α} {ok : α → Prop} (ht : P.underlying t = some (.slice e)) (hc : P.cellsOf t = 1) (h : Opens P e d ok) :
    Opens P t (Kd.slice e d) (fun xs => xs.length ≤ maxLen ∧ ∀ x ∈ xs, ok x) :=
  ⟨hc, fun {H enc w base sp hd fuel cs x} hx => by
    rcases open_slice ht hx with ⟨rfl, _⟩ | ⟨a, len, cap, m, n, D, Pl, rfl, hb, hl, hm, hmm, _, hel⟩
    · exact ⟨[], ⟨none, 0, rfl, Nat.le_refl _, rfl, by simp, fun h0 => absurd h0 (by simp)⟩, by simp, by simp⟩
    · have hlm : len ≤ m := by rw [hmm]; split <;> omega
      have key : ∀ i, i < len → ∃ x : α, ∃ cs', w.cells? base (a.add (i * d.sz)) d.sz = some cs' ∧ d.K w x cs' ∧ ok x := fun i hi => by
        obtain ⟨cs', h1, h2⟩ := hel i (by omega)
        obtain ⟨x, h3, h4⟩ := h.down h2
        rw [h.cells] at h1
        exact ⟨x, cs', h1, h3, h4⟩
      have hL : ∀ k, k ≤ len → ∃ xs : List α, xs.length = k ∧ ∀ i x, xs[i]? = some x → ∃ cs', w.cells? base (a.add (i * d.sz)) d.sz = some cs' ∧ d.K w x cs' ∧ ok x := by
        intro k
        induction k with
        | zero => exact fun _ => ⟨[], rfl, fun i x hx => by simp at hx⟩
        | succ k ih =>
          intro hk
          obtain ⟨xs, hl1, hx1⟩ := ih (by omega)
          obtain ⟨x, hx2⟩ := key k (by omega)
          refine ⟨xs ++ [x], by simp [hl1], fun i y hy => ?_⟩
          by_cases hi : i < xs.length
          · rw [List.getElem?_append_left hi] at hy
            exact hx1 i y hy
          · have hi2 : i = k := by
              have := (List.getElem?_eq_some_iff.1 hy).1
              simp [hl1] at this
              omega
            subst hi2
            rw [List.getElem?_append_right (by omega), hl1] at hy
            simp at hy
            subst hy
            exact hx2
      obtain ⟨xs, hl1, hx1⟩ := hL len (Nat.le_refl _)
      refine ⟨xs, ⟨some a, cap, by rw [hl1], by omega, rfl, ?_, fun h0 => ⟨a, rfl, fun j p hp => ?_⟩⟩, by omega, fun x hx => ?_⟩
      · have : maxLen = 9223372036854775807 := rfl
        omega
      · obtain ⟨cs', h1, h2, _⟩ := hx1 j p hp
        obtain ⟨hlen, hcell⟩ := cells_eq h1
        refine ⟨cs', hlen, h2, fun i u hu => ?_⟩
        rw [← Deep.add_add]
        exact hcell i u hu
      · obtain ⟨i, hi⟩ := List.mem_iff_getElem?.1 hx
        obtain ⟨_, _, _, h3⟩ := hx1 i x hi
        exact h3⟩

theorem Opens.iso {P : Program} {t : TypeId} {α β : Type} {d : Kd α} {ok : α → Prop} (h : Opens P t d ok) (f : β → α) (g : α → β) (hfg : ∀ a, f (g a) = a) : Opens P t (Kd.iso d f) (fun b => ok (f b)) :=
  ⟨h.cells, fun hx => by
    obtain ⟨a, h1, h2⟩ := h.down hx
    exact ⟨g a, by show d.K _ (f (g a)) _; rw [hfg]; exact h1, by rw [hfg]; exact h2⟩⟩

/-- The same for the fields of a struct from cell 'off' on. -/
structure OpensF (P : Program) (off : Nat) (fs : List Field) {α : Type} (d : Kd α) (ok : α → Prop) : Prop where
  down : ∀ {H : Type} {enc : TypeId × Value → H} {w : World} {base : Nat} {sp : Nat → Bool} {hd : Bool} {fuel : Nat} {cs : List Value},
    cs.length = off + d.sz → (∀ f ∈ fs, ∃ x, DataW.trod enc P w base sp hd fuel f.type ((cs.drop f.offset).take (P.cellsOf f.type)) = some x) → ∃ a, d.K w a (cs.drop off) ∧ ok a

theorem OpensF.one {P : Program} {off : Nat} {f : Field} {α : Type} {d : Kd α} {ok : α → Prop} (h : Opens P f.type d ok) (ho : f.offset = off) : OpensF P off [f] d ok :=
  ⟨fun {H enc w base sp hd fuel cs} hl hx => by
    obtain ⟨x, hx⟩ := hx f (by simp)
    rw [h.cells, ho, List.take_of_length_le (by rw [List.length_drop]; omega)] at hx
    exact h.down hx⟩
theorem OpensF.cons {P : Program} {off : Nat} {f : Field} {fs : List Field} {α β : Type} {d : Kd α} {d' : Kd β} {ok : α → Prop} {ok' : β → Prop} (h : Opens P f.type d ok) (ho : f.offset = off) (hr : OpensF P (off + d.sz) fs d' ok') :
    OpensF P off (f :: fs) (Kd.pair d d') (fun x => ok x.1 ∧ ok' x.2) :=
  ⟨fun {H enc w base sp hd fuel cs} hl hx => by
    have hsz : (Kd.pair d d').sz = d.sz + d'.sz := rfl
    obtain ⟨x, h0⟩ := hx f (by simp)
    rw [h.cells, ho] at h0
    obtain ⟨a, ha, oka⟩ := h.down h0
    obtain ⟨b, hb, okb⟩ := hr.down (by rw [hl, hsz]; omega) (fun g hg => hx g (by simp [hg]))
    refine ⟨(a, b), ⟨_, _, ?_, ha, hb⟩, oka, okb⟩
    rw [← List.drop_drop, List.take_append_drop]⟩
theorem Opens.struct {P : Program} {t : TypeId} {fs : Array Field} {α : Type} {d : Kd α} {ok : α → Prop} (ht : P.underlying t = some (.struct fs)) (hc : P.cellsOf t = d.sz) (h : OpensF P 0 fs.toList d ok) : Opens P t d ok :=
  ⟨hc, fun {H enc w base sp hd fuel cs x} hx => by
    obtain ⟨xs, n, rfl, rfl, hl, hxl, hf⟩ := DataW.trod_struct ht hx
    obtain ⟨a, h1, h2⟩ := h.down (enc := enc) (w := w) (base := base) (sp := sp) (hd := hd) (fuel := n) (cs := cs) (by omega) (fun f hf1 => by
      obtain ⟨i, hi⟩ := List.mem_iff_getElem?.1 hf1
      rw [Array.getElem?_toList] at hi
      have h3 := hf i f hi
      have hi2 : i < fs.size := (Array.getElem?_eq_some_iff.1 hi).1
      rw [List.getElem?_eq_getElem (by omega)] at h3
      exact ⟨_, h3⟩)
    exact ⟨a, by simpa using h1, h2⟩⟩

/-- A slice's or a struct's argument, as the law's contract wants it. -/
theorem Opens.arg {P : Program} {t : TypeId} {α : Type} {d : Kd α} {ok : α → Prop} (h : Opens P t d ok) {H : Type} {enc : TypeId × Value → H} {w : World} {base : Nat} {sp : Nat → Bool} {hd : Bool} {v : Value} {y : DataW H} {ps : List MemPlace}
    (hx : DataW.Trod enc P w base sp hd t v y ps) : ∃ a, d.K w a v.cells.toList ∧ ok a := by
  obtain ⟨fuel, hf⟩ := hx
  exact h.down hf
theorem agg_of {P : Program} {w : World} {r : Reach} {base : Nat} {t : TypeId} {v : Value} {fs : Array Field} (ht : P.underlying t = some (.struct fs)) (hv : Value.okWide P w r base t v) {l : List Value} (h : v.cells.toList = l) : v = .agg l.toArray := by
  obtain ⟨cs, rfl, _⟩ := okWide_struct ht hv
  simp [Value.cells] at h
  rw [← h]
theorem slice_of {P : Program} {w : World} {r : Reach} {base : Nat} {t e : TypeId} {v u : Value} (ht : P.underlying t = some (.slice e)) (hv : Value.okWide P w r base t v) (h : v.cells.toList = [u]) : v = u := by
  obtain ⟨a, len, cap, rfl⟩ := okWide_slice ht hv
  simpa [Value.cells] using h
theorem wf64 {n : Int} (h : (Lit.int .i64 n).wf = true) : -9223372036854775808 ≤ n ∧ n ≤ 9223372036854775807 := by
  simp [Lit.wf, IntKind.min, IntKind.max, IntKind.signed, IntKind.bits] at h
  omega
end Go.Proofs.Ytggjpogcimdepaa.XOpen
namespace Go.Proofs.Ytggjpogcimdepaa.fnExactOrDiagrams
open Go.ChangeShapes Go.WideShapes Go.ChangeAt Go.RowKit Go.Proofs.Ytggjpogcimdepaa.XOpen Go.Proofs.Ytggjpogcimdepaa.Print
open Go.Proofs.YtggjpogcimdepaaW.PrintWords
open Go.ChangeMaps (open_string shut_string)
set_option linter.unusedVariables false
theorem own : ownKnob Try.prog.godebug = none := by kernel_rfl
theorem laidOut : laidOutB Try.prog = true := by kernel_rfl
theorem op3 : Opens Try.prog 3 (Kd.int .i64) (fun n : Int => (Lit.int .i64 n).wf = true) := Opens.int Try.underlying3 (by kernel_rfl)
theorem op99 : Opens Try.prog 99 k99 (fun x : S99 => (fun x : ((Int) × (Int) × (Int)) => (fun n : Int => (Lit.int .i64 n).wf = true) x.1 ∧ (fun x : ((Int) × (Int)) => (fun n : Int => (Lit.int .i64 n).wf = true) x.1 ∧ (fun n : Int => (Lit.int .i64 n).wf = true) x.2) x.2) (x.f0, x.f1, x.f2)) := Opens.iso (ok := (fun x : ((Int) × (Int) × (Int)) => (fun n : Int => (Lit.int .i64 n).wf = true) x.1 ∧ (fun x : ((Int) × (Int)) => (fun n : Int => (Lit.int .i64 n).wf = true) x.1 ∧ (fun n : Int => (Lit.int .i64 n).wf = true) x.2) x.2)) (Opens.struct (P := Try.prog) (t := 99) (ok := (fun x : ((Int) × (Int) × (Int)) => (fun n : Int => (Lit.int .i64 n).wf = true) x.1 ∧ (fun x : ((Int) × (Int)) => (fun n : Int => (Lit.int .i64 n).wf = true) x.1 ∧ (fun n : Int => (Lit.int .i64 n).wf = true) x.2) x.2)) Try.underlying99 (by kernel_rfl) (OpensF.cons (ok := (fun n : Int => (Lit.int .i64 n).wf = true)) (ok' := (fun x : ((Int) × (Int)) => (fun n : Int => (Lit.int .i64 n).wf = true) x.1 ∧ (fun n : Int => (Lit.int .i64 n).wf = true) x.2)) op3 rfl (OpensF.cons (ok := (fun n : Int => (Lit.int .i64 n).wf = true)) (ok' := (fun n : Int => (Lit.int .i64 n).wf = true)) op3 rfl (OpensF.one (ok := (fun n : Int => (Lit.int .i64 n).wf = true)) op3 rfl)))) (fun x : S99 => (x.f0, x.f1, x.f2)) (fun p => ⟨p.1, p.2.1, p.2.2⟩) (fun _ => rfl)
theorem op22 : Opens Try.prog 22 (Kd.slice 99 k99) (fun xs : (List (S99)) => xs.length ≤ maxLen ∧ ∀ x ∈ xs, (fun x : S99 => (fun x : ((Int) × (Int) × (Int)) => (fun n : Int => (Lit.int .i64 n).wf = true) x.1 ∧ (fun x : ((Int) × (Int)) => (fun n : Int => (Lit.int .i64 n).wf = true) x.1 ∧ (fun n : Int => (Lit.int .i64 n).wf = true) x.2) x.2) (x.f0, x.f1, x.f2)) x) := Opens.slice (ok := (fun x : S99 => (fun x : ((Int) × (Int) × (Int)) => (fun n : Int => (Lit.int .i64 n).wf = true) x.1 ∧ (fun x : ((Int) × (Int)) => (fun n : Int => (Lit.int .i64 n).wf = true) x.1 ∧ (fun n : Int => (Lit.int .i64 n).wf = true) x.2) x.2) (x.f0, x.f1, x.f2))) Try.underlying22 (by kernel_rfl) op99
theorem op24r : Opens Try.prog 24 (Kd.pair (Kd.int .i64) (Kd.slice 99 k99)) (fun x : ((Int) × (List (S99))) => (fun n : Int => (Lit.int .i64 n).wf = true) x.1 ∧ (fun xs : (List (S99)) => xs.length ≤ maxLen ∧ ∀ x ∈ xs, (fun x : S99 => (fun x : ((Int) × (Int) × (Int)) => (fun n : Int => (Lit.int .i64 n).wf = true) x.1 ∧ (fun x : ((Int) × (Int)) => (fun n : Int => (Lit.int .i64 n).wf = true) x.1 ∧ (fun n : Int => (Lit.int .i64 n).wf = true) x.2) x.2) (x.f0, x.f1, x.f2)) x) x.2) := (Opens.struct (P := Try.prog) (t := 24) (ok := (fun x : ((Int) × (List (S99))) => (fun n : Int => (Lit.int .i64 n).wf = true) x.1 ∧ (fun xs : (List (S99)) => xs.length ≤ maxLen ∧ ∀ x ∈ xs, (fun x : S99 => (fun x : ((Int) × (Int) × (Int)) => (fun n : Int => (Lit.int .i64 n).wf = true) x.1 ∧ (fun x : ((Int) × (Int)) => (fun n : Int => (Lit.int .i64 n).wf = true) x.1 ∧ (fun n : Int => (Lit.int .i64 n).wf = true) x.2) x.2) (x.f0, x.f1, x.f2)) x) x.2)) Try.underlying24 (by kernel_rfl) (OpensF.cons (ok := (fun n : Int => (Lit.int .i64 n).wf = true)) (ok' := (fun xs : (List (S99)) => xs.length ≤ maxLen ∧ ∀ x ∈ xs, (fun x : S99 => (fun x : ((Int) × (Int) × (Int)) => (fun n : Int => (Lit.int .i64 n).wf = true) x.1 ∧ (fun x : ((Int) × (Int)) => (fun n : Int => (Lit.int .i64 n).wf = true) x.1 ∧ (fun n : Int => (Lit.int .i64 n).wf = true) x.2) x.2) (x.f0, x.f1, x.f2)) x)) op3 rfl (OpensF.one (ok := (fun xs : (List (S99)) => xs.length ≤ maxLen ∧ ∀ x ∈ xs, (fun x : S99 => (fun x : ((Int) × (Int) × (Int)) => (fun n : Int => (Lit.int .i64 n).wf = true) x.1 ∧ (fun x : ((Int) × (Int)) => (fun n : Int => (Lit.int .i64 n).wf = true) x.1 ∧ (fun n : Int => (Lit.int .i64 n).wf = true) x.2) x.2) (x.f0, x.f1, x.f2)) x)) op22 rfl)))
set_option maxRecDepth 100000 in
theorem lifted (os : Os) (started : os.Started) (H : Type) (enc : TypeId × Value → H) :
    ReturnsInHanded {} Try.checked os 12 .any (Rows.fnExactOrDiagramsSpec.pre6 enc Try.prog Try.f12 Rows.fnExactOrDiagramsRow.domain false) (Rows.fnExactOrDiagramsSpec.post enc Try.prog Try.f12 false true false false) := by
  refine returnsInHanded_of_change_sized (C := Try.checked) own started (by kernel_rfl) Try.func12
    (ChangeSpec.witness6 (enc := enc) (C := Try.checked) false ⟨#[], #[.int .i64 0, .agg #[.int .i64 0, .slice none 0 0], .agg #[.int .i64 0, .slice none 0 0]], []⟩ 8 (by kernel_rfl) (by kernel_rfl) (by kernel_rfl) (by kernel_rfl)) ?_
  intro W base args ds gs before hval0 hW hcnd hsz0 _
  have hval : ∀ (j : Nat) t v, Try.f12.params[j]? = some t → args[j]? = some v → Value.okWide Try.prog W .any base t v := hval0
  have hW' := hW
  obtain ⟨p, q, hA0, hV, rfl, hfz, hnd⟩ := hW
  have hA : DataW.TrodAll enc Try.prog W 0 (fun _ => true) true Try.f12.params.toList args.toList ds p := hA0
  rw [Try.params12] at hA hval
  obtain ⟨v0, vs0, d0, ds0, p0, q0, hargs, rfl, rfl, h0, r0⟩ := trodAll_cons hA
  obtain ⟨v1, vs1, d1, ds1, p1, q1, rfl, rfl, rfl, h1, r1⟩ := trodAll_cons r0
  obtain ⟨v2, vs2, d2, ds2, p2, q2, rfl, rfl, rfl, h2, r2⟩ := trodAll_cons r1
  obtain ⟨rfl, rfl, rfl⟩ := trodAll_nil r2
  obtain rfl : args = #[v0, v1, v2] := by cases args; simp_all
  obtain ⟨rfl, rfl⟩ := trodVars_none hV
  obtain ⟨a0, rfl, rfl, rfl, w0⟩ := open_int Try.underlying3 (hval 0 3 v0 rfl rfl) h0
  have k1 := h1
  have lt1 : ∀ x ∈ p1, x.block < W.heap.size := by obtain ⟨m, hm⟩ := k1; exact DataW.trod_lt m _ _ _ hm
  obtain ⟨⟨a1_0, l1_1⟩, hK1, ok1⟩ := op24r.arg h1
  obtain ⟨_, _, hE1, rfl, ⟨A1_1, c1_1, rfl, hc1_1, hr1_1⟩⟩ := hK1
  obtain rfl : v1 = .agg #[.int .i64 a1_0, .slice A1_1 l1_1.length c1_1] := agg_of Try.underlying24 (hval 1 24 v1 rfl rfl) hE1
  have k2 := h2
  have lt2 : ∀ x ∈ p2, x.block < W.heap.size := by obtain ⟨m, hm⟩ := k2; exact DataW.trod_lt m _ _ _ hm
  obtain ⟨⟨a2_0, l2_1⟩, hK2, ok2⟩ := op24r.arg h2
  obtain ⟨_, _, hE2, rfl, ⟨A2_1, c2_1, rfl, hc2_1, hr2_1⟩⟩ := hK2
  obtain rfl : v2 = .agg #[.int .i64 a2_0, .slice A2_1 l2_1.length c2_1] := agg_of Try.underlying24 (hval 2 24 v2 rfl rfl) hE2
  clear hA0 hval0 hsz0
  have hP := Pure.FnExactOrDiagrams a0 a1_0 l1_1 a2_0 l2_1 w0 ok1 ok2
  refine (GLaw.laws_FnExactOrDiagrams.of_facts a0 a1_0 A1_1 c1_1 l1_1 a2_0 A2_1 c2_1 l2_1 hP W hr1_1 hc1_1 hr2_1 hc2_1).mono fun e W' ⟨he, bel0⟩ => ?_
  have bel : Below W.heap.size W W' := bel0
  subst he
  exact ⟨_, rfl, _, _, _, [], _, [], hW', trodAll_mk1 (shut_bool Try.underlying4 _), (trodAll_cons_mk (shut_int Try.underlying3 w0) (trodAll_cons_mk (Below.trod laidOut (by kernel_rfl) (of_decide_eq_true (by kernel_rfl)) k1 bel lt1) (trodAll_cons_mk (Below.trod laidOut (by kernel_rfl) (of_decide_eq_true (by kernel_rfl)) k2 bel lt2) trodAll_mk0))), rfl, bel.frame _, fun h => by cases h⟩
theorem over : Rows.fnExactOrDiagramsRow.holds Try.pinned (OpenSpec.ofChange Rows.fnExactOrDiagramsSpec) :=
  OpenClaim.holds_of_wide 12 Try.f12 rfl rfl rfl rfl rfl rfl rfl ⟨rfl, rfl, rfl, rfl, rfl⟩ rfl rfl rfl rfl rfl (by kernel_rfl) Try.func12 (by kernel_rfl)
    (of_decide_eq_true (by kernel_rfl)) (by unfold Func.isWrapper; first | (rw [if_pos (by decide +kernel)]; kernel_rfl) | (rw [if_neg (by decide +kernel)]; exact ⟨rfl, rfl⟩))
    (fun os started H enc _ => lifted os started H enc)
theorem proved : Rows.FnExactOrDiagramsSaid := over
#print axioms proved
end Go.Proofs.Ytggjpogcimdepaa.fnExactOrDiagrams
namespace Go.Proofs.Ytggjpogcimdepaa
/-- The row, under a short name, for the claim. -/
theorem fnExactOrDiagrams_holds : Rows.FnExactOrDiagramsSaid := fnExactOrDiagrams.proved
end Go.Proofs.Ytggjpogcimdepaa
