/- The law FnExactDiagramValue holds: called with any arguments of its types it returns true and leaves them as they were. No conditions. (Written by xprint.py, a program of this session, out of the law's Pure and the printed contract; Lean checks it.) -/
import Derived.Test.YtggjpogcimdepaaRows
import Derived.Test.YtggjpogcimdepaaFnlawsFnExactDiagramValue
import Derived.Test.YtggjpogcimdepaaPureFnExactDiagramValue
import Derived.Test.YtggjpogcimdepaaXOpen
import Derived.WalkKit
import Derived.ProofKit
import Derived.OpenShut
import Derived.ShutString
import Derived.ChangeOld
import Derived.Below
import Derived.SizedLaws
namespace Go.Proofs.Ytggjpogcimdepaa.fnExactDiagramValue
open Go.ChangeShapes Go.WideShapes Go.ChangeAt Go.RowKit Go.Proofs.Ytggjpogcimdepaa.XOpen Go.Proofs.Ytggjpogcimdepaa.Print
open Go.Proofs.YtggjpogcimdepaaW.PrintWords
open Go.ChangeMaps (open_string shut_string)
set_option linter.unusedVariables false
theorem own : ownKnob Try.prog.godebug = none := by kernel_rfl
theorem laidOut : laidOutB Try.prog = true := by kernel_rfl
theorem op3 : Opens Try.prog 3 (Kd.int .i64) (fun n : Int => (Lit.int .i64 n).wf = true) := Opens.int Try.underlying3 (by kernel_rfl)
theorem op99 : Opens Try.prog 99 k99 (fun x : S99 => (fun x : ((Int) × (Int) × (Int)) => (fun n : Int => (Lit.int .i64 n).wf = true) x.1 ∧ (fun x : ((Int) × (Int)) => (fun n : Int => (Lit.int .i64 n).wf = true) x.1 ∧ (fun n : Int => (Lit.int .i64 n).wf = true) x.2) x.2) (x.f0, x.f1, x.f2)) := Opens.iso (ok := (fun x : ((Int) × (Int) × (Int)) => (fun n : Int => (Lit.int .i64 n).wf = true) x.1 ∧ (fun x : ((Int) × (Int)) => (fun n : Int => (Lit.int .i64 n).wf = true) x.1 ∧ (fun n : Int => (Lit.int .i64 n).wf = true) x.2) x.2)) (Opens.struct (P := Try.prog) (t := 99) (ok := (fun x : ((Int) × (Int) × (Int)) => (fun n : Int => (Lit.int .i64 n).wf = true) x.1 ∧ (fun x : ((Int) × (Int)) => (fun n : Int => (Lit.int .i64 n).wf = true) x.1 ∧ (fun n : Int => (Lit.int .i64 n).wf = true) x.2) x.2)) Try.underlying99 (by kernel_rfl) (OpensF.cons (ok := (fun n : Int => (Lit.int .i64 n).wf = true)) (ok' := (fun x : ((Int) × (Int)) => (fun n : Int => (Lit.int .i64 n).wf = true) x.1 ∧ (fun n : Int => (Lit.int .i64 n).wf = true) x.2)) op3 rfl (OpensF.cons (ok := (fun n : Int => (Lit.int .i64 n).wf = true)) (ok' := (fun n : Int => (Lit.int .i64 n).wf = true)) op3 rfl (OpensF.one (ok := (fun n : Int => (Lit.int .i64 n).wf = true)) op3 rfl)))) (fun x : S99 => (x.f0, x.f1, x.f2)) (fun p => ⟨p.1, p.2.1, p.2.2⟩) (fun _ => rfl)
theorem op22 : Opens Try.prog 22 (Kd.slice 99 k99) (fun xs : (List (S99)) => xs.length ≤ maxLen ∧ ∀ x ∈ xs, (fun x : S99 => (fun x : ((Int) × (Int) × (Int)) => (fun n : Int => (Lit.int .i64 n).wf = true) x.1 ∧ (fun x : ((Int) × (Int)) => (fun n : Int => (Lit.int .i64 n).wf = true) x.1 ∧ (fun n : Int => (Lit.int .i64 n).wf = true) x.2) x.2) (x.f0, x.f1, x.f2)) x) := Opens.slice (ok := (fun x : S99 => (fun x : ((Int) × (Int) × (Int)) => (fun n : Int => (Lit.int .i64 n).wf = true) x.1 ∧ (fun x : ((Int) × (Int)) => (fun n : Int => (Lit.int .i64 n).wf = true) x.1 ∧ (fun n : Int => (Lit.int .i64 n).wf = true) x.2) x.2) (x.f0, x.f1, x.f2))) Try.underlying22 (by kernel_rfl) op99
theorem op24r : Opens Try.prog 24 (Kd.pair (Kd.int .i64) (Kd.slice 99 k99)) (fun x : ((Int) × (List (S99))) => (fun n : Int => (Lit.int .i64 n).wf = true) x.1 ∧ (fun xs : (List (S99)) => xs.length ≤ maxLen ∧ ∀ x ∈ xs, (fun x : S99 => (fun x : ((Int) × (Int) × (Int)) => (fun n : Int => (Lit.int .i64 n).wf = true) x.1 ∧ (fun x : ((Int) × (Int)) => (fun n : Int => (Lit.int .i64 n).wf = true) x.1 ∧ (fun n : Int => (Lit.int .i64 n).wf = true) x.2) x.2) (x.f0, x.f1, x.f2)) x) x.2) := (Opens.struct (P := Try.prog) (t := 24) (ok := (fun x : ((Int) × (List (S99))) => (fun n : Int => (Lit.int .i64 n).wf = true) x.1 ∧ (fun xs : (List (S99)) => xs.length ≤ maxLen ∧ ∀ x ∈ xs, (fun x : S99 => (fun x : ((Int) × (Int) × (Int)) => (fun n : Int => (Lit.int .i64 n).wf = true) x.1 ∧ (fun x : ((Int) × (Int)) => (fun n : Int => (Lit.int .i64 n).wf = true) x.1 ∧ (fun n : Int => (Lit.int .i64 n).wf = true) x.2) x.2) (x.f0, x.f1, x.f2)) x) x.2)) Try.underlying24 (by kernel_rfl) (OpensF.cons (ok := (fun n : Int => (Lit.int .i64 n).wf = true)) (ok' := (fun xs : (List (S99)) => xs.length ≤ maxLen ∧ ∀ x ∈ xs, (fun x : S99 => (fun x : ((Int) × (Int) × (Int)) => (fun n : Int => (Lit.int .i64 n).wf = true) x.1 ∧ (fun x : ((Int) × (Int)) => (fun n : Int => (Lit.int .i64 n).wf = true) x.1 ∧ (fun n : Int => (Lit.int .i64 n).wf = true) x.2) x.2) (x.f0, x.f1, x.f2)) x)) op3 rfl (OpensF.one (ok := (fun xs : (List (S99)) => xs.length ≤ maxLen ∧ ∀ x ∈ xs, (fun x : S99 => (fun x : ((Int) × (Int) × (Int)) => (fun n : Int => (Lit.int .i64 n).wf = true) x.1 ∧ (fun x : ((Int) × (Int)) => (fun n : Int => (Lit.int .i64 n).wf = true) x.1 ∧ (fun n : Int => (Lit.int .i64 n).wf = true) x.2) x.2) (x.f0, x.f1, x.f2)) x)) op22 rfl)))
set_option maxRecDepth 100000 in
theorem lifted (os : Os) (started : os.Started) (H : Type) (enc : TypeId × Value → H) :
    ReturnsInHanded {} Try.checked os 5 .any (Rows.fnExactDiagramValueSpec.pre6 enc Try.prog Try.f5 Rows.fnExactDiagramValueRow.domain false) (Rows.fnExactDiagramValueSpec.post enc Try.prog Try.f5 false true false false) := by
  refine returnsInHanded_of_change_sized (C := Try.checked) own started (by kernel_rfl) Try.func5
    (ChangeSpec.witness6 (enc := enc) (C := Try.checked) false ⟨#[], #[.int .i64 0, .agg #[.int .i64 0, .slice none 0 0], .int .i64 0], []⟩ 8 (by kernel_rfl) (by kernel_rfl) (by kernel_rfl) (by kernel_rfl)) ?_
  intro W base args ds gs before hval0 hW hcnd hsz0 _
  have hval : ∀ (j : Nat) t v, Try.f5.params[j]? = some t → args[j]? = some v → Value.okWide Try.prog W .any base t v := hval0
  have hW' := hW
  obtain ⟨p, q, hA0, hV, rfl, hfz, hnd⟩ := hW
  have hA : DataW.TrodAll enc Try.prog W 0 (fun _ => true) true Try.f5.params.toList args.toList ds p := hA0
  rw [Try.params5] at hA hval
  obtain ⟨v0, vs0, d0, ds0, p0, q0, hargs, rfl, rfl, h0, r0⟩ := trodAll_cons hA
  obtain ⟨v1, vs1, d1, ds1, p1, q1, rfl, rfl, rfl, h1, r1⟩ := trodAll_cons r0
  obtain ⟨v2, vs2, d2, ds2, p2, q2, rfl, rfl, rfl, h2, r2⟩ := trodAll_cons r1
  obtain ⟨rfl, rfl, rfl⟩ := trodAll_nil r2
  obtain rfl : args = #[v0, v1, v2] := by cases args; simp_all
  obtain ⟨rfl, rfl⟩ := trodVars_none hV
  obtain ⟨a0, rfl, rfl, rfl, w0⟩ := open_int Try.underlying3 (hval 0 3 v0 rfl rfl) h0
  have k1 := h1
  have lt1 : ∀ x ∈ p1, x.block < W.heap.size := by obtain ⟨m, hm⟩ := k1; exact DataW.trod_lt m _ _ _ hm
  obtain ⟨⟨a1_0, l1_1⟩, hK1, ok1⟩ := op24r.arg h1
  obtain ⟨_, _, hE1, rfl, ⟨A1_1, c1_1, rfl, hc1_1, hr1_1⟩⟩ := hK1
  obtain rfl : v1 = .agg #[.int .i64 a1_0, .slice A1_1 l1_1.length c1_1] := agg_of Try.underlying24 (hval 1 24 v1 rfl rfl) hE1
  obtain ⟨a2, rfl, rfl, rfl, w2⟩ := open_int Try.underlying3 (hval 2 3 v2 rfl rfl) h2
  clear hA0 hval0 hsz0
  obtain ⟨k, hP⟩ := Pure.FnExactDiagramValue a0 a1_0 l1_1 a2 w0 ok1 w2
  refine (Print.laws_FnExactDiagramValue.calls k a0 a1_0 A1_1 c1_1 l1_1 a2 true W hr1_1 hc1_1 hP).mono fun e W' ⟨he, bel0⟩ => ?_
  have bel : Below W.heap.size W W' := bel0
  subst he
  exact ⟨_, rfl, _, _, _, [], _, [], hW', trodAll_mk1 (shut_bool Try.underlying4 _), (trodAll_cons_mk (shut_int Try.underlying3 w0) (trodAll_cons_mk (Below.trod laidOut (by kernel_rfl) (of_decide_eq_true (by kernel_rfl)) k1 bel lt1) (trodAll_cons_mk (shut_int Try.underlying3 w2) trodAll_mk0))), rfl, bel.frame _, fun h => by cases h⟩
theorem over : Rows.fnExactDiagramValueRow.holds Try.pinned (OpenSpec.ofChange Rows.fnExactDiagramValueSpec) :=
  OpenClaim.holds_of_wide 5 Try.f5 rfl rfl rfl rfl rfl rfl rfl ⟨rfl, rfl, rfl, rfl, rfl⟩ rfl rfl rfl rfl rfl (by kernel_rfl) Try.func5 (by kernel_rfl)
    (of_decide_eq_true (by kernel_rfl)) (by unfold Func.isWrapper; first | (rw [if_pos (by decide +kernel)]; kernel_rfl) | (rw [if_neg (by decide +kernel)]; exact ⟨rfl, rfl⟩))
    (fun os started H enc _ => lifted os started H enc)
theorem proved : Rows.FnExactDiagramValueSaid := over
#print axioms proved
end Go.Proofs.Ytggjpogcimdepaa.fnExactDiagramValue
namespace Go.Proofs.Ytggjpogcimdepaa
/-- The row, under a short name, for the claim. -/
theorem fnExactDiagramValue_holds : Rows.FnExactDiagramValueSaid := fnExactDiagramValue.proved
end Go.Proofs.Ytggjpogcimdepaa
