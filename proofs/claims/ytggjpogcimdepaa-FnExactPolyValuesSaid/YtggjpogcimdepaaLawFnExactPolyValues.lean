/- The law FnExactPolyValues holds: called with any arguments of its types it returns true and leaves them as they were. No conditions. (Written by xprint.py, a program of this session, out of the law's Pure and the printed contract; Lean checks it.) -/
import Derived.Test.YtggjpogcimdepaaRows
import Derived.Test.YtggjpogcimdepaaFnlawsFnExactPolyValues
import Derived.Test.YtggjpogcimdepaaPureFnExactPolyValues
import Derived.Test.YtggjpogcimdepaaXOpen
import Derived.WalkKit
import Derived.ProofKit
import Derived.OpenShut
import Derived.ShutString
import Derived.ChangeOld
import Derived.Below
import Derived.SizedLaws
namespace Go.Proofs.Ytggjpogcimdepaa.fnExactPolyValues
open Go.ChangeShapes Go.WideShapes Go.ChangeAt Go.RowKit Go.Proofs.Ytggjpogcimdepaa.XOpen Go.Proofs.Ytggjpogcimdepaa.Print
open Go.Proofs.YtggjpogcimdepaaW.PrintWords
open Go.ChangeMaps (open_string shut_string)
set_option linter.unusedVariables false
theorem own : ownKnob Try.prog.godebug = none := by kernel_rfl
theorem laidOut : laidOutB Try.prog = true := by kernel_rfl
theorem op3 : Opens Try.prog 3 (Kd.int .i64) (fun n : Int => (Lit.int .i64 n).wf = true) := Opens.int Try.underlying3 (by kernel_rfl)
theorem op71 : Opens Try.prog 71 k71 (fun x : S71 => (fun x : ((Int) × (Int)) => (fun n : Int => (Lit.int .i64 n).wf = true) x.1 ∧ (fun n : Int => (Lit.int .i64 n).wf = true) x.2) (x.f0, x.f1)) := Opens.iso (ok := (fun x : ((Int) × (Int)) => (fun n : Int => (Lit.int .i64 n).wf = true) x.1 ∧ (fun n : Int => (Lit.int .i64 n).wf = true) x.2)) (Opens.struct (P := Try.prog) (t := 71) (ok := (fun x : ((Int) × (Int)) => (fun n : Int => (Lit.int .i64 n).wf = true) x.1 ∧ (fun n : Int => (Lit.int .i64 n).wf = true) x.2)) Try.underlying71 (by kernel_rfl) (OpensF.cons (ok := (fun n : Int => (Lit.int .i64 n).wf = true)) (ok' := (fun n : Int => (Lit.int .i64 n).wf = true)) op3 rfl (OpensF.one (ok := (fun n : Int => (Lit.int .i64 n).wf = true)) op3 rfl))) (fun x : S71 => (x.f0, x.f1)) (fun p => ⟨p.1, p.2⟩) (fun _ => rfl)
theorem op33 : Opens Try.prog 33 (Kd.slice 71 k71) (fun xs : (List (S71)) => xs.length ≤ maxLen ∧ ∀ x ∈ xs, (fun x : S71 => (fun x : ((Int) × (Int)) => (fun n : Int => (Lit.int .i64 n).wf = true) x.1 ∧ (fun n : Int => (Lit.int .i64 n).wf = true) x.2) (x.f0, x.f1)) x) := Opens.slice (ok := (fun x : S71 => (fun x : ((Int) × (Int)) => (fun n : Int => (Lit.int .i64 n).wf = true) x.1 ∧ (fun n : Int => (Lit.int .i64 n).wf = true) x.2) (x.f0, x.f1))) Try.underlying33 (by kernel_rfl) op71
set_option maxRecDepth 100000 in
theorem lifted (os : Os) (started : os.Started) (H : Type) (enc : TypeId × Value → H) :
    ReturnsInHanded {} Try.checked os 7 .any (Rows.fnExactPolyValuesSpec.pre6 enc Try.prog Try.f7 Rows.fnExactPolyValuesRow.domain false) (Rows.fnExactPolyValuesSpec.post enc Try.prog Try.f7 false true false false) := by
  refine returnsInHanded_of_change_sized (C := Try.checked) own started (by kernel_rfl) Try.func7
    (ChangeSpec.witness6 (enc := enc) (C := Try.checked) false ⟨#[], #[.int .i64 0, .int .i64 0, .slice none 0 0], []⟩ 8 (by kernel_rfl) (by kernel_rfl) (by kernel_rfl) (by kernel_rfl)) ?_
  intro W base args ds gs before hval0 hW hcnd hsz0 _
  have hval : ∀ (j : Nat) t v, Try.f7.params[j]? = some t → args[j]? = some v → Value.okWide Try.prog W .any base t v := hval0
  have hW' := hW
  obtain ⟨p, q, hA0, hV, rfl, hfz, hnd⟩ := hW
  have hA : DataW.TrodAll enc Try.prog W 0 (fun _ => true) true Try.f7.params.toList args.toList ds p := hA0
  rw [Try.params7] at hA hval
  obtain ⟨v0, vs0, d0, ds0, p0, q0, hargs, rfl, rfl, h0, r0⟩ := trodAll_cons hA
  obtain ⟨v1, vs1, d1, ds1, p1, q1, rfl, rfl, rfl, h1, r1⟩ := trodAll_cons r0
  obtain ⟨v2, vs2, d2, ds2, p2, q2, rfl, rfl, rfl, h2, r2⟩ := trodAll_cons r1
  obtain ⟨rfl, rfl, rfl⟩ := trodAll_nil r2
  obtain rfl : args = #[v0, v1, v2] := by cases args; simp_all
  obtain ⟨rfl, rfl⟩ := trodVars_none hV
  obtain ⟨a0, rfl, rfl, rfl, w0⟩ := open_int Try.underlying3 (hval 0 3 v0 rfl rfl) h0
  obtain ⟨a1, rfl, rfl, rfl, w1⟩ := open_int Try.underlying3 (hval 1 3 v1 rfl rfl) h1
  have k2 := h2
  have lt2 : ∀ x ∈ p2, x.block < W.heap.size := by obtain ⟨m, hm⟩ := k2; exact DataW.trod_lt m _ _ _ hm
  obtain ⟨l2, ⟨A2, c2, hcs2, hc2, hr2⟩, ok2⟩ := op33.arg h2
  obtain rfl := slice_of Try.underlying33 (hval 2 33 v2 rfl rfl) hcs2
  clear hA0 hval0 hsz0
  obtain ⟨k, hP⟩ := Pure.FnExactPolyValues a0 a1 l2 w0 w1 ok2
  refine (Print.laws_FnExactPolyValues.calls k a0 a1 A2 c2 l2 true W hr2 hc2 hP).mono fun e W' ⟨he, bel0⟩ => ?_
  have bel : Below W.heap.size W W' := bel0
  subst he
  exact ⟨_, rfl, _, _, _, [], _, [], hW', trodAll_mk1 (shut_bool Try.underlying4 _), (trodAll_cons_mk (shut_int Try.underlying3 w0) (trodAll_cons_mk (shut_int Try.underlying3 w1) (trodAll_cons_mk (Below.trod laidOut (by kernel_rfl) (of_decide_eq_true (by kernel_rfl)) k2 bel lt2) trodAll_mk0))), rfl, bel.frame _, fun h => by cases h⟩
theorem over : Rows.fnExactPolyValuesRow.holds Try.pinned (OpenSpec.ofChange Rows.fnExactPolyValuesSpec) :=
  OpenClaim.holds_of_wide 7 Try.f7 rfl rfl rfl rfl rfl rfl rfl ⟨rfl, rfl, rfl, rfl, rfl⟩ rfl rfl rfl rfl rfl (by kernel_rfl) Try.func7 (by kernel_rfl)
    (of_decide_eq_true (by kernel_rfl)) (by unfold Func.isWrapper; first | (rw [if_pos (by decide +kernel)]; kernel_rfl) | (rw [if_neg (by decide +kernel)]; exact ⟨rfl, rfl⟩))
    (fun os started H enc _ => lifted os started H enc)
theorem proved : Rows.FnExactPolyValuesSaid := over
#print axioms proved
end Go.Proofs.Ytggjpogcimdepaa.fnExactPolyValues
namespace Go.Proofs.Ytggjpogcimdepaa
/-- The row, under a short name, for the claim. -/
theorem fnExactPolyValues_holds : Rows.FnExactPolyValuesSaid := fnExactPolyValues.proved
end Go.Proofs.Ytggjpogcimdepaa
