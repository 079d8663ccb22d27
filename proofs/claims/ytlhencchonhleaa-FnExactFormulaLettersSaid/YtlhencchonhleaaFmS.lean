/- Formulas, plainly: value, depth and the form with signs. No program; no condition. -/
import Derived.Test.YtlhencchonhleaaFm
import Derived.Test.YtlhencchonhleaaWMore
namespace Go.Proofs.Ytlhencchonhleaa.Fm
open Go.RowKit Go.Proofs.YtlhencchonhleaaW.PrintWords Go.Proofs.YtlhencchonhleaaW.PrintMore
set_option linter.unusedVariables false
set_option linter.unusedSimpArgs false
/-- A letter's value: the program's own words. -/
def lval (c : UInt8) (bits : Int) : Bool := (Go.bits .and .i64 (shr .i64 bits (((c.toNat : Nat) - 97 : Int) % 256)) 1) == 1
def Fm.val : Fm → Int → Bool
  | .leaf c, bits => if c = 48 then false else if c = 49 then true else lval c bits
  | .neg a, bits => !a.val bits
  | .bin op a b, bits => if op = 38 then a.val bits && b.val bits else if op = 124 then a.val bits || b.val bits else !a.val bits || b.val bits
def Fm.dep : Fm → Nat
  | .leaf c => 0
  | .neg a => a.dep + 1
  | .bin op a b => max a.dep b.dep + 1
def other (op : UInt8) : UInt8 := if op = 38 then 124 else 38
def Fm.sg : Fm → Bool → Fm
  | .leaf c, p => if c = 48 then .leaf (if p then 48 else 49) else if c = 49 then .leaf (if p then 49 else 48) else if p then .leaf c else .neg (.leaf c)
  | .neg a, p => a.sg (!p)
  | .bin op a b, p => if op = 62 then (if p then .bin 124 (a.sg false) (b.sg true) else .bin 38 (a.sg true) (b.sg false)) else .bin (if p then op else other op) (a.sg p) (b.sg p)
theorem dep_le : ∀ t : Fm, t.dep < t.text.length
  | .leaf c => by simp [Fm.text, Fm.dep]
  | .neg a => by have := dep_le a; simp [Fm.text, Fm.dep]; omega
  | .bin op a b => by have := dep_le a; have := dep_le b; simp [Fm.text, Fm.dep]; omega
theorem sg_len : ∀ (t : Fm) (p : Bool), (t.sg p).text.length ≤ 2 * t.text.length
  | .leaf c, p => by unfold Fm.sg; (repeat' split) <;> simp [Fm.text]
  | .neg a, p => by have := sg_len a (!p); simp only [Fm.sg, Fm.text, List.length_cons]; omega
  | .bin op a b, p => by
    have h1 := sg_len a p
    have h2 := sg_len b p
    have h3 := sg_len a false
    have h4 := sg_len b true
    have h5 := sg_len a true
    have h6 := sg_len b false
    unfold Fm.sg
    repeat' split
    all_goals simp only [Fm.text, List.length_cons, List.length_append, List.length_nil]
    all_goals omega
theorem binc_cases {op : UInt8} (h : binc op = true) : op = 38 ∨ op = 124 ∨ op = 62 := by
  unfold binc at h
  simp at h
  rcases h with (h | h) | h
  · exact .inl h
  · exact .inr (.inl h)
  · exact .inr (.inr h)
theorem leafc_cases {c : UInt8} (h : leafc c = true) : c = 48 ∨ c = 49 ∨ (letter c = true ∧ 97 ≤ c.toNat ∧ c.toNat < 103) := by
  unfold leafc at h
  by_cases hl : letter c = true
  · refine .inr (.inr ⟨hl, ?_⟩)
    unfold letter at hl
    simpa using hl
  · simp [hl] at h
    rcases h with h | h
    · exact .inl h
    · exact .inr (.inl h)
theorem sg_wf : ∀ (t : Fm) (p : Bool), t.wf → (t.sg p).wf
  | .leaf c, p, h => by
    unfold Fm.sg
    repeat' split
    all_goals first | exact h | decide | (show leafc _ = true; first | exact h | decide)
  | .neg a, p, h => sg_wf a (!p) h
  | .bin op a b, p, h => by
    unfold Fm.sg
    repeat' split
    · exact ⟨by decide, sg_wf a _ h.2.1, sg_wf b _ h.2.2⟩
    · exact ⟨by decide, sg_wf a _ h.2.1, sg_wf b _ h.2.2⟩
    · exact ⟨h.1, sg_wf a _ h.2.1, sg_wf b _ h.2.2⟩
    · exact ⟨by unfold other; split <;> decide, sg_wf a _ h.2.1, sg_wf b _ h.2.2⟩
end Go.Proofs.Ytlhencchonhleaa.Fm
