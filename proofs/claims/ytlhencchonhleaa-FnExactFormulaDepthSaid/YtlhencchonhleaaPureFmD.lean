/- The reference's depth of a formula's text. No condition but a length. -/
import Derived.Test.YtlhencchonhleaaPureFm
import Derived.Test.YtlhencchonhleaaFnspecl22Depth
namespace Go.Proofs.Ytlhencchonhleaa.PFm
open Go.RowKit Go.Proofs.YtlhencchonhleaaW.PrintWords Go.Proofs.YtlhencchonhleaaW.PrintMore Go.Proofs.Ytlhencchonhleaa.Fm Go.Proofs.Ytlhencchonhleaa.XEv Go.Proofs.Ytlhencchonhleaa.Print Go.Proofs.Ytlhencchonhleaa.Man
set_option linter.unusedVariables false
set_option linter.unusedSimpArgs false
theorem most (a b : Int) : spec_l1Most.f a b = some (max a b) := by
  unfold spec_l1Most.f
  by_cases h : a > b
  · rw [if_pos h]; congr 1; omega
  · rw [if_neg h]; congr 1; omega
theorem sdep : ∀ (t : Fm), t.wf → t.text.length ≤ 1000 → Ev (fun k => spec_l22Depth.f k (B8 t.text)) (t.dep : Int)
  | .leaf c, hw, hl => by
    refine estep (fun k => spec_l22Depth.f.eq_2 (k := k) ..) (ebind (parts_leaf c hw) ?_)
    have n126 : c ≠ 126 := by rintro rfl; exact absurd (show leafc _ = true from hw) (by decide)
    have n38 : c ≠ 38 := by rintro rfl; exact absurd (show leafc _ = true from hw) (by decide)
    have n124 : c ≠ 124 := by rintro rfl; exact absurd (show leafc _ = true from hw) (by decide)
    have n62 : c ≠ 62 := by rintro rfl; exact absurd (show leafc _ = true from hw) (by decide)
    refine eneg (u8_ne n126) (eneg (u8_ne n38) (eneg (u8_ne n124) ?_))
    have e : (((c.toNat : Nat) : Int) == 62) = false := by
      have := u8_ne n62
      simpa using this
    show Ev (fun k => spec_l22Depth.j0 k _ _ (((c.toNat : Nat) : Int) == 62)) _
    rw [e]
    exact estep (fun k => spec_l22Depth.j0.eq_2 (k := k) ..) (eneg (by simp) (eok rfl))
  | .neg a, hw, hl => by
    have hl2 : a.text.length ≤ 1000 := by simp [Fm.text] at hl; omega
    have ih := sdep a hw hl2
    have hd := dep_le a
    refine estep (fun k => spec_l22Depth.f.eq_2 (k := k) ..) (ebind (parts_neg a) (epos rfl (ebind ih (eok ?_))))
    rw [wrap_in (by omega) (by omega)]
    simp [Fm.dep]
  | .bin op a b, hw, hl => by
    have hl2 : a.text.length ≤ 1000 ∧ b.text.length ≤ 1000 := by simp [Fm.text] at hl; omega
    have ha := sdep a hw.2.1 hl2.1
    have hb := sdep b hw.2.2 hl2.2
    have hda := dep_le a
    have hdb := dep_le b
    have J : Ev (fun k => spec_l22Depth.j0 k (B8 a.text) (B8 b.text) true) ((Fm.bin op a b).dep : Int) := by
      refine estep (fun k => spec_l22Depth.j0.eq_2 (k := k) ..) (epos rfl (ebind ha (ebind hb (ebind1 (most _ _) (eok ?_)))))
      rw [wrap_in (by omega) (by omega)]
      simp only [Fm.dep]
      omega
    refine estep (fun k => spec_l22Depth.f.eq_2 (k := k) ..) (ebind (parts_bin op a b hw (by omega)) ?_)
    rcases binc_cases hw.1 with rfl | rfl | rfl
    · exact eneg (by simp) (epos rfl J)
    · exact eneg (by simp) (eneg (by simp) (epos rfl J))
    · exact eneg (by simp) (eneg (by simp) (eneg (by simp) J))
end Go.Proofs.Ytlhencchonhleaa.PFm
