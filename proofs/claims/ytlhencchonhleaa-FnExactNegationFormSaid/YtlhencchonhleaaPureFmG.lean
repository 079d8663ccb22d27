/- The reference's form with signs over a formula's text. No condition but a length. -/
import Derived.Test.YtlhencchonhleaaPureFm
import Derived.Test.YtlhencchonhleaaFnspecl22Signed
namespace Go.Proofs.Ytlhencchonhleaa.PFm
open Go.RowKit Go.Proofs.YtlhencchonhleaaW.PrintWords Go.Proofs.YtlhencchonhleaaW.PrintMore Go.Proofs.Ytlhencchonhleaa.Fm Go.Proofs.Ytlhencchonhleaa.XEv Go.Proofs.Ytlhencchonhleaa.Print Go.Proofs.Ytlhencchonhleaa.Man
set_option linter.unusedVariables false
set_option linter.unusedSimpArgs false
theorem join_f (o : UInt8) (t u : Fm) (ht : t.text.length ≤ 1000000) (hu : u.text.length ≤ 1000000) : spec_l22Join.f (⟨#[o]⟩ : ByteArray) (B8 t.text) (B8 u.text) = some (B8 (Fm.bin o t u).text) := by
  unfold spec_l22Join.f
  rw [if_pos ⟨by show 1 ≤ 1000000; omega, by rw [size_B8]; exact ht, by rw [size_B8]; exact hu⟩]
  show some (B8 [40] ++ B8 t.text ++ B8 [o] ++ B8 u.text ++ B8 [41]) = _
  rw [app_B8, app_B8, app_B8, app_B8]
  simp [Fm.text]
theorem ssg : ∀ (t : Fm) (p : Bool), t.wf → t.text.length ≤ 1000 → Ev (fun k => spec_l22Signed.f k (B8 t.text) p) (B8 (t.sg p).text)
  | .leaf c, p, hw, hl => by
    refine estep (fun k => spec_l22Signed.f.eq_2 (k := k) ..) (ebind (parts_leaf c hw) ?_)
    have n126 : c ≠ 126 := by rintro rfl; exact absurd (show leafc _ = true from hw) (by decide)
    refine eneg (u8_ne n126) ?_
    unfold Fm.sg
    rcases leafc_cases hw with rfl | rfl | ⟨_, h1, h2⟩
    · refine epos rfl ?_
      cases p with
      | true => exact epos rfl (estep (fun k => spec_l22Signed.j0.eq_2 (k := k) ..) (epos rfl (eok rfl)))
      | false =>
        exact eneg (by simp) (eneg (by simp) (estep (fun k => spec_l22Signed.j0.eq_2 (k := k) ..) (eneg (by simp) (eneg (by simp) (estep (fun k => spec_l22Signed.j1.eq_2 (k := k) ..) (epos rfl (eok rfl)))))))
    · refine eneg (by simp) (epos rfl ?_)
      cases p with
      | true => exact estep (fun k => spec_l22Signed.j0.eq_2 (k := k) ..) (eneg (by simp) (epos rfl (estep (fun k => spec_l22Signed.j1.eq_2 (k := k) ..) (epos rfl (eok rfl)))))
      | false => exact estep (fun k => spec_l22Signed.j0.eq_2 (k := k) ..) (epos rfl (eok rfl))
    · have e : ∀ d : Int, (d < 97 ∨ d > 102) → ¬ ((c.toNat : Nat) : Int) = d := fun d hd => by omega
      have eb : ∀ d : Int, (d < 97 ∨ d > 102) → (((c.toNat : Nat) : Int) == d) = false := fun d hd => by simp; omega
      rw [if_neg (by rintro rfl; exact absurd h1 (by decide)), if_neg (by rintro rfl; exact absurd h1 (by decide))]
      refine eneg (e _ (by decide)) (eneg (e _ (by decide)) ?_)
      refine estep (fun k => spec_l22Signed.j0.eq_2 (k := k) ..) (eneg (by simp) (eneg (e _ (by decide)) ?_))
      show Ev (fun k => spec_l22Signed.j1 k _ _ _ _ _ (((c.toNat : Nat) : Int) == 48)) _
      rw [eb _ (by decide)]
      refine estep (fun k => spec_l22Signed.j1.eq_2 (k := k) ..) (eneg (by simp) (eneg (e _ (by decide)) ?_))
      refine estep (fun k => spec_l22Signed.j2.eq_2 (k := k) ..) (eneg (by simp) (eneg (e _ (by decide)) (eneg (e _ (by decide)) (eneg (e _ (by decide)) ?_))))
      refine estep (fun k => spec_l22Signed.j3.eq_2 (k := k) ..) (eneg (by simp) (eneg (e _ (by decide)) ?_))
      show Ev (fun k => spec_l22Signed.j4 k _ _ _ _ (((c.toNat : Nat) : Int) == 124)) _
      rw [eb _ (by decide)]
      refine estep (fun k => spec_l22Signed.j4.eq_2 (k := k) ..) (eneg (by simp) ?_)
      cases p with
      | true => exact epos rfl (eok rfl)
      | false =>
        refine eneg (by simp) (epos (by rw [size_B8]; simp [Fm.text]) (eok ?_))
        show B8 [126] ++ B8 [c] = _
        rw [app_B8]
        rfl
  | .neg a, p, hw, hl => by
    have ih := ssg a (!p) hw (by simp [Fm.text] at hl; omega)
    exact estep (fun k => spec_l22Signed.f.eq_2 (k := k) ..) (ebind (parts_neg a) (epos rfl (ebind ih (eok rfl))))
  | .bin op a b, p, hw, hl => by
    have hl2 : a.text.length ≤ 1000 ∧ b.text.length ≤ 1000 := by simp [Fm.text] at hl; omega
    have ha := fun q => ssg a q hw.2.1 hl2.1
    have hb := fun q => ssg b q hw.2.2 hl2.2
    have la := fun q => sg_len a q
    have lb := fun q => sg_len b q
    have hj : ∀ (o : UInt8) (q q2 : Bool), spec_l22Join.f (⟨#[o]⟩ : ByteArray) (B8 (a.sg q).text) (B8 (b.sg q2).text) = some (B8 (Fm.bin o (a.sg q) (b.sg q2)).text) :=
      fun o q q2 => join_f o _ _ (by have := la q; omega) (by have := lb q2; omega)
    refine estep (fun k => spec_l22Signed.f.eq_2 (k := k) ..) (ebind (parts_bin op a b hw (by omega)) ?_)
    unfold Fm.sg
    rcases binc_cases hw.1 with rfl | rfl | rfl
    · refine eneg (by simp) (eneg (by simp) (eneg (by simp) ?_))
      refine estep (fun k => spec_l22Signed.j0.eq_2 (k := k) ..) (eneg (by simp) (eneg (by simp) ?_))
      refine estep (fun k => spec_l22Signed.j1.eq_2 (k := k) ..) (eneg (by simp) (eneg (by simp) ?_))
      refine estep (fun k => spec_l22Signed.j2.eq_2 (k := k) ..) (eneg (by simp) (eneg (by simp) (epos rfl ?_)))
      rw [if_neg (by decide)]
      cases p with
      | true =>
        exact epos rfl (estep (fun k => spec_l22Signed.j3.eq_2 (k := k) ..) (epos rfl (ebind (ha true) (ebind (hb true) (ebind1 (hj 38 true true) (eok rfl))))))
      | false =>
        exact eneg (by simp) (eneg (by simp) (estep (fun k => spec_l22Signed.j3.eq_2 (k := k) ..) (eneg (by simp) (epos rfl (estep (fun k => spec_l22Signed.j4.eq_2 (k := k) ..) (epos rfl (ebind (ha false) (ebind (hb false) (ebind1 (hj 124 false false) (eok rfl))))))))))
    · refine eneg (by simp) (eneg (by simp) (eneg (by simp) ?_))
      refine estep (fun k => spec_l22Signed.j0.eq_2 (k := k) ..) (eneg (by simp) (eneg (by simp) ?_))
      refine estep (fun k => spec_l22Signed.j1.eq_2 (k := k) ..) (eneg (by simp) (eneg (by simp) ?_))
      refine estep (fun k => spec_l22Signed.j2.eq_2 (k := k) ..) (eneg (by simp) (eneg (by simp) (eneg (by simp) (epos rfl ?_))))
      rw [if_neg (by decide)]
      cases p with
      | true =>
        exact estep (fun k => spec_l22Signed.j3.eq_2 (k := k) ..) (eneg (by simp) (eneg (by simp) (estep (fun k => spec_l22Signed.j4.eq_2 (k := k) ..) (epos rfl (ebind (ha true) (ebind (hb true) (ebind1 (hj 124 true true) (eok rfl))))))))
      | false =>
        exact estep (fun k => spec_l22Signed.j3.eq_2 (k := k) ..) (epos rfl (ebind (ha false) (ebind (hb false) (ebind1 (hj 38 false false) (eok rfl)))))
    · refine eneg (by simp) (eneg (by simp) (eneg (by simp) ?_))
      refine estep (fun k => spec_l22Signed.j0.eq_2 (k := k) ..) (eneg (by simp) (eneg (by simp) ?_))
      refine estep (fun k => spec_l22Signed.j1.eq_2 (k := k) ..) (eneg (by simp) (epos rfl ?_))
      rw [if_pos rfl]
      cases p with
      | true =>
        exact estep (fun k => spec_l22Signed.j2.eq_2 (k := k) ..) (epos rfl (ebind (ha false) (ebind (hb true) (ebind1 (hj 124 false true) (eok rfl)))))
      | false =>
        exact estep (fun k => spec_l22Signed.j2.eq_2 (k := k) ..) (eneg (by simp) (epos rfl (ebind (ha true) (ebind (hb false) (ebind1 (hj 38 true false) (eok rfl))))))
end Go.Proofs.Ytlhencchonhleaa.PFm
