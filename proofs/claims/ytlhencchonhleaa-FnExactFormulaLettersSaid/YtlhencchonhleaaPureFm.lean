/- The reference's functions over a formula's text answer as the formula does. No condition but a length of at most 2^40. -/
import Derived.Test.YtlhencchonhleaaManA
import Derived.Test.YtlhencchonhleaaFmS
import Derived.Test.YtlhencchonhleaaFnspecl22Good
import Derived.Test.YtlhencchonhleaaFnspecl22Parts
import Derived.Test.YtlhencchonhleaaXEv
namespace Go.Proofs.Ytlhencchonhleaa.PFm
open Go.RowKit Go.Proofs.YtlhencchonhleaaW.PrintWords Go.Proofs.YtlhencchonhleaaW.PrintMore Go.Proofs.Ytlhencchonhleaa.Fm Go.Proofs.Ytlhencchonhleaa.XEv Go.Proofs.Ytlhencchonhleaa.Print Go.Proofs.Ytlhencchonhleaa.Man
set_option linter.unusedVariables false
set_option linter.unusedSimpArgs false

theorem B8_data (s : ByteArray) : s = B8 s.data.toList := by
  cases s
  simp [B8]
theorem bt_mid (p : List UInt8) (c : UInt8) (r : List UInt8) : bt (B8 (p ++ c :: r)) (p.length : Int) = (c.toNat : Int) := by
  unfold bt
  rw [dif_pos (by rw [size_B8]; simp)]
  show ((((p ++ c :: r).toArray)[p.length]'(by simp)).toNat : Int) = _
  simp
theorem B8_extract (l : List UInt8) (i j : Nat) : (B8 l).extract i j = B8 ((l.take j).drop i) := by
  apply ByteArray.ext
  simp [B8, ByteArray.data_extract, List.drop_take]
theorem u8_eq {c d : UInt8} (h : (c.toNat : Int) = (d.toNat : Int)) : c = d := UInt8.toNat_inj.1 (by omega)
theorem u8_ne {c d : UInt8} (h : c ≠ d) : ¬ (c.toNat : Int) = (d.toNat : Int) := fun e => h (u8_eq e)

/-- Where the formula that begins at the rest s ends, counted from a text's start. -/
def endAt (n : Nat) (s : List UInt8) : Int := match pre s with | none => -1 | some (_, r) => (n : Int) - r.length
theorem endAt_some {n : Nat} {s : List UInt8} {t : Fm} {r : List UInt8} (h : pre s = some (t, r)) : endAt n s = (n : Int) - r.length := by unfold endAt; rw [h]
theorem endAt_none {n : Nat} {s : List UInt8} (h : pre s = none) : endAt n s = -1 := by unfold endAt; rw [h]

theorem end_ : ∀ (m : Nat) (p s : List UInt8), s.length ≤ m → p.length + s.length ≤ 1000000000000 →
    Ev (fun k => spec_l22End.f k (B8 (p ++ s)) (p.length : Int)) (endAt (p.length + s.length) s) := by
  intro m
  induction m with
  | zero =>
    intro p s hs hl
    obtain rfl : s = [] := by cases s with
      | nil => rfl
      | cons a s => simp at hs
    refine estep (fun k => spec_l22End.f.eq_2 (k := k) ..) (epos (by rw [size_B8]; simp) (eok ?_))
    rw [endAt_none pre_nil]
  | succ m ih =>
    intro p s hs hl
    cases s with
    | nil =>
      refine estep (fun k => spec_l22End.f.eq_2 (k := k) ..) (epos (by rw [size_B8]; simp) (eok ?_))
      rw [endAt_none pre_nil]
    | cons c s =>
      have hsz : ((B8 (p ++ c :: s)).size : Int) = (p.length : Int) + s.length + 1 := by rw [size_B8]; simp; omega
      have hb := bt_mid p c s
      have hl2 : p.length + s.length + 1 ≤ 1000000000000 := by simp at hl; omega
      have hs2 : s.length ≤ m := by simpa using hs
      have hnx : wrap64 ((p.length : Int) + 1) = ((p ++ [c]).length : Int) := by rw [wrap_in (by omega) (by omega)]; simp
      have hap : p ++ c :: s = (p ++ [c]) ++ s := by simp
      have hIH := ih (p ++ [c]) s hs2 (by simp; omega)
      rw [show (p ++ [c]).length + s.length = p.length + (c :: s).length by simp; omega, ← hap] at hIH
      refine estep (fun k => spec_l22End.f.eq_2 (k := k) ..) (eneg (by rw [hsz]; omega) (epos (by omega) (epos (by rw [hsz]; omega) ?_)))
      rw [hb]
      -- the leaf's way
      have leafWay : leafc c = true → Ev (fun k => spec_l22End.j0 k (B8 (p ++ c :: s)) (p.length : Int) true) (endAt (p.length + (c :: s).length) (c :: s)) := by
        intro h
        refine estep (fun k => spec_l22End.j0.eq_2 (k := k) ..) (epos rfl (eok ?_))
        rw [hnx, endAt_some (pre_leaf h)]
        simp
        omega
      have otherWay : leafc c = false → Ev (fun k => spec_l22End.j0 k (B8 (p ++ c :: s)) (p.length : Int) false) (endAt (p.length + (c :: s).length) (c :: s)) := by
        intro h
        refine estep (fun k => spec_l22End.j0.eq_2 (k := k) ..) (eneg (by simp) (epos (by omega) (epos (by rw [hsz]; omega) ?_)))
        rw [hb, hnx]
        by_cases h126 : c = 126
        · subst h126
          refine epos rfl (ebind hIH (eok ?_))
          unfold endAt
          rw [pre_neg]
          cases pre s with
          | none => rfl
          | some q => rfl
        refine eneg (u8_ne h126) ?_
        by_cases h40 : c = 40
        case neg => exact eneg (u8_ne h40) (eok (endAt_none (pre_other h h126 h40)).symm)
        subst h40
        refine epos rfl (ebind hIH ?_)
        have fail : pre (40 :: s) = none → Ev (fun k => spec_l22End.j1 k (B8 (p ++ 40 :: s)) (endAt (p.length + (40 :: s).length) s) true) (endAt (p.length + (40 :: s).length) (40 :: s)) := by
          intro hn
          exact estep (fun k => spec_l22End.j1.eq_2 (k := k) ..) (epos rfl (eok (endAt_none hn).symm))
        cases hp : pre s with
        | none =>
          have f := fail (pre_open_none hp)
          rw [endAt_none hp] at f ⊢
          exact epos (by omega) f
        | some q =>
          obtain ⟨a, r⟩ := q
          obtain ⟨hwa, hsa⟩ := pf_sound _ _ _ _ hp
          have hsl : s.length = a.text.length + r.length := by rw [hsa]; simp
          have hapos := text_pos a
          refine eneg (by rw [endAt_some hp]; simp; omega) ?_
          cases r with
          | nil =>
            have f := fail (pre_open_end hp)
            exact epos (by rw [endAt_some hp, hsz]; simp; omega) f
          | cons op r2 =>
            have hmid : endAt (p.length + (40 :: s).length) s = ((p ++ 40 :: a.text).length : Int) := by
              rw [endAt_some hp]; simp [hsl]; omega
            have happ : p ++ 40 :: s = (p ++ 40 :: a.text) ++ op :: r2 := by rw [hsa]; simp
            have hbm : bt (B8 (p ++ 40 :: s)) ((p ++ 40 :: a.text).length : Int) = (op.toNat : Int) := by rw [happ]; exact bt_mid _ _ _
            have hml : (((p ++ 40 :: a.text).length : Nat) : Int) < ((B8 (p ++ 40 :: s)).size : Int) := by rw [hsz]; simp [hsl]; omega
            refine eneg (by rw [hmid]; omega) ?_
            rw [hmid] at fail ⊢
            refine epos (by omega) (epos hml ?_)
            rw [hbm]
            have hnx2 : wrap64 (((p ++ 40 :: a.text).length : Int) + 1) = (((p ++ 40 :: a.text) ++ [op]).length : Int) := by
              rw [wrap_in (by omega) (by simp at hsl ⊢; omega)]; simp; omega
            have hIH2 := ih ((p ++ 40 :: a.text) ++ [op]) r2 (by simp at hsl; omega) (by simp at hsl ⊢; omega)
            rw [show ((p ++ 40 :: a.text) ++ [op]) ++ r2 = p ++ 40 :: s by rw [hsa]; simp, show ((p ++ 40 :: a.text) ++ [op]).length + r2.length = p.length + (40 :: s).length by simp [hsl]; omega] at hIH2
            have good : binc op = true → Ev (fun k => spec_l22End.j1 k (B8 (p ++ 40 :: s)) ((p ++ 40 :: a.text).length : Int) false) (endAt (p.length + (40 :: s).length) (40 :: s)) := by
              intro hop
              refine estep (fun k => spec_l22End.j1.eq_2 (k := k) ..) (eneg (by simp) ?_)
              rw [hnx2]
              refine ebind hIH2 ?_
              have hpo := pre_open hp hop
              cases hq : pre r2 with
              | none =>
                rw [hq] at hpo
                rw [endAt_none hq, endAt_none hpo]
                exact epos (by omega) (eok rfl)
              | some q2 =>
                obtain ⟨b, r3⟩ := q2
                obtain ⟨hwb, hsb⟩ := pf_sound _ _ _ _ hq
                have hsl2 : r2.length = b.text.length + r3.length := by rw [hsb]; simp
                have hbpos := text_pos b
                have hsl3 : s.length = a.text.length + (b.text.length + r3.length) + 1 := by simp at hsl; omega
                refine eneg (by rw [endAt_some hq]; simp [hsl3]; omega) ?_
                cases r3 with
                | nil =>
                  rw [hq] at hpo
                  rw [endAt_none hpo]
                  exact epos (by rw [endAt_some hq, hsz]; simp; omega) (eok rfl)
                | cons d r4 =>
                  rw [hq] at hpo
                  dsimp only at hpo
                  have hend : endAt (p.length + (40 :: s).length) r2 = ((p ++ 40 :: (a.text ++ op :: b.text)).length : Int) := by
                    rw [endAt_some hq]; simp [hsl3]; omega
                  have happ2 : p ++ 40 :: s = (p ++ 40 :: (a.text ++ op :: b.text)) ++ d :: r4 := by rw [hsa, hsb]; simp
                  have hbe : bt (B8 (p ++ 40 :: s)) ((p ++ 40 :: (a.text ++ op :: b.text)).length : Int) = (d.toNat : Int) := by rw [happ2]; exact bt_mid _ _ _
                  have hel : (((p ++ 40 :: (a.text ++ op :: b.text)).length : Nat) : Int) < ((B8 (p ++ 40 :: s)).size : Int) := by rw [hsz]; simp [hsl3]; omega
                  refine eneg (by rw [hend]; omega) ?_
                  rw [hend]
                  refine epos (by omega) (epos hel ?_)
                  rw [hbe]
                  by_cases hd : d = 41
                  · subst hd
                    rw [if_pos rfl] at hpo
                    refine epos rfl (eok ?_)
                    rw [wrap_in (by omega) (by simp at hsl3 ⊢; omega), endAt_some hpo]
                    simp [hsl3]
                    omega
                  · rw [if_neg hd] at hpo
                    exact eneg (u8_ne hd) (eok (endAt_none hpo).symm)
            by_cases hop : binc op = true
            · have g := good hop
              rcases binc_cases hop with rfl | rfl | rfl
              · exact epos rfl g
              · exact eneg (by decide) (epos rfl g)
              · exact eneg (by decide) (eneg (by decide) g)
            · have hop2 : binc op = false := by simpa using hop
              have f := fail (pre_open_sign hp hop2)
              have n1 : op ≠ 38 := by rintro rfl; exact hop rfl
              have n2 : op ≠ 124 := by rintro rfl; exact hop rfl
              have n3 : op ≠ 62 := by rintro rfl; exact hop rfl
              refine eneg (u8_ne n1) (eneg (u8_ne n2) ?_)
              have e : ((op.toNat : Int) != 62) = true := by
                have := u8_ne n3
                simpa using this
              rw [e]
              exact f
      by_cases h : leafc c = true
      · have w := leafWay h
        rcases leafc_cases h with rfl | rfl | ⟨_, h1, h2⟩
        · exact epos rfl w
        · exact eneg (by decide) (epos rfl w)
        · refine eneg (by omega) (eneg (by omega) (epos (by omega) ?_))
          rw [show (decide ((c.toNat : Int) ≤ 102)) = true by simp; omega]
          exact w
      · have h' : leafc c = false := by simpa using h
        have w := otherWay h'
        have n1 : c ≠ 48 := by rintro rfl; exact h rfl
        have n2 : c ≠ 49 := by rintro rfl; exact h rfl
        refine eneg (u8_ne n1) (eneg (u8_ne n2) ?_)
        by_cases h97 : (c.toNat : Int) ≥ 97
        · refine epos h97 ?_
          have : ¬ (c.toNat : Int) ≤ 102 := by
            intro hle
            have : letter c = true := by unfold letter; simp; omega
            exact h (by unfold leafc; simp [this])
          rw [show (decide ((c.toNat : Int) ≤ 102)) = false by simp; omega]
          exact w
        · exact eneg h97 w
theorem good_ (s : ByteArray) (hs : s.size ≤ 1000000000000) : Ev (fun k => spec_l22Good.f k s) (whole s.data.toList).isSome := by
  have hsz : s.size = s.data.toList.length := by show s.data.size = _; rw [Array.length_toList]
  unfold spec_l22Good.f
  by_cases h0 : (s.size : Int) > 0
  case neg =>
    have e : s.data.toList = [] := List.length_eq_zero_iff.1 (by omega)
    rw [e]
    exact eneg h0 (eok rfl)
  refine epos h0 ?_
  by_cases h80 : (s.size : Int) ≤ 80
  case neg =>
    refine eneg h80 (eok ?_)
    unfold whole
    rw [if_neg (by omega)]
    rfl
  refine epos h80 ?_
  have he := end_ _ [] s.data.toList (Nat.le_refl _) (by simp; omega)
  rw [List.nil_append, ← B8_data s] at he
  refine ebind (g := fun k => spec_l22End.f k s 0) he (eok ?_)
  unfold whole
  rw [if_pos (by omega), hsz]
  cases hp : pre s.data.toList with
  | none =>
    rw [endAt_none hp]
    simp
  | some q =>
    obtain ⟨t, r⟩ := q
    rw [endAt_some hp]
    cases r with
    | nil => simp
    | cons c r => simp; omega
theorem parts_leaf (c : UInt8) (h : leafc c = true) : Ev (fun k => spec_l22Parts.f k (B8 (Fm.leaf c).text)) ((c.toNat : Int), (⟨#[]⟩ : ByteArray), (⟨#[]⟩ : ByteArray)) := by
  have hb := bt_mid [] c []
  rw [List.nil_append] at hb
  have n1 : c ≠ 126 := by rintro rfl; exact absurd h (by decide)
  have n2 : c ≠ 40 := by rintro rfl; exact absurd h (by decide)
  unfold spec_l22Parts.f Fm.text
  refine epos (by rw [size_B8]; simp) ?_
  rw [show bt (B8 [c]) 0 = (c.toNat : Int) from hb]
  exact eneg (u8_ne n1) (eneg (u8_ne n2) (eok rfl))
theorem parts_neg (a : Fm) : Ev (fun k => spec_l22Parts.f k (B8 (Fm.neg a).text)) (126, B8 a.text, (⟨#[]⟩ : ByteArray)) := by
  have hb := bt_mid [] 126 a.text
  rw [List.nil_append] at hb
  show Ev (fun k => spec_l22Parts.f k (B8 (126 :: a.text))) _
  unfold spec_l22Parts.f
  refine epos (by rw [size_B8]; simp) ?_
  rw [show bt (B8 (126 :: a.text)) 0 = 126 from hb]
  refine epos rfl (epos (by rw [size_B8]; simp; omega) (eok ?_))
  rw [B8_extract, size_B8]
  simp
theorem parts_bin (op : UInt8) (a b : Fm) (hw : (Fm.bin op a b).wf) (hl : (Fm.bin op a b).text.length ≤ 1000000000) : Ev (fun k => spec_l22Parts.f k (B8 (Fm.bin op a b).text)) ((op.toNat : Int), B8 a.text, B8 b.text) := by
  have hb := bt_mid [] 40 (a.text ++ op :: (b.text ++ [41]))
  rw [List.nil_append] at hb
  have hl2 : a.text.length + b.text.length + 3 ≤ 1000000000 := by simp [Fm.text] at hl; omega
  have he := end_ _ [40] (a.text ++ op :: (b.text ++ [41])) (Nat.le_refl _) (by simp; omega)
  have hp : pre (a.text ++ op :: (b.text ++ [41])) = some (a, op :: (b.text ++ [41])) := pf_complete a _ _ hw.2.1 (by simp)
  rw [endAt_some hp] at he
  have hsz : ((B8 (40 :: (a.text ++ op :: (b.text ++ [41])))).size : Int) = (a.text.length : Int) + b.text.length + 3 := by rw [size_B8]; simp; omega
  have hmid : ((([40] : List UInt8).length + (a.text ++ op :: (b.text ++ [41])).length : Nat) : Int) - ((op :: (b.text ++ [41])).length : Nat) = (a.text.length : Int) + 1 := by simp; omega
  rw [hmid] at he
  have hbm : bt (B8 (40 :: (a.text ++ op :: (b.text ++ [41])))) ((a.text.length : Int) + 1) = (op.toNat : Int) := by
    have := bt_mid (40 :: a.text) op (b.text ++ [41])
    simpa using this
  show Ev (fun k => spec_l22Parts.f k (B8 (40 :: (a.text ++ op :: (b.text ++ [41]))))) _
  unfold spec_l22Parts.f
  refine epos (by rw [hsz]; omega) ?_
  rw [show bt (B8 (40 :: (a.text ++ op :: (b.text ++ [41])))) 0 = 40 from hb]
  refine eneg (by decide) (epos rfl (ebind (g := fun k => spec_l22End.f k (B8 (40 :: (a.text ++ op :: (b.text ++ [41])))) 1) he ?_))
  rw [hsz, wrap_in (n := (a.text.length : Int) + 1 + 1) (by omega) (by omega), wrap_in (n := (a.text.length : Int) + b.text.length + 3 - 1) (by omega) (by omega)]
  refine epos (by omega) (epos (by omega) (epos (by omega) (epos (by omega) (epos (by omega) (epos (by omega) (epos (by omega) (eok ?_)))))))
  rw [hbm, B8_extract, B8_extract]
  have e1 : ((a.text.length : Int) + 1).toNat = a.text.length + 1 := by omega
  have e2 : ((a.text.length : Int) + 1 + 1).toNat = a.text.length + 2 := by omega
  have e3 : ((a.text.length : Int) + b.text.length + 3 - 1).toNat = a.text.length + b.text.length + 2 := by omega
  rw [e1, e2, e3]
  have f1 : ((40 :: (a.text ++ op :: (b.text ++ [41]))).take (a.text.length + 1)).drop 1 = a.text := by simp
  have f2 : ((40 :: (a.text ++ op :: (b.text ++ [41]))).take (a.text.length + b.text.length + 2)).drop (a.text.length + 2) = b.text := by
    have : (40 :: (a.text ++ op :: (b.text ++ [41]))) = (40 :: a.text ++ [op]) ++ (b.text ++ [41]) := by simp
    rw [this, List.take_append, List.drop_append]
    simp
  rw [f1, f2]
end Go.Proofs.Ytlhencchonhleaa.PFm
