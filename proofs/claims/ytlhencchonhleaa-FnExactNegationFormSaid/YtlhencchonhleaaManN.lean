/- Depth and the form with signs, of a text. -/
import Derived.Test.YtlhencchonhleaaManG
import Derived.Test.YtlhencchonhleaaManH
import Derived.Test.YtlhencchonhleaaManI
namespace Go.Proofs.Ytlhencchonhleaa.Man
open Go.RowKit Go.Proofs.YtlhencchonhleaaW.PrintWords Go.Proofs.YtlhencchonhleaaW.PrintLast Go.Proofs.YtlhencchonhleaaW.PrintMore Go.Proofs.Ytlhencchonhleaa.Fm Go.Proofs.Ytlhencchonhleaa.Print
set_option linter.unusedVariables false
set_option linter.unusedSimpArgs false
theorem join_ (op : UInt8) (h : op.toNat < 128) (t u : Fm) (ht : t.text.length ≤ 1048576) (hu : u.text.length ≤ 1048576) : JC (op.toNat : Int) op t u := fun v x W h1 h2 => join op h t u ht hu v x W h1 h2
theorem signed_ : ∀ (t : Fm) (p : Bool) (w : World) (v : Value), t.wf → t.text.length ≤ 80 → FAt w t v → SC w v p (t.sg p)
  | .leaf c, p, w, v, hw, hl, ⟨b, hv, h⟩ => by
    subst hv
    intro W hb
    have h' := cellB h hb
    have h0 := (blk_cell h' 0).trans rfl
    have hf : FAt W (.leaf c) (.pointer (some ⟨b, 0, none⟩)) := ⟨b, rfl, h'⟩
    unfold Fm.sg
    rcases leafc_cases hw with rfl | rfl | ⟨hl, h1, h2⟩
    · cases p with
      | true => exact (sg_digit1 W b 48 (.inl rfl) h0).mono (fun e w' ⟨he, hw'⟩ => by subst hw'; exact ⟨Below.refl _ _, _, he, hf⟩)
      | false => exact sg_digit W b 48 49 false (.inl ⟨rfl, rfl, rfl⟩) h0
    · cases p with
      | true => exact (sg_digit1 W b 49 (.inr rfl) h0).mono (fun e w' ⟨he, hw'⟩ => by subst hw'; exact ⟨Below.refl _ _, _, he, hf⟩)
      | false => exact sg_digit W b 49 48 false (.inr ⟨rfl, rfl, rfl⟩) h0
    · rw [if_neg (by rintro rfl; exact absurd h1 (by decide)), if_neg (by rintro rfl; exact absurd h1 (by decide))]
      have n1 := intNe (c := c) (n := 48) (by omega)
      have n2 := intNe (c := c) (n := 49) (by omega)
      have n3 := intNe (c := c) (n := 126) (by omega)
      have n4 := intNe (c := c) (n := 38) (by omega)
      have n5 := intNe (c := c) (n := 124) (by omega)
      have n6 := intNe (c := c) (n := 62) (by omega)
      cases p with
      | true => exact (sg_letter1 W b c h0 n1 n2 n3 n4 n5 n6).mono (fun e w' ⟨he, hw'⟩ => by subst hw'; exact ⟨Below.refl _ _, _, he, hf⟩)
      | false => exact sg_letter0 W b c h0 n1 n2 n3 n4 n5 n6 (Lib.hid hf)
  | .neg a, p, w, v, hw, hl, ⟨b, va, hv, ha, h⟩ => by
    subst hv
    intro W hb
    have h' := cellB h hb
    obtain ⟨k, rfl⟩ := ha.ptr
    exact sg_neg W b k p _ ((blk_cell h' 0).trans rfl) ((blk_cell h' 1).trans rfl) (Lib.hid (signed_ a (!p) W _ hw (by simp [Fm.text] at hl; omega) (ha.below hb)))
  | .bin op a c, p, w, v, hw, hl, ⟨b, va, vc, hv, ha, hc, h⟩ => by
    subst hv
    intro W hb
    have h' := cellB h hb
    have h0 := (blk_cell h' 0).trans rfl
    have h1 := (blk_cell h' 1).trans rfl
    have h2 := (blk_cell h' 2).trans rfl
    obtain ⟨k, rfl⟩ := ha.ptr
    obtain ⟨k2, rfl⟩ := hc.ptr
    have hs : a.text.length ≤ 80 ∧ c.text.length ≤ 80 := by simp [Fm.text] at hl; omega
    have IA := fun q => signed_ a q W _ hw.2.1 hs.1 (ha.below hb)
    have IC := fun q => signed_ c q W _ hw.2.2 hs.2 (hc.below hb)
    have la := fun q => sg_len a q
    have lc := fun q => sg_len c q
    have hJ : ∀ (o : UInt8) (q q2 : Bool), o.toNat < 128 → JC (o.toNat : Int) o (a.sg q) (c.sg q2) := fun o q q2 ho => join_ o ho _ _ (by have := la q; omega) (by have := lc q2; omega)
    unfold Fm.sg
    rcases binc_cases hw.1 with rfl | rfl | rfl
    · rw [if_neg (by decide)]
      cases p with
      | true => exact sg_both W b k k2 _ _ h1 h2 true 38 38 38 (.inl ⟨rfl, rfl, rfl⟩) h0 (Lib.hid (IA true)) (Lib.hid (IC true)) (Lib.hid (hJ 38 true true (by decide)))
      | false => exact sg_both W b k k2 _ _ h1 h2 false 38 124 124 (.inr (.inr (.inl ⟨rfl, rfl, rfl⟩))) h0 (Lib.hid (IA false)) (Lib.hid (IC false)) (Lib.hid (hJ 124 false false (by decide)))
    · rw [if_neg (by decide)]
      cases p with
      | true => exact sg_both W b k k2 _ _ h1 h2 true 124 124 124 (.inr (.inl ⟨rfl, rfl, rfl⟩)) h0 (Lib.hid (IA true)) (Lib.hid (IC true)) (Lib.hid (hJ 124 true true (by decide)))
      | false => exact sg_both W b k k2 _ _ h1 h2 false 124 38 38 (.inr (.inr (.inr ⟨rfl, rfl, rfl⟩))) h0 (Lib.hid (IA false)) (Lib.hid (IC false)) (Lib.hid (hJ 38 false false (by decide)))
    · rw [if_pos rfl]
      cases p with
      | true => exact sg_imp W b k k2 _ _ h1 h2 true 124 124 (.inl ⟨rfl, rfl⟩) h0 (Lib.hid (IA false)) (Lib.hid (IC true)) (Lib.hid (hJ 124 false true (by decide)))
      | false => exact sg_imp W b k k2 _ _ h1 h2 false 38 38 (.inr ⟨rfl, rfl⟩) h0 (Lib.hid (IA true)) (Lib.hid (IC false)) (Lib.hid (hJ 38 true false (by decide)))
section
variable (s : ByteArray)
set_option maxHeartbeats 1000000 in
theorem fd_none (HP : Hid (PN s)) (w : World) :
    Calls Try.prog 19 #[.string s] w fun e w' => e = .returned (.tuple #[.int .i64 0, .bool false]) ∧ Below w.heap.size w w' := by
  go_enter Try.func19, Try.ntmps19
  go_wp2_with (go_at_call 37; (with_reducible refine (PN.use HP _).mono ?_); rintro e w1 ⟨hb, rfl⟩)
  go_ret2
  exact ⟨rfl, hb⟩
set_option maxHeartbeats 1000000 in
theorem fd_some (t : Fm) (hl : Hid (t.text.length ≤ 1000)) (HP : Hid (PS s t)) (w : World) :
    Calls Try.prog 19 #[.string s] w fun e w' => e = .returned (.tuple #[.int .i64 (t.dep : Int), .bool true]) ∧ Below w.heap.size w w' := by
  obtain ⟨n, hn⟩ : ∃ n : Int, Hid ((t.dep : Int) = n) := ⟨_, Lib.hid rfl⟩
  rw [hn.out]
  go_enter Try.func19, Try.ntmps19
  go_wp2_with (first | (go_at_call 37; (with_reducible refine (PS.use HP _).mono ?_); rintro e w1 ⟨hb, v, rfl, hv⟩; have HD := Lib.hid (depth_ t _ v hl.out hv); clear hv; rw [hn.out] at HD) | (go_at_call 42; (with_reducible refine (DC.use HD _ (Below.refl _ _)).mono ?_); rintro e w2 ⟨rfl, ⟨nd, rfl⟩⟩))
  go_ret2
  exact ⟨rfl, chain hb (drewNB _ _)⟩
/-- A call of shown. -/
def ShC (w : World) (v : Value) (r : ByteArray) (b : Bool) : Prop := Calls Try.prog 56 #[v] w fun e w' => e = .returned (.tuple #[.string r, .bool b]) ∧ w' = w
theorem ShC.use {w : World} {v : Value} {r : ByteArray} {b : Bool} (h : Hid (ShC w v r b)) : Calls Try.prog 56 #[v] w fun e w' => e = .returned (.tuple #[.string r, .bool b]) ∧ w' = w := h.out
set_option maxHeartbeats 1000000 in
theorem shown_long (w : World) (b : Nat) (s : ByteArray) (hs : 80 < s.size) (h3 : w.cell? ⟨b, 3, none⟩ = some (.string s)) : ShC w (.pointer (some ⟨b, 0, none⟩)) ⟨#[]⟩ false := by
  unfold ShC
  have hs2 : (s.size : Int) > 80 := by omega
  go_enter Try.func56, Try.ntmps56
  go_wp2_with fail
  go_ret2
  exact ⟨rfl, rfl⟩
set_option maxHeartbeats 1000000 in
theorem shown_short (w : World) (b : Nat) (s : ByteArray) (hs : s.size ≤ 80) (h3 : w.cell? ⟨b, 3, none⟩ = some (.string s)) : ShC w (.pointer (some ⟨b, 0, none⟩)) s true := by
  unfold ShC
  have hs2 : ¬ (s.size : Int) > 80 := by omega
  go_enter Try.func56, Try.ntmps56
  go_wp2_with fail
  go_ret2
  exact ⟨rfl, rfl⟩
/-- What shown tells. -/
def short (l : List UInt8) : ByteArray × Bool := if l.length ≤ 80 then (B8 l, true) else (⟨#[]⟩, false)
theorem shown_ (t : Fm) (w : World) (v : Value) (h : FAt w t v) : ShC w v (short t.text).1 (short t.text).2 := by
  obtain ⟨b, rfl, hc⟩ := h.form
  unfold short
  by_cases hl : t.text.length ≤ 80
  · rw [if_pos hl]
    exact shown_short w b _ (by rw [size_B8]; exact hl) hc
  · rw [if_neg hl]
    exact shown_long w b _ (by rw [size_B8]; omega) hc
set_option maxHeartbeats 1000000 in
theorem nf_none (HP : Hid (PN s)) (w : World) :
    Calls Try.prog 33 #[.string s] w fun e w' => e = .returned (.tuple #[.string ⟨#[]⟩, .bool false]) ∧ Below w.heap.size w w' := by
  go_enter Try.func33, Try.ntmps33
  go_wp2_with (go_at_call 37; (with_reducible refine (PN.use HP _).mono ?_); rintro e w1 ⟨hb, rfl⟩)
  go_ret2
  exact ⟨rfl, hb⟩
set_option maxHeartbeats 1000000 in
theorem nf_some (t : Fm) (hw : Hid t.wf) (hl : Hid (t.text.length ≤ 80)) (HP : Hid (PS s t)) (w : World) :
    Calls Try.prog 33 #[.string s] w fun e w' => e = .returned (.tuple #[.string (short (t.sg true).text).1, .bool (short (t.sg true).text).2]) ∧ Below w.heap.size w w' := by
  obtain ⟨x, hx⟩ : ∃ x, Hid (t.sg true = x) := ⟨_, Lib.hid rfl⟩
  rw [hx.out]
  obtain ⟨r, hr⟩ : ∃ r, Hid ((short x.text).1 = r) := ⟨_, Lib.hid rfl⟩
  obtain ⟨q, hq⟩ : ∃ q, Hid ((short x.text).2 = q) := ⟨_, Lib.hid rfl⟩
  rw [hr.out, hq.out]
  go_enter Try.func33, Try.ntmps33
  go_wp2_with (first | (go_at_call 37; (with_reducible refine (PS.use HP _).mono ?_); rintro e w1 ⟨hb, v, rfl, hv⟩; have HS := Lib.hid (signed_ t true _ v hw.out hl.out hv); clear hv; rw [hx.out] at HS) | (go_at_call 55; (with_reducible refine (SC.use HS _ (Below.refl _ _)).mono ?_); rintro e w2 ⟨hb2, u, rfl, hu⟩; have HU := Lib.hid (shown_ x _ u hu); clear hu; rw [hr.out, hq.out] at HU) | (go_at_call 56; (with_reducible refine (ShC.use HU).mono ?_); rintro e w3 ⟨rfl, rfl⟩))
  go_ret2
  exact ⟨rfl, chain hb hb2⟩
end
end Go.Proofs.Ytlhencchonhleaa.Man
