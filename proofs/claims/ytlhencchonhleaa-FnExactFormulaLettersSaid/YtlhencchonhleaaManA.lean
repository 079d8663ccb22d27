/- The program's formulas in memory: what a formula in memory is, and what leaf, not and join make. -/
import Derived.Test.YtlhencchonhleaaFm
import Derived.Test.YtlhencchonhleaaPrint0
import Derived.Lib.Hide
import Derived.BigRegion
import Derived.RegionTactic
import Derived.ChangeAlike
namespace Go.Proofs.Ytlhencchonhleaa.Man
open Go.RowKit Go.Proofs.YtlhencchonhleaaW.PrintWords Go.Proofs.Ytlhencchonhleaa.Fm
set_option linter.unusedVariables false
set_option linter.unusedSimpArgs false

def B8 (l : List UInt8) : ByteArray := ⟨l.toArray⟩
/-- The formula t lies in w, and v points to it. -/
def FAt (w : World) : Fm → Value → Prop
  | .leaf c, v => ∃ b, v = .pointer (some ⟨b, 0, none⟩) ∧ w.heap[b]? = some (.cells #[.int .u8 (c.toNat : Int), .pointer none, .pointer none, .string (B8 [c])] 58 (0, 0))
  | .neg a, v => ∃ b va, v = .pointer (some ⟨b, 0, none⟩) ∧ FAt w a va ∧ w.heap[b]? = some (.cells #[.int .u8 126, va, .pointer none, .string (B8 (Fm.neg a).text)] 58 (0, 0))
  | .bin op a c, v => ∃ b va vc, v = .pointer (some ⟨b, 0, none⟩) ∧ FAt w a va ∧ FAt w c vc ∧ w.heap[b]? = some (.cells #[.int .u8 (op.toNat : Int), va, vc, .string (B8 (Fm.bin op a c).text)] 58 (0, 0))

theorem blk_below {w w' : World} (hb : Below w.heap.size w w') {b : Nat} {o : Obj} (h : w.heap[b]? = some o) : w'.heap[b]? = some o :=
  (hb.block b (Array.getElem?_eq_some_iff.1 h).1).trans h
theorem chain {w w1 w2 : World} (h : Below w.heap.size w w1) (k : Below w1.heap.size w1 w2) : Below w.heap.size w w2 := h.trans (k.mono h.size)
theorem drewB (w : World) : Below w.heap.size w w.drew := below_drew (Below.refl _ _)
theorem drewNB (w : World) (n : Nat) : Below w.heap.size w (w.drewN n) := pw_below_drewN (Below.refl _ _) n
theorem FAt.below {w w' : World} (hb : Below w.heap.size w w') : ∀ {t : Fm} {v : Value}, FAt w t v → FAt w' t v
  | .leaf c, v, ⟨b, hv, h⟩ => ⟨b, hv, blk_below hb h⟩
  | .neg a, v, ⟨b, va, hv, ha, h⟩ => ⟨b, va, hv, FAt.below hb ha, blk_below hb h⟩
  | .bin op a c, v, ⟨b, va, vc, hv, ha, hc, h⟩ => ⟨b, va, vc, hv, FAt.below hb ha, FAt.below hb hc, blk_below hb h⟩
/-- The text's cell, and that v is no nil. -/
theorem FAt.form {w : World} : ∀ {t : Fm} {v : Value}, FAt w t v → ∃ b, v = .pointer (some ⟨b, 0, none⟩) ∧ w.cell? ⟨b, 3, none⟩ = some (.string (B8 t.text))
  | .leaf c, v, ⟨b, hv, h⟩ => ⟨b, hv, (blk_cell h 3).trans rfl⟩
  | .neg a, v, ⟨b, va, hv, ha, h⟩ => ⟨b, hv, (blk_cell h 3).trans rfl⟩
  | .bin op a c, v, ⟨b, va, vc, hv, ha, hc, h⟩ => ⟨b, hv, (blk_cell h 3).trans rfl⟩

theorem enc1 (c : UInt8) (hc : c.toNat < 128) : Utf8.encode ((c.toNat : Nat) : Int) = B8 [c] := by
  have hv : Utf8.valid ((c.toNat : Nat) : Int) = true := by
    unfold Utf8.valid
    simp
    omega
  unfold Utf8.encode B8
  simp only [hv, if_true, Int.toNat_natCast]
  rw [if_pos (by omega)]
  simp
theorem size_B8 (l : List UInt8) : (B8 l).size = l.length := by simp [B8, ByteArray.size]
theorem app_B8 (l m : List UInt8) : B8 l ++ B8 m = B8 (l ++ m) := by
  apply ByteArray.ext
  simp [B8]

set_option maxHeartbeats 1000000 in
theorem leaf (c : UInt8) (hc : c.toNat < 128) (w : World) :
    Calls Try.prog 66 #[.int .u8 (c.toNat : Int)] w fun e w' => Below w.heap.size w w' ∧ ∃ v, e = .returned v ∧ FAt w' (.leaf c) v := by
  go_enter Try.func66, Try.ntmps66
  go_wp2
  go_ret
  refine ⟨below_alloc (Below.refl _ _) _, _, rfl, w.heap.size, rfl, ?_⟩
  rw [← enc1 c hc]
  simpa using heap_alloc_new w _

theorem put_ {w w1 : World} {t : Fm} {v : Value} (hb : Below w.heap.size w w1) (o : Obj) (h : FAt w t v) : FAt (w1.alloc o) t v := h.below (below_alloc hb _)

set_option maxHeartbeats 1000000 in
theorem not_ (t : Fm) (ht : t.text.length ≤ 1048576) (v : Value) (w : World) (h : FAt w t v) :
    Calls Try.prog 68 #[v] w fun e w' => Below w.heap.size w w' ∧ ∃ u, e = .returned u ∧ FAt w' (.neg t) u := by
  obtain ⟨b, rfl, hc⟩ := h.form
  obtain ⟨s, es⟩ : ∃ s, s = B8 t.text := ⟨_, rfl⟩
  have hs : s.size ≤ 1048576 := by rw [es, size_B8]; exact ht
  rw [← es] at hc
  have ES := Lib.hid es
  clear es
  go_enter Try.func68, Try.ntmps68
  go_wp2
  go_ret
  refine ⟨below_alloc (Below.refl _ _) _, _, rfl, w.heap.size, _, rfl, put_ (Below.refl _ _) _ h, ?_⟩
  have : (⟨#[126]⟩ : ByteArray) ++ s = B8 (Fm.neg t).text := by rw [ES.out]; exact app_B8 [126] _
  rw [this]
  simpa using heap_alloc_new w _

set_option maxHeartbeats 1000000 in
theorem join (op : UInt8) (hop : op.toNat < 128) (t u : Fm) (ht : t.text.length ≤ 1048576) (hu : u.text.length ≤ 1048576) (v x : Value) (w : World) (h : FAt w t v) (h2 : FAt w u x) :
    Calls Try.prog 67 #[.int .u8 (op.toNat : Int), v, x] w fun e w' => Below w.heap.size w w' ∧ ∃ y, e = .returned y ∧ FAt w' (.bin op t u) y := by
  obtain ⟨b, rfl, hc⟩ := h.form
  obtain ⟨b2, rfl, hc2⟩ := h2.form
  obtain ⟨s, es⟩ : ∃ s, s = B8 t.text := ⟨_, rfl⟩
  have hs : s.size ≤ 1048576 := by rw [es, size_B8]; exact ht
  rw [← es] at hc
  have ES := Lib.hid es
  clear es
  obtain ⟨s2, es2⟩ : ∃ s, s = B8 u.text := ⟨_, rfl⟩
  have hs2 : s2.size ≤ 1048576 := by rw [es2, size_B8]; exact hu
  rw [← es2] at hc2
  have ES2 := Lib.hid es2
  clear es2
  have he1 := enc1 op hop
  have hz : (Utf8.encode ((op.toNat : Nat) : Int)).size ≤ 1 := by rw [he1, size_B8]; simp
  have HE := Lib.hid he1
  clear he1
  go_enter Try.func67, Try.ntmps67
  go_wp2
  go_region
  all_goals
    go_wp2
    go_ret
    refine ⟨below_drew (below_alloc (Below.refl _ _) _), _, rfl, w.heap.size, _, _, rfl, (put_ (Below.refl _ _) _ h).below (below_drew (Below.refl _ _)), (put_ (Below.refl _ _) _ h2).below (below_drew (Below.refl _ _)), ?_⟩
    have : (⟨#[40]⟩ : ByteArray) ++ s ++ Utf8.encode ((op.toNat : Nat) : Int) ++ s2 ++ ⟨#[41]⟩ = B8 (Fm.bin op t u).text := by
      rw [ES.out, ES2.out, HE.out]
      show B8 [40] ++ B8 t.text ++ B8 [op] ++ B8 u.text ++ B8 [41] = _
      rw [app_B8, app_B8, app_B8, app_B8]
      simp [Fm.text]
    rw [this]
    exact heap_alloc_new w _
end Go.Proofs.Ytlhencchonhleaa.Man
