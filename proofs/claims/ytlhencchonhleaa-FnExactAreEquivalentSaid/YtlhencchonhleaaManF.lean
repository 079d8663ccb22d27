/- The program's formulas in memory: value, depth and the form with signs, whole. -/
import Derived.Test.YtlhencchonhleaaManE
namespace Go.Proofs.Ytlhencchonhleaa.Man
open Go.RowKit Go.Proofs.YtlhencchonhleaaW.PrintWords Go.Proofs.YtlhencchonhleaaW.PrintLast Go.Proofs.YtlhencchonhleaaW.PrintMore Go.Proofs.Ytlhencchonhleaa.Fm Go.Proofs.Ytlhencchonhleaa.Print
theorem max2_mx (k k' : IntKind) (x y : Int) : Builtin.max2 (.int k x) (.int k' y) = pure (.int k (mx x y)) := max2_int k k' x y
attribute [local go_sem] max2_mx max_two
set_option linter.unusedVariables false
set_option linter.unusedSimpArgs false

theorem FAt.ptr {w : World} {t : Fm} {v : Value} (h : FAt w t v) : ∃ b, v = .pointer (some ⟨b, 0, none⟩) := by
  obtain ⟨b, hv, _⟩ := h.form
  exact ⟨b, hv⟩
theorem intNe {c : UInt8} {n : Nat} (h : c.toNat ≠ n) : ((((c.toNat : Nat) : Int)) == (n : Int)) = false := by
  simp
  omega
theorem value_ : ∀ (t : Fm) (w : World) (v : Value) (bits : Int), t.wf → FAt w t v → VC w v bits (t.val bits)
  | .leaf c, w, v, bits, hw, ⟨b, hv, h⟩ => by
    subst hv
    have h0 := (blk_cell h 0).trans rfl
    unfold Fm.val
    rcases leafc_cases hw with rfl | rfl | ⟨hl, h1, h2⟩
    · exact val_0 w b bits h0
    · exact val_1 w b bits h0
    · rw [if_neg (by rintro rfl; exact absurd h1 (by decide)), if_neg (by rintro rfl; exact absurd h1 (by decide))]
      exact val_letter w b bits c h0 h1 h2 (intNe (n := 48) (by omega)) (intNe (n := 49) (by omega)) (intNe (n := 126) (by omega)) (intNe (n := 38) (by omega)) (intNe (n := 124) (by omega)) (intNe (n := 62) (by omega))
  | .neg a, w, v, bits, hw, ⟨b, va, hv, ha, h⟩ => by
    subst hv
    exact val_neg w b bits va _ ((blk_cell h 0).trans rfl) ((blk_cell h 1).trans rfl) (Lib.hid (value_ a w va bits hw ha))
  | .bin op a c, w, v, bits, hw, ⟨b, va, vc, hv, ha, hc, h⟩ => by
    subst hv
    have h0 := (blk_cell h 0).trans rfl
    have h1 : w.cell? ⟨b, 1, none⟩ = some va := (blk_cell h 1).trans rfl
    have h2 : w.cell? ⟨b, 2, none⟩ = some vc := (blk_cell h 2).trans rfl
    have IA := Lib.hid (value_ a w va bits hw.2.1 ha)
    have IC := Lib.hid (value_ c w vc bits hw.2.2 hc)
    unfold Fm.val
    rcases binc_cases hw.1 with rfl | rfl | rfl
    · exact val_and w b bits va vc _ _ h1 h2 IA IC h0
    · exact val_or w b bits va vc _ _ h1 h2 IA IC h0
    · exact val_imp w b bits va vc _ _ h1 h2 IA IC h0

/-- A call of depth, in a world above w. -/
def DC (w : World) (v : Value) (n : Int) : Prop := ∀ W : World, Below w.heap.size w W → Calls Try.prog 42 #[v] W fun e w' => e = .returned (.int .i64 n) ∧ Drawn0 W w'
theorem DC.use {w : World} {v : Value} {n : Int} (h : Hid (DC w v n)) (W : World) (hb : Below w.heap.size w W) : Calls Try.prog 42 #[v] W fun e w' => e = .returned (.int .i64 n) ∧ Drawn0 W w' := h.out W hb
theorem cellB {w W : World} {b : Nat} {o : Obj} (h : w.heap[b]? = some o) (hb : Below w.heap.size w W) : W.heap[b]? = some o := blk_below hb h
set_option maxHeartbeats 1000000 in
theorem dep_leaf (W : World) (b : Nat) (h1 : W.cell? ⟨b, 1, none⟩ = some (.pointer none)) :
    Calls Try.prog 42 #[.pointer (some ⟨b, 0, none⟩)] W fun e w' => e = .returned (.int .i64 0) ∧ Drawn0 W w' := by
  go_enter Try.func42, Try.ntmps42
  go_wp2_with fail
  go_ret
  exact ⟨rfl, ⟨0, rfl⟩⟩
set_option maxHeartbeats 1000000 in
theorem dep_neg (W : World) (b a : Nat) (n : Int) (hn : 0 ≤ n ∧ n < 1000000) (h1 : W.cell? ⟨b, 1, none⟩ = some (.pointer (some ⟨a, 0, none⟩))) (h2 : W.cell? ⟨b, 2, none⟩ = some (.pointer none)) (IH : Hid (DC W (.pointer (some ⟨a, 0, none⟩)) n)) :
    Calls Try.prog 42 #[.pointer (some ⟨b, 0, none⟩)] W fun e w' => e = .returned (.int .i64 (1 + n)) ∧ Drawn0 W w' := by
  go_enter Try.func42, Try.ntmps42
  go_wp2_with (go_at_call 42; (with_reducible refine (DC.use IH _ (Below.refl _ _)).mono ?_); rintro e w' ⟨rfl, ⟨nd, rfl⟩⟩)
  go_ret
  exact ⟨rfl, ⟨nd, rfl⟩⟩
set_option maxHeartbeats 1000000 in
theorem dep_bin (W : World) (b a c : Nat) (n m : Int) (hm : 0 ≤ mx n m ∧ mx n m < 1000000) (h1 : W.cell? ⟨b, 1, none⟩ = some (.pointer (some ⟨a, 0, none⟩))) (h2 : W.cell? ⟨b, 2, none⟩ = some (.pointer (some ⟨c, 0, none⟩)))
    (IH : Hid (DC W (.pointer (some ⟨a, 0, none⟩)) n)) (IH2 : Hid (DC W (.pointer (some ⟨c, 0, none⟩)) m)) :
    Calls Try.prog 42 #[.pointer (some ⟨b, 0, none⟩)] W fun e w' => e = .returned (.int .i64 (IntKind.i64.wrap (1 + mx n m))) ∧ Drawn0 W w' := by
  go_enter Try.func42, Try.ntmps42
  go_wp2_with fail
  go_region_with (first | (go_at_call 42; first | ((with_reducible refine (DC.use IH _ ?_).mono ?_); (first | exact Below.refl _ _ | exact drewB _ | exact drewNB _ _); rintro e w' ⟨rfl, ⟨nd, rfl⟩⟩) | ((with_reducible refine (DC.use IH2 _ ?_).mono ?_); (first | exact Below.refl _ _ | exact drewB _ | exact drewNB _ _)); rintro e w' ⟨rfl, ⟨nd, rfl⟩⟩))
  all_goals
    go_wp2_with fail
    go_ret
    exact ⟨rfl, _, rfl⟩
theorem depth_ : ∀ (t : Fm) (w : World) (v : Value), t.text.length ≤ 1000 → FAt w t v → DC w v (t.dep : Int)
  | .leaf c, w, v, hl, ⟨b, hv, h⟩ => by
    subst hv
    intro W hb
    exact dep_leaf W b ((blk_cell (cellB h hb) 1).trans rfl)
  | .neg a, w, v, hl, ⟨b, va, hv, ha, h⟩ => by
    subst hv
    intro W hb
    obtain ⟨k, rfl⟩ := ha.ptr
    have hd := dep_le a
    have ht : a.text.length ≤ 1000 := by simp [Fm.text] at hl; omega
    have := dep_neg W b k (a.dep : Int) (by omega) ((blk_cell (cellB h hb) 1).trans rfl) ((blk_cell (cellB h hb) 2).trans rfl) (Lib.hid (depth_ a W _ ht (ha.below hb)))
    rw [show (((Fm.neg a).dep : Nat) : Int) = 1 + (a.dep : Int) by simp only [Fm.dep]; omega]
    exact this
  | .bin op a c, w, v, hl, ⟨b, va, vc, hv, ha, hc, h⟩ => by
    subst hv
    intro W hb
    obtain ⟨k, rfl⟩ := ha.ptr
    obtain ⟨k2, rfl⟩ := hc.ptr
    have hd := dep_le a
    have hd2 := dep_le c
    have ht : a.text.length ≤ 1000 ∧ c.text.length ≤ 1000 := by simp [Fm.text] at hl; omega
    have hm : mx (a.dep : Int) (c.dep : Int) = ((max a.dep c.dep : Nat) : Int) := by unfold mx; split <;> omega
    have := dep_bin W b k k2 (a.dep : Int) (c.dep : Int) (by rw [hm]; omega) ((blk_cell (cellB h hb) 1).trans rfl) ((blk_cell (cellB h hb) 2).trans rfl)
      (Lib.hid (depth_ a W _ ht.1 (ha.below hb))) (Lib.hid (depth_ c W _ ht.2 (hc.below hb)))
    rw [show (((Fm.bin op a c).dep : Nat) : Int) = IntKind.i64.wrap (1 + mx (a.dep : Int) (c.dep : Int)) by
      rw [hm]
      rw [IntKind.wrap_i64]
      simp only [Fm.dep]
      omega]
    exact this

/-- A call of signed, in a world above w. -/
def SC (w : World) (v : Value) (p : Bool) (t : Fm) : Prop := ∀ W : World, Below w.heap.size w W → Calls Try.prog 55 #[v, .bool p] W fun e w' => Below W.heap.size W w' ∧ ∃ u, e = .returned u ∧ FAt w' t u
theorem SC.use {w : World} {v : Value} {p : Bool} {t : Fm} (h : Hid (SC w v p t)) (W : World) (hb : Below w.heap.size w W) : Calls Try.prog 55 #[v, .bool p] W fun e w' => Below W.heap.size W w' ∧ ∃ u, e = .returned u ∧ FAt w' t u := h.out W hb
section
variable (W : World) (b : Nat)
set_option maxHeartbeats 1000000 in
theorem sg_digit (c : Int) (d : UInt8) (p : Bool) (hc : (c = 48 ∧ p = false ∧ d = 49) ∨ (c = 49 ∧ p = false ∧ d = 48)) (h0 : W.cell? ⟨b, 0, none⟩ = some (.int .u8 c)) :
    Calls Try.prog 55 #[.pointer (some ⟨b, 0, none⟩), .bool p] W fun e w' => Below W.heap.size W w' ∧ ∃ u, e = .returned u ∧ FAt w' (.leaf d) u := by
  rcases hc with ⟨rfl, rfl, rfl⟩ | ⟨rfl, rfl, rfl⟩
  · have HC : Hid (∀ w : World, Calls Try.prog 66 #[.int .u8 49] w fun e w' => Below w.heap.size w w' ∧ ∃ v, e = .returned v ∧ FAt w' (.leaf 49) v) := Lib.hid (leaf 49 (by decide))
    go_enter Try.func55, Try.ntmps55
    go_wp2_with (go_at_call 66; (with_reducible refine (HC.out _).mono ?_); rintro e w1 ⟨hb1, u, rfl, hu⟩)
    go_ret
    exact ⟨hb1, u, rfl, hu⟩
  · have HC : Hid (∀ w : World, Calls Try.prog 66 #[.int .u8 48] w fun e w' => Below w.heap.size w w' ∧ ∃ v, e = .returned v ∧ FAt w' (.leaf 48) v) := Lib.hid (leaf 48 (by decide))
    go_enter Try.func55, Try.ntmps55
    go_wp2_with (go_at_call 66; (with_reducible refine (HC.out _).mono ?_); rintro e w1 ⟨hb1, u, rfl, hu⟩)
    go_ret
    exact ⟨hb1, u, rfl, hu⟩
set_option maxHeartbeats 1000000 in
theorem sg_digit1 (c : Int) (hc : c = 48 ∨ c = 49) (h0 : W.cell? ⟨b, 0, none⟩ = some (.int .u8 c)) :
    Calls Try.prog 55 #[.pointer (some ⟨b, 0, none⟩), .bool true] W fun e w' => e = .returned (.pointer (some ⟨b, 0, none⟩)) ∧ w' = W := by
  rcases hc with rfl | rfl
  all_goals
    go_enter Try.func55, Try.ntmps55
    go_wp2_with fail
    go_ret
    exact ⟨rfl, rfl⟩
section
variable (c : UInt8) (h0 : W.cell? ⟨b, 0, none⟩ = some (.int .u8 (c.toNat : Int))) 
    (n1 : (((c.toNat : Nat) : Int) == 48) = false) (n2 : (((c.toNat : Nat) : Int) == 49) = false) (n3 : (((c.toNat : Nat) : Int) == 126) = false) (n4 : (((c.toNat : Nat) : Int) == 38) = false) (n5 : (((c.toNat : Nat) : Int) == 124) = false) (n6 : (((c.toNat : Nat) : Int) == 62) = false)
include h0 n1 n2 n3 n4 n5 n6
set_option maxHeartbeats 1000000 in
theorem sg_letter1 :
    Calls Try.prog 55 #[.pointer (some ⟨b, 0, none⟩), .bool true] W fun e w' => e = .returned (.pointer (some ⟨b, 0, none⟩)) ∧ w' = W := by
  go_enter Try.func55, Try.ntmps55
  go_wp2_with fail
  go_ret
  exact ⟨rfl, rfl⟩
set_option maxHeartbeats 1000000 in
theorem sg_letter0 (hf : Hid (FAt W (.leaf c) (.pointer (some ⟨b, 0, none⟩)))) :
    Calls Try.prog 55 #[.pointer (some ⟨b, 0, none⟩), .bool false] W fun e w' => Below W.heap.size W w' ∧ ∃ u, e = .returned u ∧ FAt w' (.neg (.leaf c)) u := by
  have HC := Lib.hid (not_ (.leaf c) (by simp [Fm.text]) _ _ hf.out)
  go_enter Try.func55, Try.ntmps55
  go_wp2_with (go_at_call 68; (with_reducible refine (HC.out).mono ?_); rintro e w1 ⟨hb1, u, rfl, hu⟩)
  go_ret
  exact ⟨hb1, u, rfl, hu⟩
end
set_option maxHeartbeats 1000000 in
theorem sg_neg (a : Nat) (p : Bool) (t : Fm) (h0 : W.cell? ⟨b, 0, none⟩ = some (.int .u8 126)) (h1 : W.cell? ⟨b, 1, none⟩ = some (.pointer (some ⟨a, 0, none⟩))) (IH : Hid (SC W (.pointer (some ⟨a, 0, none⟩)) (!p) t)) :
    Calls Try.prog 55 #[.pointer (some ⟨b, 0, none⟩), .bool p] W fun e w' => Below W.heap.size W w' ∧ ∃ u, e = .returned u ∧ FAt w' t u := by
  go_enter Try.func55, Try.ntmps55
  go_wp2_with (go_at_call 55; (with_reducible refine (SC.use IH _ (Below.refl _ _)).mono ?_); rintro e w1 ⟨hb1, u, rfl, hu⟩)
  go_ret
  exact ⟨hb1, u, rfl, hu⟩
end
/-- A call of join. -/
def JC (op : Int) (r : UInt8) (t u : Fm) : Prop := ∀ (v x : Value) (W : World), FAt W t v → FAt W u x → Calls Try.prog 67 #[.int .u8 op, v, x] W fun e w' => Below W.heap.size W w' ∧ ∃ y, e = .returned y ∧ FAt w' (.bin r t u) y
theorem JC.use {op : Int} {r : UInt8} {t u : Fm} (h : Hid (JC op r t u)) (v x : Value) (W : World) (h1 : FAt W t v) (h2 : FAt W u x) : Calls Try.prog 67 #[.int .u8 op, v, x] W fun e w' => Below W.heap.size W w' ∧ ∃ y, e = .returned y ∧ FAt w' (.bin r t u) y := h.out v x W h1 h2
end Go.Proofs.Ytlhencchonhleaa.Man
