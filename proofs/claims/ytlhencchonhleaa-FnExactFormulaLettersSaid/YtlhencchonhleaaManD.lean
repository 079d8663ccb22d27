/- The program's formulas in memory: parseFrom and parse as a whole; whether a text is a formula. -/
import Derived.Test.YtlhencchonhleaaManC
namespace Go.Proofs.Ytlhencchonhleaa.Man
open Go.RowKit Go.Proofs.YtlhencchonhleaaW.PrintWords Go.Proofs.Ytlhencchonhleaa.Fm Go.Proofs.Ytlhencchonhleaa.Print
set_option linter.unusedVariables false
set_option linter.unusedSimpArgs false

theorem B8_of (s : ByteArray) : s = B8 s.data.toList := by
  apply ByteArray.ext
  simp [B8]
theorem cons_size (c : UInt8) (r : List UInt8) : 0 < (B8 (c :: r)).size := by rw [size_B8]; simp
theorem cons_ne (c : UInt8) (r : List UInt8) : (B8 (c :: r)).toList.isEmpty = false := by
  rw [ByteArray.toList_eq]
  rfl
theorem cons_0 (c : UInt8) (r : List UInt8) : (B8 (c :: r))[0]'(cons_size c r) = c := rfl
theorem cons_tail (c : UInt8) (r : List UInt8) : (B8 (c :: r)).extract 1 (B8 (c :: r)).size = B8 r := by
  rw [size_B8]
  apply ByteArray.ext
  simp [B8]
theorem cons_head (c : UInt8) (r : List UInt8) : (B8 (c :: r)).extract 0 1 = ⟨#[c]⟩ := by
  apply ByteArray.ext
  simp [B8]
theorem binc_lt {c : UInt8} (h : binc c = true) : c.toNat < 128 := by
  unfold binc at h
  simp only [Bool.or_eq_true, beq_iff_eq] at h
  rcases h with (rfl | rfl) | rfl <;> decide

/-- What a call of parseFrom does. -/
def Does (L : List UInt8) : Prop := match pre L with
  | none => No (B8 L)
  | some (t, r) => Yes (B8 L) t (B8 r)
theorem parseFrom_does : ∀ (n : Nat) (L : List UInt8), L.length ≤ n → L.length ≤ 1048576 → Does L := by
  intro n
  induction n with
  | zero =>
    intro L hn _
    obtain rfl : L = [] := List.eq_nil_of_length_eq_zero (by omega)
    intro W
    refine (parse_nil W).mono ?_
    rintro e w' ⟨hb, he⟩
    exact ⟨hb, he⟩
  | succ n ih =>
    intro L hn hL
    cases L with
    | nil =>
      intro W
      refine (parse_nil W).mono ?_
      rintro e w' ⟨hb, he⟩
      exact ⟨hb, he⟩
    | cons c r =>
      have hn' : r.length ≤ n := by simp at hn; omega
      have hL' : r.length ≤ 1048576 := by simp at hL; omega
      have f0 := cons_size c r
      have f1 := cons_ne c r
      have f2 : (B8 (c :: r))[0]'f0 = c := cons_0 c r
      have f3 := cons_tail c r
      unfold Does
      by_cases h1 : leafc c = true
      · rw [pre_leaf h1]
        intro W
        by_cases hl : letter c = true
        · exact parse_letter _ c _ f0 f1 f2 f3 hl W
        · have hd : c = 48 ∨ c = 49 := by
            have hl' : letter c = false := by simpa using hl
            unfold leafc at h1
            rw [hl'] at h1
            simpa using h1
          exact parse_digit _ c _ f0 f1 f2 f3 hd W
      have h1' : leafc c = false := by simpa using h1
      by_cases h2 : c = 126
      · subst h2
        rw [pre_neg]
        have hr := ih r hn' hL'
        unfold Does at hr
        cases hp : pre r with
        | none =>
          rw [hp] at hr
          intro W
          exact parse_neg_none _ _ f0 f1 f2 f3 (Lib.hid hr) W
        | some p =>
          obtain ⟨t, r'⟩ := p
          rw [hp] at hr
          have hs := pf_sound _ _ _ _ hp
          have ht : t.text.length ≤ 1048576 := by rw [hs.2] at hL'; simp at hL'; omega
          intro W
          exact parse_neg_some _ _ t ht _ f0 f1 f2 f3 (Lib.hid hr) W
      by_cases h3 : c = 40
      case neg =>
        rw [pre_other h1' h2 h3]
        intro W
        unfold leafc at h1'
        simp only [Bool.or_eq_false_iff, beq_eq_false_iff_ne] at h1'
        exact parse_other _ c _ f0 f1 f2 f3 h1'.1.1 h1'.1.2 h1'.2 h2 h3 W
      subst h3
      have hr := ih r hn' hL'
      unfold Does at hr
      cases hp : pre r with
      | none =>
        rw [hp] at hr
        rw [pre_open_none hp]
        exact fun W => open_none _ _ f0 f1 f2 f3 (Lib.hid hr) W
      | some p =>
        obtain ⟨t, r1⟩ := p
        rw [hp] at hr
        have hs := pf_sound _ _ _ _ hp
        have ht : t.text.length ≤ 1048576 := by rw [hs.2] at hL'; simp at hL'; omega
        cases r1 with
        | nil =>
          rw [pre_open_end hp]
          exact fun W => open_end _ _ f0 f1 f2 f3 t (Lib.hid hr) W
        | cons op r2 =>
          have g0 := cons_size op r2
          have g1 := cons_ne op r2
          have g2 : (B8 (op :: r2))[0]'g0 = op := cons_0 op r2
          have g3 := cons_tail op r2
          have g4 := cons_head op r2
          by_cases h4 : binc op = true
          case neg =>
            have h4' : binc op = false := by simpa using h4
            rw [pre_open_sign hp h4']
            exact fun W => open_sign _ _ f0 f1 f2 f3 t _ op (Lib.hid hr) g0 g1 g4 h4' W
          rw [pre_open hp h4]
          have hl2 : r2.length ≤ n ∧ r2.length ≤ 1048576 := by
            have := pf_some hp
            simp at this
            omega
          have hr2 := ih r2 hl2.1 hl2.2
          unfold Does at hr2
          cases hq : pre r2 with
          | none =>
            rw [hq] at hr2
            exact fun W => open2_none _ _ f0 f1 f2 f3 t _ op (Lib.hid hr) g0 g1 g4 h4 g2 _ g3 (Lib.hid hr2) W
          | some q =>
            obtain ⟨u, r3⟩ := q
            rw [hq] at hr2
            have hs2 := pf_sound _ _ _ _ hq
            have hu : u.text.length ≤ 1048576 := by
              have := hl2.2
              rw [hs2.2] at this
              simp at this
              omega
            cases r3 with
            | nil => exact fun W => open2_end _ _ f0 f1 f2 f3 t _ op (Lib.hid hr) g0 g1 g4 h4 g2 _ g3 u (Lib.hid hr2) W
            | cons d r4 =>
              have k0 := cons_size d r4
              have k1 := cons_ne d r4
              have k2 : (B8 (d :: r4))[0]'k0 = d := cons_0 d r4
              have k3 := cons_tail d r4
              dsimp only
              by_cases h5 : d = 41
              · subst h5
                rw [if_pos rfl]
                exact fun W => open2_ok _ _ f0 f1 f2 f3 t _ op (Lib.hid hr) g0 g1 g4 h4 g2 _ g3 u _ (Lib.hid hr2) k0 k1 k2 _ k3 ht hu (binc_lt h4) W
              · rw [if_neg h5]
                have hd : (((d.toNat : Nat) : Int) != 41) = true := by
                  rw [bne_iff_ne]
                  intro e
                  exact h5 (UInt8.toNat_inj.1 (by have : (41 : UInt8).toNat = 41 := rfl; omega))
                exact fun W => open2_close _ _ f0 f1 f2 f3 t _ op (Lib.hid hr) g0 g1 g4 h4 g2 _ g3 u _ (Lib.hid hr2) k0 k1 d k2 hd W

/-! ### parse -/
/-- What parse hands back: nil, or a pointer to the formula. -/
def Got (o : Option Fm) (e : Ending) (w' : World) : Prop := match o with
  | none => e = .returned (.tuple #[.pointer none, .bool false])
  | some t => ∃ v, e = .returned (.tuple #[v, .bool true]) ∧ FAt w' t v
set_option maxHeartbeats 1000000 in
theorem parse_long (s : ByteArray) (hs : 80 < s.size) (w : World) :
    Calls Try.prog 37 #[.string s] w fun e w' => Below w.heap.size w w' ∧ e = .returned (.tuple #[.pointer none, .bool false]) := by
  go_enter Try.func37, Try.ntmps37
  go_wp2_with fail
  go_ret2
  exact ⟨Below.refl _ _, rfl⟩
set_option maxHeartbeats 1000000 in
theorem parse_no (s : ByteArray) (hs : s.size ≤ 80) (IH : Hid (No s)) (w : World) :
    Calls Try.prog 37 #[.string s] w fun e w' => Below w.heap.size w w' ∧ e = .returned (.tuple #[.pointer none, .bool false]) := by
  go_enter Try.func37, Try.ntmps37
  go_wp2_with fail
  refine (No.use IH _).mono ?_
  rintro e w1 ⟨hb, rfl⟩
  go_wp2_with fail
  go_ret2
  exact ⟨hb, rfl⟩
set_option maxHeartbeats 1000000 in
theorem parse_rest (s : ByteArray) (hs : s.size ≤ 80) (t : Fm) (r : ByteArray) (hr : r.toList.isEmpty = false) (IH : Hid (Yes s t r)) (w : World) :
    Calls Try.prog 37 #[.string s] w fun e w' => Below w.heap.size w w' ∧ e = .returned (.tuple #[.pointer none, .bool false]) := by
  go_enter Try.func37, Try.ntmps37
  go_wp2_with fail
  refine (Yes.use IH _).mono ?_
  rintro e w1 ⟨hb, v, rfl, hv⟩
  clear hv
  go_wp2_with fail
  go_ret2
  exact ⟨hb, rfl⟩
set_option maxHeartbeats 1000000 in
theorem parse_yes (s : ByteArray) (hs : s.size ≤ 80) (t : Fm) (IH : Hid (Yes s t ⟨#[]⟩)) (w : World) :
    Calls Try.prog 37 #[.string s] w fun e w' => Below w.heap.size w w' ∧ ∃ v, e = .returned (.tuple #[v, .bool true]) ∧ FAt w' t v := by
  go_enter Try.func37, Try.ntmps37
  go_wp2_with fail
  refine (Yes.use IH _).mono ?_
  rintro e w1 ⟨hb, v, rfl, hv⟩
  have HV := Aside0.mk hv
  clear hv
  go_wp2_with fail
  go_ret2
  exact ⟨hb, v, rfl, HV.out⟩
theorem parse_ (s : ByteArray) (w : World) :
    Calls Try.prog 37 #[.string s] w fun e w' => Below w.heap.size w w' ∧ Got (whole s.data.toList) e w' := by
  have hsz : s.size = s.data.toList.length := by show s.data.size = _; rw [Array.length_toList]
  unfold whole
  by_cases hl : s.data.toList.length ≤ 80
  case neg =>
    rw [if_neg hl]
    exact parse_long s (by omega) w
  rw [if_pos hl]
  have hd := parseFrom_does _ s.data.toList (Nat.le_refl _) (by omega)
  unfold Does at hd
  rw [← B8_of s] at hd
  cases hp : pre s.data.toList with
  | none =>
    rw [hp] at hd
    exact parse_no s (by omega) (Lib.hid hd) w
  | some p =>
    obtain ⟨t, r⟩ := p
    rw [hp] at hd
    cases r with
    | nil => exact parse_yes s (by omega) t (Lib.hid hd) w
    | cons c r => exact parse_rest s (by omega) t _ (cons_ne c r) (Lib.hid hd) w
/-- A call of parse, where the text is no formula .. -/
theorem parse_none {s : ByteArray} (h : whole s.data.toList = none) (w : World) :
    Calls Try.prog 37 #[.string s] w fun e w' => Below w.heap.size w w' ∧ e = .returned (.tuple #[.pointer none, .bool false]) := by
  have := parse_ s w
  rw [h] at this
  exact this
/-- .. and where it is. -/
theorem parse_some {s : ByteArray} {t : Fm} (h : whole s.data.toList = some t) (w : World) :
    Calls Try.prog 37 #[.string s] w fun e w' => Below w.heap.size w w' ∧ ∃ v, e = .returned (.tuple #[v, .bool true]) ∧ FAt w' t v := by
  have := parse_ s w
  rw [h] at this
  exact this

set_option maxHeartbeats 1000000 in
theorem isFormula (s : ByteArray) (w : World) :
    Calls Try.prog 15 #[.string s] w fun e w' => e = .returned (.bool (whole s.data.toList).isSome) ∧ Below w.heap.size w w' := by
  cases h : whole s.data.toList with
  | none =>
    have HP := Lib.hid (@parse_none s h)
    clear h
    go_enter Try.func15, Try.ntmps15
    go_wp2_with fail
    refine (HP.out _).mono ?_
    rintro e w1 ⟨hb, rfl⟩
    go_wp2_with fail
    go_ret
    exact ⟨rfl, hb⟩
  | some t =>
    have HP := Lib.hid (@parse_some s t h)
    clear h
    go_enter Try.func15, Try.ntmps15
    go_wp2_with fail
    refine (HP.out _).mono ?_
    rintro e w1 ⟨hb, v, rfl, hv⟩
    clear hv
    go_wp2_with fail
    go_ret
    exact ⟨rfl, hb⟩
end Go.Proofs.Ytlhencchonhleaa.Man
