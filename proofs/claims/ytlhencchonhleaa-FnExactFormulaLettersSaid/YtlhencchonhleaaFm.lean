/- Formulas, plainly: a formula as a tree, its text, and that a text is read in one way alone. No program; no condition. -/
import Derived.Test.YtlhencchonhleaaXEv
namespace Go.Proofs.Ytlhencchonhleaa.Fm
set_option linter.unusedVariables false
set_option linter.unusedSimpArgs false

inductive Fm where
  | leaf (c : UInt8)
  | neg (a : Fm)
  | bin (op : UInt8) (a b : Fm)

/-- a to f. -/
def letter (c : UInt8) : Bool := decide (97 ≤ c.toNat) && decide (c.toNat < 103)
/-- A letter, 0 or 1. -/
def leafc (c : UInt8) : Bool := letter c || c == 48 || c == 49
/-- One of the three signs. -/
def binc (c : UInt8) : Bool := c == 38 || c == 124 || c == 62

def Fm.text : Fm → List UInt8
  | .leaf c => [c]
  | .neg a => 126 :: a.text
  | .bin op a b => 40 :: (a.text ++ op :: (b.text ++ [41]))
def Fm.wf : Fm → Prop
  | .leaf c => leafc c = true
  | .neg a => a.wf
  | .bin op a b => binc op = true ∧ a.wf ∧ b.wf
/-- The formula with which a text begins, and the rest; n: more than the text's length. -/
def pf : Nat → List UInt8 → Option (Fm × List UInt8)
  | 0, _ => none
  | _ + 1, [] => none
  | n + 1, c :: r =>
    if leafc c = true then some (.leaf c, r)
    else if c = 126 then
      match pf n r with
      | none => none
      | some (a, r') => some (.neg a, r')
    else if c ≠ 40 then none
    else
      match pf n r with
      | none => none
      | some (_, []) => none
      | some (a, op :: r2) =>
        if binc op = true then
          match pf n r2 with
          | none => none
          | some (_, []) => none
          | some (b, d :: r3) => if d = 41 then some (.bin op a b, r3) else none
        else none

theorem leafc_126 : leafc 126 = false := by decide
theorem leafc_40 : leafc 40 = false := by decide
theorem text_pos : ∀ t : Fm, 0 < t.text.length
  | .leaf c => by simp [Fm.text]
  | .neg a => by simp [Fm.text]
  | .bin op a b => by simp [Fm.text]

theorem pf_sound : ∀ (n : Nat) (s : List UInt8) (t : Fm) (r : List UInt8), pf n s = some (t, r) → t.wf ∧ s = t.text ++ r := by
  intro n
  induction n with
  | zero => intro s t r h; simp [pf] at h
  | succ n ih =>
    intro s t r h
    cases s with
    | nil => simp [pf] at h
    | cons c s =>
      rw [pf] at h
      by_cases h1 : leafc c = true
      · rw [if_pos h1] at h
        cases h
        exact ⟨h1, rfl⟩
      rw [if_neg h1] at h
      by_cases h2 : c = 126
      · rw [if_pos h2] at h
        cases hp : pf n s with
        | none => rw [hp] at h; cases h
        | some p =>
          obtain ⟨a, r'⟩ := p
          rw [hp] at h
          cases h
          obtain ⟨ha, rfl⟩ := ih s a r hp
          subst h2
          exact ⟨ha, rfl⟩
      rw [if_neg h2] at h
      by_cases h3 : c = 40
      case neg => rw [if_pos h3] at h; cases h
      rw [if_neg (by simpa using h3)] at h
      subst h3
      cases hp : pf n s with
      | none => rw [hp] at h; cases h
      | some p =>
        obtain ⟨a, r1⟩ := p
        rw [hp] at h
        cases r1 with
        | nil => cases h
        | cons op r2 =>
          dsimp only at h
          by_cases h4 : binc op = true
          case neg => rw [if_neg h4] at h; cases h
          rw [if_pos h4] at h
          cases hq : pf n r2 with
          | none => rw [hq] at h; cases h
          | some q =>
            obtain ⟨b, r3⟩ := q
            rw [hq] at h
            cases r3 with
            | nil => cases h
            | cons d r4 =>
              dsimp only at h
              by_cases h5 : d = 41
              case neg => rw [if_neg h5] at h; cases h
              rw [if_pos h5] at h
              cases h
              obtain ⟨ha, rfl⟩ := ih _ _ _ hp
              obtain ⟨hb, rfl⟩ := ih _ _ _ hq
              subst h5
              exact ⟨⟨h4, ha, hb⟩, by simp [Fm.text]⟩
theorem pf_complete : ∀ (t : Fm) (n : Nat) (r : List UInt8), t.wf → t.text.length ≤ n → pf n (t.text ++ r) = some (t, r)
  | .leaf c, n, r, h, hn => by
    obtain ⟨n, rfl⟩ : ∃ m, n = m + 1 := ⟨n - 1, by simp [Fm.text] at hn; omega⟩
    show pf (n + 1) (c :: r) = _
    rw [pf, if_pos (show leafc c = true from h)]
  | .neg a, n, r, h, hn => by
    obtain ⟨n, rfl⟩ : ∃ m, n = m + 1 := ⟨n - 1, by simp [Fm.text] at hn; omega⟩
    show pf (n + 1) (126 :: (a.text ++ r)) = _
    rw [pf, if_neg (by rw [leafc_126]; simp), if_pos rfl, pf_complete a n r h (by simp [Fm.text] at hn; omega)]
  | .bin op a b, n, r, h, hn => by
    obtain ⟨n, rfl⟩ : ∃ m, n = m + 1 := ⟨n - 1, by simp [Fm.text] at hn; omega⟩
    have e : (Fm.bin op a b).text ++ r = 40 :: (a.text ++ (op :: (b.text ++ (41 :: r)))) := by simp [Fm.text]
    have hl : a.text.length ≤ n ∧ b.text.length ≤ n := by simp [Fm.text] at hn; omega
    rw [e, pf, if_neg (by rw [leafc_40]; simp), if_neg (by decide), if_neg (by simp), pf_complete a n _ h.2.1 hl.1]
    dsimp only
    rw [if_pos h.1, pf_complete b n _ h.2.2 hl.2]
    rfl
/-- More than the length: it doesn't matter how much. -/
theorem pf_fuel (n m : Nat) (s : List UInt8) (hn : s.length ≤ n) (hm : s.length ≤ m) : pf n s = pf m s := by
  cases h : pf n s with
  | some p =>
    obtain ⟨t, r⟩ := p
    obtain ⟨hw, rfl⟩ := pf_sound n s t r h
    rw [pf_complete t m r hw (by simp at hm; omega)]
  | none =>
    cases h2 : pf m s with
    | none => rfl
    | some p =>
      obtain ⟨t, r⟩ := p
      obtain ⟨hw, rfl⟩ := pf_sound m s t r h2
      rw [pf_complete t n r hw (by simp at hn; omega)] at h
      cases h
theorem pf_some {n : Nat} {s : List UInt8} {t : Fm} {r : List UInt8} (h : pf n s = some (t, r)) : r.length < s.length := by
  obtain ⟨_, rfl⟩ := pf_sound n s t r h
  have := text_pos t
  simp
  omega

/-- The formula with which a text begins. -/
def pre (s : List UInt8) : Option (Fm × List UInt8) := pf s.length s
theorem pre_of {n : Nat} {s : List UInt8} (h : s.length ≤ n) : pf n s = pre s := pf_fuel n _ s h (Nat.le_refl _)
theorem pre_nil : pre [] = none := rfl
theorem pre_leaf {c : UInt8} {r : List UInt8} (h : leafc c = true) : pre (c :: r) = some (.leaf c, r) := by
  show pf (r.length + 1) (c :: r) = _
  rw [pf, if_pos h]
theorem pre_neg (r : List UInt8) : pre (126 :: r) = (pre r).map fun p => (.neg p.1, p.2) := by
  show pf (r.length + 1) (126 :: r) = _
  rw [pf, if_neg (by rw [leafc_126]; simp), if_pos rfl, pre_of (Nat.le_refl _)]
  cases pre r with
  | none => rfl
  | some p => rfl
theorem pre_other {c : UInt8} {r : List UInt8} (h : leafc c = false) (h2 : c ≠ 126) (h3 : c ≠ 40) : pre (c :: r) = none := by
  show pf (r.length + 1) (c :: r) = _
  rw [pf, if_neg (by rw [h]; simp), if_neg h2, if_pos h3]
theorem pre_open_none {r : List UInt8} (h : pre r = none) : pre (40 :: r) = none := by
  show pf (r.length + 1) (40 :: r) = _
  rw [pf, if_neg (by rw [leafc_40]; simp), if_neg (by decide), if_neg (by simp), pre_of (Nat.le_refl _), h]
theorem pre_open_end {r : List UInt8} {a : Fm} (h : pre r = some (a, [])) : pre (40 :: r) = none := by
  show pf (r.length + 1) (40 :: r) = _
  rw [pf, if_neg (by rw [leafc_40]; simp), if_neg (by decide), if_neg (by simp), pre_of (Nat.le_refl _), h]
theorem pre_open_sign {r : List UInt8} {a : Fm} {op : UInt8} {r2 : List UInt8} (h : pre r = some (a, op :: r2)) (h4 : binc op = false) : pre (40 :: r) = none := by
  show pf (r.length + 1) (40 :: r) = _
  rw [pf, if_neg (by rw [leafc_40]; simp), if_neg (by decide), if_neg (by simp), pre_of (Nat.le_refl _), h]
  dsimp only
  rw [if_neg (by rw [h4]; simp)]
theorem pre_open {r : List UInt8} {a : Fm} {op : UInt8} {r2 : List UInt8} (h : pre r = some (a, op :: r2)) (h4 : binc op = true) :
    pre (40 :: r) = match pre r2 with
      | some (b, d :: r3) => if d = 41 then some (.bin op a b, r3) else none
      | _ => none := by
  have hl := pf_some h
  show pf (r.length + 1) (40 :: r) = _
  rw [pf, if_neg (by rw [leafc_40]; simp), if_neg (by decide), if_neg (by simp), pre_of (Nat.le_refl _), h]
  dsimp only
  rw [if_pos h4, pre_of (by simp at hl; omega)]
  cases pre r2 with
  | none => rfl
  | some p =>
    obtain ⟨b, r3⟩ := p
    cases r3 with
    | nil => rfl
    | cons d r4 => rfl
/-- The formula that a text is: at most 80 bytes, and nothing behind it. -/
def whole (s : List UInt8) : Option Fm := if s.length ≤ 80 then (match pre s with | some (t, []) => some t | _ => none) else none
theorem whole_some {s : List UInt8} {t : Fm} (h : whole s = some t) : t.wf ∧ s = t.text ∧ s.length ≤ 80 := by
  unfold whole at h
  by_cases hl : s.length ≤ 80
  · rw [if_pos hl] at h
    cases hp : pre s with
    | none => rw [hp] at h; cases h
    | some p =>
      obtain ⟨u, r⟩ := p
      rw [hp] at h
      cases r with
      | cons d r => cases h
      | nil =>
        cases h
        obtain ⟨hw, he⟩ := pf_sound _ _ _ _ hp
        exact ⟨hw, by simpa using he, hl⟩
  · rw [if_neg hl] at h
    cases h
theorem whole_text {t : Fm} (hw : t.wf) (hl : t.text.length ≤ 80) : whole t.text = some t := by
  unfold whole
  rw [if_pos hl]
  have : pre t.text = some (t, []) := by
    have := pf_complete t t.text.length [] hw (Nat.le_refl _)
    rw [List.append_nil] at this
    exact this
  rw [this]
theorem text_inj {t u : Fm} (ht : t.wf) (hu : u.wf) (h : t.text = u.text) : t = u := by
  have h1 := pf_complete t t.text.length [] ht (Nat.le_refl _)
  have h2 := pf_complete u t.text.length [] hu (by rw [h]; exact Nat.le_refl _)
  rw [← h] at h2
  rw [h1] at h2
  cases h2
  rfl
end Go.Proofs.Ytlhencchonhleaa.Fm
