/- Formulas, plainly: counting, the first false bits. No program; no condition. -/
import Derived.Test.YtlhencchonhleaaFmS
namespace Go.Proofs.Ytlhencchonhleaa.Fm
open Go.RowKit Go.Proofs.YtlhencchonhleaaW.PrintWords
set_option linter.unusedVariables false
set_option linter.unusedSimpArgs false
/-- Of how many of the first n bits it is true. -/
def cnt (p : Int → Bool) : Nat → Nat
  | 0 => 0
  | n + 1 => cnt p n + if p (n : Int) = true then 1 else 0
theorem cnt_le (p : Int → Bool) : ∀ n, cnt p n ≤ n
  | 0 => Nat.le_refl _
  | n + 1 => by have := cnt_le p n; unfold cnt; split <;> omega
theorem cnt_hit {p : Int → Bool} {n : Nat} (h : p (n : Int) = true) : cnt p (n + 1) = cnt p n + 1 := by rw [cnt, if_pos h]
theorem cnt_miss {p : Int → Bool} {n : Nat} (h : p (n : Int) = false) : cnt p (n + 1) = cnt p n := by rw [cnt, if_neg (by rw [h]; simp)]; rfl
/-- The first of k bits from i on at which it is false, or -1. -/
def ff (p : Int → Bool) : Nat → Int → Int
  | 0, _ => -1
  | k + 1, i => if p i = true then ff p k (i + 1) else i
theorem ff_hit {p : Int → Bool} {k : Nat} {i : Int} (h : p i = true) : ff p (k + 1) i = ff p k (i + 1) := by rw [ff, if_pos h]
theorem ff_miss {p : Int → Bool} {k : Nat} {i : Int} (h : p i = false) : ff p (k + 1) i = i := by rw [ff, if_neg (by rw [h]; simp)]
theorem ff_range (p : Int → Bool) : ∀ (k : Nat) (i : Int), 0 ≤ i → -1 ≤ ff p k i ∧ ff p k i ≤ i + k
  | 0, i, h => by unfold ff; omega
  | k + 1, i, h => by
    have := ff_range p k (i + 1) (by omega)
    unfold ff
    split <;> omega
end Go.Proofs.Ytlhencchonhleaa.Fm
