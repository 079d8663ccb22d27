/- Small words for the pure half: a computation with rounds that comes to an answer (Ev), whole numbers that do not wrap. No program; no condition. -/
import Derived.Test.YtlhencchonhleaaWWords
namespace Go.Proofs.Ytlhencchonhleaa.XEv
open Go.RowKit Go.Proofs.YtlhencchonhleaaW.PrintWords
set_option linter.unusedVariables false
set_option linter.unusedSimpArgs false
theorem wrap_in {n : Int} (h0 : -9223372036854775808 ≤ n) (h1 : n ≤ 9223372036854775807) : wrap64 n = n := by
  unfold wrap64
  omega
theorem epos {α : Type} {c : Prop} [Decidable c] {f g : Nat → Option α} {r : α} (h : c) (k : Ev f r) : Ev (fun n => if c then f n else g n) r := by simpa only [h, if_true] using k
theorem eneg {α : Type} {c : Prop} [Decidable c] {f g : Nat → Option α} {r : α} (h : ¬ c) (k : Ev g r) : Ev (fun n => if c then f n else g n) r := by simpa only [h, if_false] using k
theorem eite {α : Type} {c : Prop} [Decidable c] {f g : Nat → Option α} {r : α} (h : c → Ev f r) (k : ¬ c → Ev g r) : Ev (fun n => if c then f n else g n) r := by
  by_cases e : c
  · exact epos e (h e)
  · exact eneg e (k e)
theorem eok {α : Type} {r r' : α} (h : r = r') : Ev (fun _ => some r) r' := by subst h; exact Ev.now _
theorem ebind1 {α β : Type} {g : Option α} {f : Nat → α → Option β} {a : α} {r : β} (h : g = some a) (k : Ev (fun n => f n a) r) : Ev (fun n => g.bind (f n)) r := by subst h; exact k
theorem ebind {α β : Type} {g : Nat → Option α} {f : Nat → α → Option β} {a : α} {r : β} (h : Ev g a) (k : Ev (fun n => f n a) r) : Ev (fun n => (g n).bind (f n)) r := Ev.bind h k
theorem estep {α : Type} {g f : Nat → Option α} {r : α} (h : ∀ k, g (k + 1) = f k) (k : Ev f r) : Ev g r := Ev.step h k
theorem ecast {α : Type} {g : Nat → Option α} {r r' : α} (k : Ev g r) (h : r = r') : Ev g r' := h ▸ k
theorem iff_t {P : Prop} (h : P) : (true = true ↔ P) := ⟨fun _ => h, fun _ => rfl⟩
theorem iff_f {P : Prop} (h : ¬ P) : (false = true ↔ P) := ⟨fun e => (by cases e), fun e => absurd e h⟩
theorem ndt {p : Prop} [Decidable p] (h : ¬ p) : (!decide p) = true := by simp [h]
theorem ndf {p : Prop} [Decidable p] (h : p) : (!decide p) = false := by simp [h]
theorem dt {p : Prop} [Decidable p] (h : p) : decide p = true := by simp [h]
theorem df {p : Prop} [Decidable p] (h : ¬ p) : ¬ decide p = true := by simp [h]
end Go.Proofs.Ytlhencchonhleaa.XEv
