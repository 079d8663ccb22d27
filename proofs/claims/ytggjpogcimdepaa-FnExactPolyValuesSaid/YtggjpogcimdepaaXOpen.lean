/- How a law's arguments are opened: what is read as data of a type holds values of the print's kind for that type. For every program; no condition. -/
import Derived.Test.YtggjpogcimdepaaWWords
import Derived.Deep.Slices
import Derived.WideShapes
namespace Go.Proofs.Ytggjpogcimdepaa.XOpen
open Go.RowKit Go.Proofs.YtggjpogcimdepaaW.PrintWords Go.ChangeShapes Go.WideShapes Go.Deep
set_option linter.unusedVariables false
set_option linter.unusedSimpArgs false

/-- What reads as data of type t holds an x of kind d, and ok x. -/
structure Opens (P : Program) (t : TypeId) {α : Type} (d : Kd α) (ok : α → Prop) : Prop where
  cells : P.cellsOf t = d.sz
  down : ∀ {H : Type} {enc : TypeId × Value → H} {w : World} {base : Nat} {sp : Nat → Bool} {hd : Bool} {fuel : Nat} {cs : List Value} {x : DataW H × List MemPlace},
    DataW.trod enc P w base sp hd fuel t cs = some x → ∃ a, d.K w a cs ∧ ok a

theorem Opens.int {P : Program} {t : TypeId} {k : IntKind} (ht : P.underlying t = some (.int k)) (hc : P.cellsOf t = 1) : Opens P t (Kd.int k) (fun n => (Lit.int k n).wf = true) :=
  ⟨hc, fun h => by
    obtain ⟨n, rfl, _, hw⟩ := DataW.trod_int ht h
    exact ⟨n, rfl, hw⟩⟩
theorem Opens.bool {P : Program} {t : TypeId} (ht : P.underlying t = some .bool) (hc : P.cellsOf t = 1) : Opens P t Kd.bool (fun _ => True) :=
  ⟨hc, fun h => by
    obtain ⟨n, rfl, _⟩ := DataW.trod_bool ht h
    exact ⟨n, rfl, trivial⟩⟩
theorem Opens.string {P : Program} {t : TypeId} (ht : P.underlying t = some .string) (hc : P.cellsOf t = 1) : Opens P t Kd.string (fun s => s.size ≤ maxLen) :=
  ⟨hc, fun h => by
    obtain ⟨s, rfl, _, hs⟩ := DataW.trod_string ht h
    exact ⟨s, rfl, hs⟩⟩

theorem cells_eq {w : World} {base n : Nat} {a : Addr} {cs : List Value} (h : w.cells? base a n = some cs) : cs.length = n ∧ ∀ i u, cs[i]? = some u → w.cell? (a.add i) = some u := by
  obtain ⟨_, hl, hc⟩ := World.cells?_some h
  refine ⟨hl, fun i u hu => ?_⟩
  have hi : i < n := by
    have := (List.getElem?_eq_some_iff.1 hu).1
    omega
  rw [hc i hi, hu]

theorem Opens.slice {P : Program} {t e : TypeId} {α : Type} {d : Kd α} {ok : α → Prop} (ht : P.underlying t = some (.slice e)) (hc : P.cellsOf t = 1) (h : Opens P e d ok) :
    Opens P t (Kd.slice e d) (fun xs => xs.length ≤ maxLen ∧ ∀ x ∈ xs, ok x) :=
  ⟨hc, fun {H enc w base sp hd fuel cs x} hx => by
    rcases open_slice ht hx with ⟨rfl, _⟩ | ⟨a, len, cap, m, n, D, Pl, rfl, hb, hl, hm, hmm, _, hel⟩
    · exact ⟨[], ⟨none, 0, rfl, Nat.le_refl _, rfl, by simp, fun h0 => absurd h0 (by simp)⟩, by simp, by simp⟩
    · have hlm : len ≤ m := by rw [hmm]; split <;> omega
      have key : ∀ i, i < len → ∃ x : α, ∃ cs', w.cells? base (a.add (i * d.sz)) d.sz = some cs' ∧ d.K w x cs' ∧ ok x := fun i hi => by
        obtain ⟨cs', h1, h2⟩ := hel i (by omega)
        obtain ⟨x, h3, h4⟩ := h.down h2
        rw [h.cells] at h1
        exact ⟨x, cs', h1, h3, h4⟩
      have hL : ∀ k, k ≤ len → ∃ xs : List α, xs.length = k ∧ ∀ i x, xs[i]? = some x → ∃ cs', w.cells? base (a.add (i * d.sz)) d.sz = some cs' ∧ d.K w x cs' ∧ ok x := by
        intro k
        induction k with
        | zero => exact fun _ => ⟨[], rfl, fun i x hx => by simp at hx⟩
        | succ k ih =>
          intro hk
          obtain ⟨xs, hl1, hx1⟩ := ih (by omega)
          obtain ⟨x, hx2⟩ := key k (by omega)
          refine ⟨xs ++ [x], by simp [hl1], fun i y hy => ?_⟩
          by_cases hi : i < xs.length
          · rw [List.getElem?_append_left hi] at hy
            exact hx1 i y hy
          · have hi2 : i = k := by
              have := (List.getElem?_eq_some_iff.1 hy).1
              simp [hl1] at this
              omega
            subst hi2
            rw [List.getElem?_append_right (by omega), hl1] at hy
            simp at hy
            subst hy
            exact hx2
      obtain ⟨xs, hl1, hx1⟩ := hL len (Nat.le_refl _)
      refine ⟨xs, ⟨some a, cap, by rw [hl1], by omega, rfl, ?_, fun h0 => ⟨a, rfl, fun j p hp => ?_⟩⟩, by omega, fun x hx => ?_⟩
      · have : maxLen = 9223372036854775807 := rfl
        omega
      · obtain ⟨cs', h1, h2, _⟩ := hx1 j p hp
        obtain ⟨hlen, hcell⟩ := cells_eq h1
        refine ⟨cs', hlen, h2, fun i u hu => ?_⟩
        rw [← Deep.add_add]
        exact hcell i u hu
      · obtain ⟨i, hi⟩ := List.mem_iff_getElem?.1 hx
        obtain ⟨_, _, _, h3⟩ := hx1 i x hi
        exact h3⟩

theorem Opens.iso {P : Program} {t : TypeId} {α β : Type} {d : Kd α} {ok : α → Prop} (h : Opens P t d ok) (f : β → α) (g : α → β) (hfg : ∀ a, f (g a) = a) : Opens P t (Kd.iso d f) (fun b => ok (f b)) :=
  ⟨h.cells, fun hx => by
    obtain ⟨a, h1, h2⟩ := h.down hx
    exact ⟨g a, by show d.K _ (f (g a)) _; rw [hfg]; exact h1, by rw [hfg]; exact h2⟩⟩

/-- The same for the fields of a struct from cell 'off' on. -/
structure OpensF (P : Program) (off : Nat) (fs : List Field) {α : Type} (d : Kd α) (ok : α → Prop) : Prop where
  down : ∀ {H : Type} {enc : TypeId × Value → H} {w : World} {base : Nat} {sp : Nat → Bool} {hd : Bool} {fuel : Nat} {cs : List Value},
    cs.length = off + d.sz → (∀ f ∈ fs, ∃ x, DataW.trod enc P w base sp hd fuel f.type ((cs.drop f.offset).take (P.cellsOf f.type)) = some x) → ∃ a, d.K w a (cs.drop off) ∧ ok a

theorem OpensF.one {P : Program} {off : Nat} {f : Field} {α : Type} {d : Kd α} {ok : α → Prop} (h : Opens P f.type d ok) (ho : f.offset = off) : OpensF P off [f] d ok :=
  ⟨fun {H enc w base sp hd fuel cs} hl hx => by
    obtain ⟨x, hx⟩ := hx f (by simp)
    rw [h.cells, ho, List.take_of_length_le (by rw [List.length_drop]; omega)] at hx
    exact h.down hx⟩
theorem OpensF.cons {P : Program} {off : Nat} {f : Field} {fs : List Field} {α β : Type} {d : Kd α} {d' : Kd β} {ok : α → Prop} {ok' : β → Prop} (h : Opens P f.type d ok) (ho : f.offset = off) (hr : OpensF P (off + d.sz) fs d' ok') :
    OpensF P off (f :: fs) (Kd.pair d d') (fun x => ok x.1 ∧ ok' x.2) :=
  ⟨fun {H enc w base sp hd fuel cs} hl hx => by
    have hsz : (Kd.pair d d').sz = d.sz + d'.sz := rfl
    obtain ⟨x, h0⟩ := hx f (by simp)
    rw [h.cells, ho] at h0
    obtain ⟨a, ha, oka⟩ := h.down h0
    obtain ⟨b, hb, okb⟩ := hr.down (by rw [hl, hsz]; omega) (fun g hg => hx g (by simp [hg]))
    refine ⟨(a, b), ⟨_, _, ?_, ha, hb⟩, oka, okb⟩
    rw [← List.drop_drop, List.take_append_drop]⟩
theorem Opens.struct {P : Program} {t : TypeId} {fs : Array Field} {α : Type} {d : Kd α} {ok : α → Prop} (ht : P.underlying t = some (.struct fs)) (hc : P.cellsOf t = d.sz) (h : OpensF P 0 fs.toList d ok) : Opens P t d ok :=
  ⟨hc, fun {H enc w base sp hd fuel cs x} hx => by
    obtain ⟨xs, n, rfl, rfl, hl, hxl, hf⟩ := DataW.trod_struct ht hx
    obtain ⟨a, h1, h2⟩ := h.down (enc := enc) (w := w) (base := base) (sp := sp) (hd := hd) (fuel := n) (cs := cs) (by omega) (fun f hf1 => by
      obtain ⟨i, hi⟩ := List.mem_iff_getElem?.1 hf1
      rw [Array.getElem?_toList] at hi
      have h3 := hf i f hi
      have hi2 : i < fs.size := (Array.getElem?_eq_some_iff.1 hi).1
      rw [List.getElem?_eq_getElem (by omega)] at h3
      exact ⟨_, h3⟩)
    exact ⟨a, by simpa using h1, h2⟩⟩

/-- A slice's or a struct's argument, as the law's contract wants it. -/
theorem Opens.arg {P : Program} {t : TypeId} {α : Type} {d : Kd α} {ok : α → Prop} (h : Opens P t d ok) {H : Type} {enc : TypeId × Value → H} {w : World} {base : Nat} {sp : Nat → Bool} {hd : Bool} {v : Value} {y : DataW H} {ps : List MemPlace}
    (hx : DataW.Trod enc P w base sp hd t v y ps) : ∃ a, d.K w a v.cells.toList ∧ ok a := by
  obtain ⟨fuel, hf⟩ := hx
  exact h.down hf
theorem agg_of {P : Program} {w : World} {r : Reach} {base : Nat} {t : TypeId} {v : Value} {fs : Array Field} (ht : P.underlying t = some (.struct fs)) (hv : Value.okWide P w r base t v) {l : List Value} (h : v.cells.toList = l) : v = .agg l.toArray := by
  obtain ⟨cs, rfl, _⟩ := okWide_struct ht hv
  simp [Value.cells] at h
  rw [← h]
theorem slice_of {P : Program} {w : World} {r : Reach} {base : Nat} {t e : TypeId} {v u : Value} (ht : P.underlying t = some (.slice e)) (hv : Value.okWide P w r base t v) (h : v.cells.toList = [u]) : v = u := by
  obtain ⟨a, len, cap, rfl⟩ := okWide_slice ht hv
  simpa [Value.cells] using h
theorem wf64 {n : Int} (h : (Lit.int .i64 n).wf = true) : -9223372036854775808 ≤ n ∧ n ≤ 9223372036854775807 := by
  simp [Lit.wf, IntKind.min, IntKind.max, IntKind.signed, IntKind.bits] at h
  omega
end Go.Proofs.Ytggjpogcimdepaa.XOpen
