/- The reference's l22Has: whether a text has a byte. No condition but a length of at most 2^40. -/
import Derived.Test.YtlhencchonhleaaPureFm
import Derived.Test.YtlhencchonhleaaFnspecl22Has
import Derived.Lib.IndexAny
namespace Go.Proofs.Ytlhencchonhleaa.PFm
open Go.RowKit Go.Proofs.YtlhencchonhleaaW.PrintWords Go.Proofs.Ytlhencchonhleaa.Fm Go.Proofs.Ytlhencchonhleaa.XEv Go.Proofs.Ytlhencchonhleaa.Print Go.Proofs.Ytlhencchonhleaa.Man
set_option linter.unusedVariables false
set_option linter.unusedSimpArgs false
theorem has_go (c : UInt8) : ∀ (r p : List UInt8), p.length + r.length ≤ 1000000000000 → Ev (fun k => spec_l22Has.l0 k (B8 (p ++ r)) (c.toNat : Int) (p.length : Int)) (r.contains c)
  | [], p, h => estep (fun k => spec_l22Has.l0.eq_2 (k := k) ..) (eneg (by rw [size_B8]; simp) (eok rfl))
  | d :: r, p, h => by
    have hb := bt_mid p d r
    refine estep (fun k => spec_l22Has.l0.eq_2 (k := k) ..) (epos (by rw [size_B8]; simp; omega) (epos (by omega) ?_))
    rw [hb]
    by_cases e : d = c
    · subst e
      exact epos rfl (eok (by simp))
    · refine eneg (u8_ne e) ?_
      have ih := has_go c r (p ++ [d]) (by simp at h ⊢; omega)
      rw [List.append_assoc, show ((p ++ [d]).length : Int) = (p.length : Int) + 1 by simp] at ih
      simp at h
      rw [wrap_in (by omega) (by omega)]
      refine ecast ih ?_
      have e2 : ¬ c = d := fun q => e q.symm
      simp [e2]
theorem has_ (s : ByteArray) (c : UInt8) (hs : s.size ≤ 1000000000000) : Ev (fun k => spec_l22Has.f k s (c.toNat : Int)) (s.data.toList.contains c) := by
  have hsz : s.size = s.data.toList.length := by show s.data.size = _; rw [Array.length_toList]
  have h := has_go c s.data.toList [] (by simp; omega)
  rw [List.nil_append, ← B8_data s] at h
  exact h
end Go.Proofs.Ytlhencchonhleaa.PFm
