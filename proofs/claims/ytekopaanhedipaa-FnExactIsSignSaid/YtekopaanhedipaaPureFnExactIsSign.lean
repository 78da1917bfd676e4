/- The program's IsSign (a list of ranges) and the reference's chain of tests answer alike at every number.
Conditions: none. -/
import Derived.Test.YtekopaanhedipaaPZx2
namespace Go.Proofs.Ytekopaanhedipaa.Pure
open Go.RowKit Go.Proofs.Ytekopaanhedipaa.PZ Go.Proofs.YtekopaanhedipaaW.PrintWords Go.Proofs.YtekopaanhedipaaW.PrintLast
set_option linter.unusedVariables false
set_option linter.unusedSimpArgs false

namespace FnExactIsSign_
theorem w64 {i : Int} (h0 : -9223372036854775808 ≤ i) (h1 : i ≤ 9223372036854775807) : wrap64 i = i := by unfold wrap64; omega
def inR (n : Int) (p : Int × Int) : Bool := decide (p.1 ≤ n) && decide (n ≤ p.2)
theorem l1In_f (n lo hi : Int) : spec_l1In.f n lo hi = some (inR n (lo, hi)) := by
  unfold spec_l1In.f inR
  by_cases h : n ≥ lo
  · rw [if_pos h]
    simp [h]
  · rw [if_neg h]
    have : ¬ lo ≤ n := h
    simp [this]
theorem IsSign_f (n : Int) : spec_IsSign.f n = some (impl_IsSign.l.any (inR n)) := by
  unfold spec_IsSign.f
  simp only [l1In_f, Option.bind_some]
  have e : impl_IsSign.l.any (inR n) = (inR n (9, 10) || (inR n (13, 13) || (inR n (32, 55295) || (inR n (57344, 65533) || (inR n (65536, 1114111) || false))))) := rfl
  rw [e]
  have h1 : inR n (9, 10) = decide (n = 9 ∨ n = 10) := by
    unfold inR
    rw [Bool.eq_iff_iff]
    simp
    omega
  have h2 : inR n (13, 13) = decide (n = 13) := by
    unfold inR
    rw [Bool.eq_iff_iff]
    simp
    omega
  rw [h1, h2]
  by_cases c1 : n = 9
  · simp [c1]
  by_cases c2 : n = 10
  · simp [c2]
  by_cases c3 : n = 13
  · simp [c3]
  rw [if_neg c1, if_neg c2, if_neg c3]
  simp only [c1, c2, c3, or_self, decide_false, Bool.false_or, Bool.or_false]
  cases inR n (32, 55295) <;> cases inR n (57344, 65533) <;> simp
theorem FnExactIsSign : laws_FnExactIsSign.Pure := by
  intro n _
  unfold laws_FnExactIsSign.f
  rw [IsSign_f]
  have e : impl_IsSign.f n = some (impl_IsSign.l.any (inR n)) := rfl
  rw [e]
  simp

end FnExactIsSign_
theorem FnExactIsSign : laws_FnExactIsSign.Pure := FnExactIsSign_.FnExactIsSign
end Go.Proofs.Ytekopaanhedipaa.Pure
