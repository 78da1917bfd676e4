/- The program's IsBlank and the reference's are one and the same chain of tests, at every number.
Conditions: none. -/
import Derived.Test.YtekopaanhedipaaPFnExactIsBlankx1
namespace Go.Proofs.Ytekopaanhedipaa.Pure
open Go.RowKit Go.Proofs.Ytekopaanhedipaa.PFnExactIsBlank Go.Proofs.YtekopaanhedipaaW.PrintWords Go.Proofs.YtekopaanhedipaaW.PrintLast
set_option linter.unusedVariables false
set_option linter.unusedSimpArgs false

theorem FnExactIsBlank : laws_FnExactIsBlank.Pure := by
  intro a _
  have h : ∃ b, spec_IsBlank.f a = some b ∧ impl_IsBlank.f a = some b := by
    unfold spec_IsBlank.f impl_IsBlank.f
    repeat' split
    all_goals exact ⟨_, rfl, rfl⟩
  obtain ⟨b, h1, h2⟩ := h
  unfold laws_FnExactIsBlank.f
  rw [h1, h2]
  simp

end Go.Proofs.Ytekopaanhedipaa.Pure
