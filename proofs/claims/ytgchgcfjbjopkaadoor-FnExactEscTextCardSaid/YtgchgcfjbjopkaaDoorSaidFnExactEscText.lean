/- The pure statement of the law FnExactEscText, and its walk: what it computes is what its printed function tells.
Conditions: none. -/
import Derived.Test.YtgchgcfjbjopkaaDoorPZx4
import Derived.Test.YtgchgcfjbjopkaaDoorOpenZ
namespace Go.Proofs.YtgchgcfjbjopkaaDoor.PZ
open Go.RowKit Go.Proofs.YtgchgcfjbjopkaaDoorW.PrintWords Go.Proofs.YtgchgcfjbjopkaaDoorW.PrintLast
set_option linter.unusedVariables false

def laws_FnExactEscText.Pure : Prop := ∀ (a0 : ByteArray), a0.size ≤ maxLen → ∃ k, laws_FnExactEscText.f k a0 = some true
theorem laws_FnExactEscText.walk (P : laws_FnExactEscText.Pure) (a0 : ByteArray) (w : World) (hTab : Tabs w)  (w0 : a0.size ≤ maxLen) :
    Calls Tryd.prog 4 #[.string a0] w fun e w' => e = .returned (.bool true) ∧ Below w.heap.size w w' := by
  obtain ⟨k, h⟩ := P a0 w0
  refine (laws_FnExactEscText.calls k a0 true w  hTab h).mono ?_
  rintro e w' ⟨rfl, hd⟩
  exact ⟨rfl, hd⟩
end Go.Proofs.YtgchgcfjbjopkaaDoor.PZ
