/- The pure statement of the law FnExactEscAttr, and its walk: what it computes is what its printed function tells.
Conditions: none. -/
import Derived.Test.YtgchgcfjbjopkaaDoorPZx4
import Derived.Test.YtgchgcfjbjopkaaDoorOpenZ
namespace Go.Proofs.YtgchgcfjbjopkaaDoor.PZ
open Go.RowKit Go.Proofs.YtgchgcfjbjopkaaDoorW.PrintWords Go.Proofs.YtgchgcfjbjopkaaDoorW.PrintLast
set_option linter.unusedVariables false

def laws_FnExactEscAttr.Pure : Prop := ∀ (a0 : ByteArray), a0.size ≤ maxLen → ∃ k, laws_FnExactEscAttr.f k a0 = some true
theorem laws_FnExactEscAttr.walk (P : laws_FnExactEscAttr.Pure) (a0 : ByteArray) (w : World) (hTab : Tabs w)  (w0 : a0.size ≤ maxLen) :
    Calls Tryd.prog 5 #[.string a0] w fun e w' => e = .returned (.bool true) ∧ Below w.heap.size w w' := by
  obtain ⟨k, h⟩ := P a0 w0
  refine (laws_FnExactEscAttr.calls k a0 true w  hTab h).mono ?_
  rintro e w' ⟨rfl, hd⟩
  exact ⟨rfl, hd⟩
end Go.Proofs.YtgchgcfjbjopkaaDoor.PZ
