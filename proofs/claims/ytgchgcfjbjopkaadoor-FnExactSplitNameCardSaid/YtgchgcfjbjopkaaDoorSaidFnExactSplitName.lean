/- The pure statement of the law FnExactSplitName, and its walk: what it computes is what its printed function tells.
Conditions: none. -/
import Derived.Test.YtgchgcfjbjopkaaDoorPZx3
import Derived.Test.YtgchgcfjbjopkaaDoorOpenZ
namespace Go.Proofs.YtgchgcfjbjopkaaDoor.PZ
open Go.RowKit Go.Proofs.YtgchgcfjbjopkaaDoorW.PrintWords Go.Proofs.YtgchgcfjbjopkaaDoorW.PrintLast
set_option linter.unusedVariables false

def laws_FnExactSplitName.Pure : Prop := ∀ (a0 : ByteArray), a0.size ≤ maxLen → ∃ k, laws_FnExactSplitName.f k a0 = some true
theorem laws_FnExactSplitName.walk (P : laws_FnExactSplitName.Pure) (a0 : ByteArray) (w : World) (hTab : Tabs w)  (w0 : a0.size ≤ maxLen) :
    Calls Tryd.prog 3 #[.string a0] w fun e w' => e = .returned (.bool true) ∧ Below w.heap.size w w' := by
  obtain ⟨k, h⟩ := P a0 w0
  refine (laws_FnExactSplitName.calls k a0 true w  hTab h).mono ?_
  rintro e w' ⟨rfl, hd⟩
  exact ⟨rfl, hd⟩
end Go.Proofs.YtgchgcfjbjopkaaDoor.PZ
