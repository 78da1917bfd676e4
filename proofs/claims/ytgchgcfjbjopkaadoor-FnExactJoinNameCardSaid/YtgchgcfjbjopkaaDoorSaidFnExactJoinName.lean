/- The pure statement of the law FnExactJoinName, and its walk: what it computes is what its printed function tells.
Conditions: none. -/
import Derived.Test.YtgchgcfjbjopkaaDoorPZx9
import Derived.Test.YtgchgcfjbjopkaaDoorOpenZ
namespace Go.Proofs.YtgchgcfjbjopkaaDoor.PZ
open Go.RowKit Go.Proofs.YtgchgcfjbjopkaaDoorW.PrintWords Go.Proofs.YtgchgcfjbjopkaaDoorW.PrintLast
set_option linter.unusedVariables false

def laws_FnExactJoinName.Pure : Prop := ∀ (a0 : ByteArray) (a1 : ByteArray), a0.size ≤ maxLen → a1.size ≤ maxLen → ∃ k, laws_FnExactJoinName.f k a0 a1 = some true
theorem laws_FnExactJoinName.walk (P : laws_FnExactJoinName.Pure) (a0 : ByteArray) (a1 : ByteArray) (w : World) (hTab : Tabs w)  (w0 : a0.size ≤ maxLen) (w1 : a1.size ≤ maxLen) :
    Calls Tryd.prog 8 #[.string a0, .string a1] w fun e w' => e = .returned (.bool true) ∧ Below w.heap.size w w' := by
  obtain ⟨k, h⟩ := P a0 a1 w0 w1
  refine (laws_FnExactJoinName.calls k a0 a1 true w  hTab h).mono ?_
  rintro e w' ⟨rfl, hd⟩
  exact ⟨rfl, hd⟩
end Go.Proofs.YtgchgcfjbjopkaaDoor.PZ
