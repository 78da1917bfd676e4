/- The pure statement of the law FnExactNorm, and its walk: what it computes is what its printed function tells.
Conditions: none. -/
import Derived.Test.YtceeaabjkljcpaaDoorPZx5
import Derived.Test.YtceeaabjkljcpaaDoorOpenZ
namespace Go.Proofs.YtceeaabjkljcpaaDoor.PZ
open Go.RowKit Go.Proofs.YtceeaabjkljcpaaDoorW.PrintWords Go.Proofs.YtceeaabjkljcpaaDoorW.PrintLast
set_option linter.unusedVariables false

def laws_FnExactNorm.Pure : Prop := ∀ (a0 : ByteArray), a0.size ≤ maxLen → ∃ k, laws_FnExactNorm.f k a0 = some true
theorem laws_FnExactNorm.walk (P : laws_FnExactNorm.Pure) (a0 : ByteArray) (w : World) (hTab : Tabs w)  (w0 : a0.size ≤ maxLen) :
    Calls Tryd.prog 9 #[.string a0] w fun e w' => e = .returned (.bool true) ∧ Below w.heap.size w w' := by
  obtain ⟨k, h⟩ := P a0 w0
  refine (laws_FnExactNorm.calls k a0 true w hTab  h).mono ?_
  rintro e w' ⟨rfl, hd⟩
  exact ⟨rfl, hd⟩
end Go.Proofs.YtceeaabjkljcpaaDoor.PZ
