/- The pure statement of the law FnExactDeclOk, and its walk: what it computes is what its printed function tells.
Conditions: none. -/
import Derived.Test.YtceeaabjkljcpaaDoorPZx4
import Derived.Test.YtceeaabjkljcpaaDoorOpenZ
namespace Go.Proofs.YtceeaabjkljcpaaDoor.PZ
open Go.RowKit Go.Proofs.YtceeaabjkljcpaaDoorW.PrintWords Go.Proofs.YtceeaabjkljcpaaDoorW.PrintLast
set_option linter.unusedVariables false

def laws_FnExactDeclOk.Pure : Prop := ∀ (x0 : S34), WF34 x0 → ∃ k, laws_FnExactDeclOk.f k x0.f0 x0.f1 = some true
theorem laws_FnExactDeclOk.walk (P : laws_FnExactDeclOk.Pure) (x0 : S34) (w : World) (hTab : Tabs w)  (w0 : WF34 x0) :
    Calls Tryd.prog 8 #[.agg #[.string x0.f0, .string x0.f1]] w fun e w' => e = .returned (.bool true) ∧ Below w.heap.size w w' := by
  obtain ⟨k, h⟩ := P x0 w0
  refine (laws_FnExactDeclOk.calls k x0.f0 x0.f1 true w hTab  h).mono ?_
  rintro e w' ⟨rfl, hd⟩
  exact ⟨rfl, hd⟩
end Go.Proofs.YtceeaabjkljcpaaDoor.PZ
