/- The pure statement of the law FnExactDeclsOk, and its walk: what it computes is what its printed function tells.
Conditions: none. -/
import Derived.Test.YtceeaabjkljcpaaDoorPZx9
import Derived.Test.YtceeaabjkljcpaaDoorOpenZ
namespace Go.Proofs.YtceeaabjkljcpaaDoor.PZ
open Go.RowKit Go.Proofs.YtceeaabjkljcpaaDoorW.PrintWords Go.Proofs.YtceeaabjkljcpaaDoorW.PrintLast
set_option linter.unusedVariables false

def laws_FnExactDeclsOk.Pure : Prop := ∀ (l0 : List (S34)), (l0.length ≤ maxLen ∧ ∀ y_ ∈ l0, WF34 y_) → ∃ k, laws_FnExactDeclsOk.f k l0 = some true
theorem laws_FnExactDeclsOk.walk (P : laws_FnExactDeclsOk.Pure) (A0 : Option Addr) (c0 : Nat) (l0 : List (S34)) (w : World) (hTab : Tabs w) (hr0 : Kd.C k34 w A0 l0.length l0) (hc0 : l0.length ≤ c0) (w0 : (l0.length ≤ maxLen ∧ ∀ y_ ∈ l0, WF34 y_)) :
    Calls Tryd.prog 10 #[.slice A0 l0.length c0] w fun e w' => e = .returned (.bool true) ∧ Below w.heap.size w w' := by
  obtain ⟨k, h⟩ := P l0 w0
  refine (laws_FnExactDeclsOk.calls k A0 c0 l0 true w hr0 hc0 hTab h).mono ?_
  rintro e w' ⟨rfl, hd⟩
  exact ⟨rfl, hd⟩
end Go.Proofs.YtceeaabjkljcpaaDoor.PZ
