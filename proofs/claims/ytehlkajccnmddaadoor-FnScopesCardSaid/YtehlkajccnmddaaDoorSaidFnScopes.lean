/- The pure statement of the law FnScopes, and its walk: what it computes is what its printed function tells.
Conditions: none. -/
import Derived.Test.YtehlkajccnmddaaDoorPZx9
import Derived.Test.YtehlkajccnmddaaDoorOpenZ
namespace Go.Proofs.YtehlkajccnmddaaDoor.PZ
open Go.RowKit Go.Proofs.YtehlkajccnmddaaDoorW.PrintWords Go.Proofs.YtehlkajccnmddaaDoorW.PrintLast
set_option linter.unusedVariables false

def laws_FnScopes.Pure : Prop := ∀ (l0 : List Int), (l0.length ≤ maxLen ∧ ∀ y_ ∈ l0, (Lit.int .u8 y_).wf = true) → ∃ k, laws_FnScopes.f k l0 = some true
theorem laws_FnScopes.walk (P : laws_FnScopes.Pure) (A0 : Option Addr) (c0 : Nat) (l0 : List Int) (w : World) (hTab : Tabs w) (hr0 : Kd.C (Kd.int .u8) w A0 l0.length l0) (hc0 : l0.length ≤ c0) (w0 : (l0.length ≤ maxLen ∧ ∀ y_ ∈ l0, (Lit.int .u8 y_).wf = true)) :
    Calls Tryd.prog 4 #[.slice A0 l0.length c0] w fun e w' => e = .returned (.bool true) ∧ Below w.heap.size w w' := by
  obtain ⟨k, h⟩ := P l0 w0
  refine (laws_FnScopes.calls k A0 c0 l0 true w hr0 hc0 hTab h).mono ?_
  rintro e w' ⟨rfl, hd⟩
  exact ⟨rfl, hd⟩
end Go.Proofs.YtehlkajccnmddaaDoor.PZ
