/- The pure statement of the law FnExactApart, and its walk: what it computes is what its printed function tells.
Conditions: none. -/
import Derived.Test.YtalionlkjdgciaaGreatDoorPAx20
import Derived.Test.YtalionlkjdgciaaGreatDoorOpenA
namespace Go.Proofs.YtalionlkjdgciaaGreatDoor.PA
open Go.RowKit Go.Proofs.YtalionlkjdgciaaGreatDoorW.PrintWords Go.Proofs.YtalionlkjdgciaaGreatDoorW.PrintLast
set_option linter.unusedVariables false

def laws_FnExactApart.Pure : Prop := ∀ (l0 : List (S47)), (l0.length ≤ maxLen ∧ ∀ y_ ∈ l0, WF47 y_) → ∃ k, laws_FnExactApart.f k l0 = some true
theorem laws_FnExactApart.walk (P : laws_FnExactApart.Pure) (A0 : Option Addr) (c0 : Nat) (l0 : List (S47)) (w : World) (hTab : Tabs w) (hr0 : Kd.C k47 w A0 l0.length l0) (hc0 : l0.length ≤ c0) (w0 : (l0.length ≤ maxLen ∧ ∀ y_ ∈ l0, WF47 y_)) :
    Calls Tryz.prog 6 #[.slice A0 l0.length c0] w fun e w' => e = .returned (.bool true) ∧ Below w.heap.size w w' := by
  obtain ⟨k, h⟩ := P l0 w0
  refine (laws_FnExactApart.calls k A0 c0 l0 true w hr0 hc0 hTab h).mono ?_
  rintro e w' ⟨rfl, hd⟩
  exact ⟨rfl, hd⟩
end Go.Proofs.YtalionlkjdgciaaGreatDoor.PA
