/- The pure statement of the law FnExactInner, and its walk: what it computes is what its printed function tells.
Conditions: none. -/
import Derived.Test.YtehlkajccnmddaaPIx4
import Derived.Test.YtehlkajccnmddaaOpenI
namespace Go.Proofs.Ytehlkajccnmddaa.PI
open Go.RowKit Go.Proofs.YtehlkajccnmddaaW.PrintWords Go.Proofs.YtehlkajccnmddaaW.PrintLast
set_option linter.unusedVariables false

def laws_FnExactInner.Pure : Prop := ∀ (l0 : List (S75)) (l1 : List (S75)), (l0.length ≤ maxLen ∧ ∀ y_ ∈ l0, WF75 y_) → (l1.length ≤ maxLen ∧ ∀ y_ ∈ l1, WF75 y_) → ∃ k, laws_FnExactInner.f k l0 l1 = some true
theorem laws_FnExactInner.walk (P : laws_FnExactInner.Pure) (A0 : Option Addr) (c0 : Nat) (l0 : List (S75)) (A1 : Option Addr) (c1 : Nat) (l1 : List (S75)) (w : World) (hr0 : Kd.C k75 w A0 l0.length l0) (hc0 : l0.length ≤ c0) (hr1 : Kd.C k75 w A1 l1.length l1) (hc1 : l1.length ≤ c1) (w0 : (l0.length ≤ maxLen ∧ ∀ y_ ∈ l0, WF75 y_)) (w1 : (l1.length ≤ maxLen ∧ ∀ y_ ∈ l1, WF75 y_)) :
    Calls Try.prog 4 #[.slice A0 l0.length c0, .slice A1 l1.length c1] w fun e w' => e = .returned (.bool true) ∧ Below w.heap.size w w' := by
  obtain ⟨k, h⟩ := P l0 l1 w0 w1
  refine (laws_FnExactInner.calls k A0 c0 l0 A1 c1 l1 true w hr0 hc0 hr1 hc1 h).mono ?_
  rintro e w' ⟨rfl, hd⟩
  exact ⟨rfl, hd⟩
end Go.Proofs.Ytehlkajccnmddaa.PI
