/- The pure statement of the law FnExactSpaceOf, and its walk: what it computes is what its printed function tells.
Conditions: none. -/
import Derived.Test.YtehlkajccnmddaaPSx2
import Derived.Test.YtehlkajccnmddaaOpenS
namespace Go.Proofs.Ytehlkajccnmddaa.PS
open Go.RowKit Go.Proofs.YtehlkajccnmddaaW.PrintWords Go.Proofs.YtehlkajccnmddaaW.PrintLast
set_option linter.unusedVariables false

def laws_FnExactSpaceOf.Pure : Prop := ∀ (l0 : List (S75)) (a1 : ByteArray), (l0.length ≤ maxLen ∧ ∀ y_ ∈ l0, WF75 y_) → a1.size ≤ maxLen → ∃ k, laws_FnExactSpaceOf.f k l0 a1 = some true
theorem laws_FnExactSpaceOf.walk (P : laws_FnExactSpaceOf.Pure) (A0 : Option Addr) (c0 : Nat) (l0 : List (S75)) (a1 : ByteArray) (w : World) (hr0 : Kd.C k75 w A0 l0.length l0) (hc0 : l0.length ≤ c0) (w0 : (l0.length ≤ maxLen ∧ ∀ y_ ∈ l0, WF75 y_)) (w1 : a1.size ≤ maxLen) :
    Calls Try.prog 3 #[.slice A0 l0.length c0, .string a1] w fun e w' => e = .returned (.bool true) ∧ Below w.heap.size w w' := by
  obtain ⟨k, h⟩ := P l0 a1 w0 w1
  refine (laws_FnExactSpaceOf.calls k A0 c0 l0 a1 true w hr0 hc0 h).mono ?_
  rintro e w' ⟨rfl, hd⟩
  exact ⟨rfl, hd⟩
end Go.Proofs.Ytehlkajccnmddaa.PS
