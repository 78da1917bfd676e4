/- The pure statement of the law FnExactDefOf, and its walk: what it computes is what its printed function tells.
Conditions: none. -/
import Derived.Test.YtekopaanhedipaaPZx5
import Derived.Test.YtekopaanhedipaaOpenZ
namespace Go.Proofs.Ytekopaanhedipaa.PZ
open Go.RowKit Go.Proofs.YtekopaanhedipaaW.PrintWords Go.Proofs.YtekopaanhedipaaW.PrintLast
set_option linter.unusedVariables false

def laws_FnExactDefOf.Pure : Prop := ∀ (l0 : List (S67)) (a1 : ByteArray) (a2 : ByteArray), (l0.length ≤ maxLen ∧ ∀ y_ ∈ l0, WF67 y_) → a1.size ≤ maxLen → a2.size ≤ maxLen → ∃ k, laws_FnExactDefOf.f k l0 a1 a2 = some true
theorem laws_FnExactDefOf.walk (P : laws_FnExactDefOf.Pure) (A0 : Option Addr) (c0 : Nat) (l0 : List (S67)) (a1 : ByteArray) (a2 : ByteArray) (w : World) (hr0 : Kd.C k67 w A0 l0.length l0) (hc0 : l0.length ≤ c0) (w0 : (l0.length ≤ maxLen ∧ ∀ y_ ∈ l0, WF67 y_)) (w1 : a1.size ≤ maxLen) (w2 : a2.size ≤ maxLen) :
    Calls Try.prog 14 #[.slice A0 l0.length c0, .string a1, .string a2] w fun e w' => e = .returned (.bool true) ∧ Below w.heap.size w w' := by
  obtain ⟨k, h⟩ := P l0 a1 a2 w0 w1 w2
  refine (laws_FnExactDefOf.calls k A0 c0 l0 a1 a2 true w hr0 hc0 h).mono ?_
  rintro e w' ⟨rfl, hd⟩
  exact ⟨rfl, hd⟩
end Go.Proofs.Ytekopaanhedipaa.PZ
