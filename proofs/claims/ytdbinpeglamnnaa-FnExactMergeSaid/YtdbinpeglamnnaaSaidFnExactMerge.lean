/- The pure statement of the law FnExactMerge, and its walk: what it computes is what its printed function tells.
Conditions: none. -/
import Derived.Test.YtdbinpeglamnnaaPXx9
import Derived.Test.YtdbinpeglamnnaaOpenX
namespace Go.Proofs.Ytdbinpeglamnnaa.PX
open Go.RowKit Go.Proofs.YtdbinpeglamnnaaW.PrintWords Go.Proofs.YtdbinpeglamnnaaW.PrintLast
set_option linter.unusedVariables false

def laws_FnExactMerge.Pure : Prop := ∀ (l0 : List (S26)), (l0.length ≤ maxLen ∧ ∀ y_ ∈ l0, WF26 y_) → ∃ k, laws_FnExactMerge.f k l0 = some true
theorem laws_FnExactMerge.walk (P : laws_FnExactMerge.Pure) (A0 : Option Addr) (c0 : Nat) (l0 : List (S26)) (w : World) (hr0 : Kd.C k26 w A0 l0.length l0) (hc0 : l0.length ≤ c0) (w0 : (l0.length ≤ maxLen ∧ ∀ y_ ∈ l0, WF26 y_)) :
    Calls Try.prog 4 #[.slice A0 l0.length c0] w fun e w' => e = .returned (.bool true) ∧ Below w.heap.size w w' := by
  obtain ⟨k, h⟩ := P l0 w0
  refine (laws_FnExactMerge.calls k A0 c0 l0 true w hr0 hc0 h).mono ?_
  rintro e w' ⟨rfl, hd⟩
  exact ⟨rfl, hd⟩
end Go.Proofs.Ytdbinpeglamnnaa.PX
