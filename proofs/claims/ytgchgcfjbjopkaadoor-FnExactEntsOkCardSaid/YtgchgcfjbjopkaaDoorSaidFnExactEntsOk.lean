/- The pure statement of the law FnExactEntsOk, and its walk: what it computes is what its printed function tells.
Conditions: none. -/
import Derived.Test.YtgchgcfjbjopkaaDoorPZx8
import Derived.Test.YtgchgcfjbjopkaaDoorOpenZ
namespace Go.Proofs.YtgchgcfjbjopkaaDoor.PZ
open Go.RowKit Go.Proofs.YtgchgcfjbjopkaaDoorW.PrintWords Go.Proofs.YtgchgcfjbjopkaaDoorW.PrintLast
set_option linter.unusedVariables false

def laws_FnExactEntsOk.Pure : Prop := ∀ (l0 : List (S64)), (l0.length ≤ maxLen ∧ ∀ y_ ∈ l0, WF64 y_) → ∃ k, laws_FnExactEntsOk.f k l0 = some true
theorem laws_FnExactEntsOk.walk (P : laws_FnExactEntsOk.Pure) (A0 : Option Addr) (c0 : Nat) (l0 : List (S64)) (w : World) (hTab : Tabs w) (hr0 : Kd.C k64 w A0 l0.length l0) (hc0 : l0.length ≤ c0) (w0 : (l0.length ≤ maxLen ∧ ∀ y_ ∈ l0, WF64 y_)) :
    Calls Tryd.prog 6 #[.slice A0 l0.length c0] w fun e w' => e = .returned (.bool true) ∧ Below w.heap.size w w' := by
  obtain ⟨k, h⟩ := P l0 w0
  refine (laws_FnExactEntsOk.calls k A0 c0 l0 true w hr0 hc0 hTab h).mono ?_
  rintro e w' ⟨rfl, hd⟩
  exact ⟨rfl, hd⟩
end Go.Proofs.YtgchgcfjbjopkaaDoor.PZ
