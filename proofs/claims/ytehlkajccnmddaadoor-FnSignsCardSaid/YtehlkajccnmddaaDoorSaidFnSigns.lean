/- The pure statement of the law FnSigns, and its walk: what it computes is what its printed function tells.
Conditions: none. -/
import Derived.Test.YtehlkajccnmddaaDoorPGx4
import Derived.Test.YtehlkajccnmddaaDoorOpenG
namespace Go.Proofs.YtehlkajccnmddaaDoor.PG
open Go.RowKit Go.Proofs.YtehlkajccnmddaaDoorW.PrintWords Go.Proofs.YtehlkajccnmddaaDoorW.PrintLast
set_option linter.unusedVariables false

def laws_FnSigns.Pure : Prop := ∀ (l0 : List Int), (l0.length ≤ maxLen ∧ ∀ y_ ∈ l0, (Lit.int .u8 y_).wf = true) → ∃ k, laws_FnSigns.f k l0 = some true
theorem laws_FnSigns.walk (P : laws_FnSigns.Pure) (A0 : Option Addr) (c0 : Nat) (l0 : List Int) (w : World) (hTab : Tabs w) (hr0 : Kd.C (Kd.int .u8) w A0 l0.length l0) (hc0 : l0.length ≤ c0) (w0 : (l0.length ≤ maxLen ∧ ∀ y_ ∈ l0, (Lit.int .u8 y_).wf = true)) :
    Calls Tryd.prog 3 #[.slice A0 l0.length c0] w fun e w' => e = .returned (.bool true) ∧ Below w.heap.size w w' := by
  obtain ⟨k, h⟩ := P l0 w0
  refine (laws_FnSigns.calls k A0 c0 l0 true w hr0 hc0 hTab h).mono ?_
  rintro e w' ⟨rfl, hd⟩
  exact ⟨rfl, hd⟩
end Go.Proofs.YtehlkajccnmddaaDoor.PG
