/- The pure statement of the law FnExactSignAt, and its walk: what it computes is what its printed function tells.
Conditions: none. -/
import Derived.Test.YtceeaabjkljcpaaDoorPZx1
import Derived.Test.YtceeaabjkljcpaaDoorOpenZ
namespace Go.Proofs.YtceeaabjkljcpaaDoor.PZ
open Go.RowKit Go.Proofs.YtceeaabjkljcpaaDoorW.PrintWords Go.Proofs.YtceeaabjkljcpaaDoorW.PrintLast
set_option linter.unusedVariables false

def laws_FnExactSignAt.Pure : Prop := ∀ (a0 : ByteArray) (a1 : Int), a0.size ≤ maxLen → (Lit.int .i64 a1).wf = true → ∃ k, laws_FnExactSignAt.f k a0 a1 = some true
theorem laws_FnExactSignAt.walk (P : laws_FnExactSignAt.Pure) (a0 : ByteArray) (a1 : Int) (w : World) (hTab : Tabs w)  (w0 : a0.size ≤ maxLen) (w1 : (Lit.int .i64 a1).wf = true) :
    Calls Tryd.prog 3 #[.string a0, .int .i64 a1] w fun e w' => e = .returned (.bool true) ∧ Below w.heap.size w w' := by
  obtain ⟨k, h⟩ := P a0 a1 w0 w1
  refine (laws_FnExactSignAt.calls k a0 a1 true w hTab  h).mono ?_
  rintro e w' ⟨rfl, hd⟩
  exact ⟨rfl, hd⟩
end Go.Proofs.YtceeaabjkljcpaaDoor.PZ
