/- The pure statement of the law FnExactNameAt, and its walk: what it computes is what its printed function tells.
Conditions: none. -/
import Derived.Test.YtceeaabjkljcpaaDoorPZx4
import Derived.Test.YtceeaabjkljcpaaDoorOpenZ
namespace Go.Proofs.YtceeaabjkljcpaaDoor.PZ
open Go.RowKit Go.Proofs.YtceeaabjkljcpaaDoorW.PrintWords Go.Proofs.YtceeaabjkljcpaaDoorW.PrintLast
set_option linter.unusedVariables false

def laws_FnExactNameAt.Pure : Prop := ∀ (a0 : ByteArray) (a1 : Int), a0.size ≤ maxLen → (Lit.int .i64 a1).wf = true → ∃ k, laws_FnExactNameAt.f k a0 a1 = some true
theorem laws_FnExactNameAt.walk (P : laws_FnExactNameAt.Pure) (a0 : ByteArray) (a1 : Int) (w : World) (hTab : Tabs w)  (w0 : a0.size ≤ maxLen) (w1 : (Lit.int .i64 a1).wf = true) :
    Calls Tryd.prog 6 #[.string a0, .int .i64 a1] w fun e w' => e = .returned (.bool true) ∧ Below w.heap.size w w' := by
  obtain ⟨k, h⟩ := P a0 a1 w0 w1
  refine (laws_FnExactNameAt.calls k a0 a1 true w hTab  h).mono ?_
  rintro e w' ⟨rfl, hd⟩
  exact ⟨rfl, hd⟩
end Go.Proofs.YtceeaabjkljcpaaDoor.PZ
