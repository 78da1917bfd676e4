/- The pure statement of the law FnExactIdsOf, and its walk: what it computes is what its printed function tells.
Conditions: none. -/
import Derived.Test.YtdbinpeglamnnaaDoorPIx13
import Derived.Test.YtdbinpeglamnnaaDoorOpenI
namespace Go.Proofs.YtdbinpeglamnnaaDoor.PI
open Go.RowKit Go.Proofs.YtdbinpeglamnnaaDoorW.PrintWords Go.Proofs.YtdbinpeglamnnaaDoorW.PrintLast
set_option linter.unusedVariables false

def laws_FnExactIdsOf.Pure : Prop := ∀ (x0 : S26) (x1 : S30), WF26 x0 → WF30 x1 → ∃ k, laws_FnExactIdsOf.f k x0.f0 x0.f1 x0.f2 x0.f3 x0.f4 x0.f5 x0.f6 x0.f7 x1.f0 x1.f1 x1.f2 = some true
theorem laws_FnExactIdsOf.walk (P : laws_FnExactIdsOf.Pure) (x0 : S26) (A0_4 : Option Addr) (c0_4 : Nat) (A0_5 : Option Addr) (c0_5 : Nat) (A0_6 : Option Addr) (c0_6 : Nat) (x1 : S30) (A1_1 : Option Addr) (c1_1 : Nat) (A1_2 : Option Addr) (c1_2 : Nat) (w : World) (hTab : Tabs w) (hr0_4 : Kd.C k76 w A0_4 x0.f4.length x0.f4) (hc0_4 : x0.f4.length ≤ c0_4) (hr0_5 : Kd.C k78 w A0_5 x0.f5.length x0.f5) (hc0_5 : x0.f5.length ≤ c0_5) (hr0_6 : Kd.C k26 w A0_6 x0.f6.length x0.f6) (hc0_6 : x0.f6.length ≤ c0_6) (hr1_1 : Kd.C k81 w A1_1 x1.f1.length x1.f1) (hc1_1 : x1.f1.length ≤ c1_1) (hr1_2 : Kd.C k84 w A1_2 x1.f2.length x1.f2) (hc1_2 : x1.f2.length ≤ c1_2) (w0 : WF26 x0) (w1 : WF30 x1) :
    Calls Tryd.prog 3 #[.agg #[.int .i64 x0.f0, .string x0.f1, .string x0.f2, .string x0.f3, .slice A0_4 x0.f4.length c0_4, .slice A0_5 x0.f5.length c0_5, .slice A0_6 x0.f6.length c0_6, .string x0.f7], .agg #[.string x1.f0, .slice A1_1 x1.f1.length c1_1, .slice A1_2 x1.f2.length c1_2]] w fun e w' => e = .returned (.bool true) ∧ Below w.heap.size w w' := by
  obtain ⟨k, h⟩ := P x0 x1 w0 w1
  refine (laws_FnExactIdsOf.calls k x0.f0 x0.f1 x0.f2 x0.f3 A0_4 c0_4 x0.f4 A0_5 c0_5 x0.f5 A0_6 c0_6 x0.f6 x0.f7 x1.f0 A1_1 c1_1 x1.f1 A1_2 c1_2 x1.f2 true w hr0_4 hc0_4 hr0_5 hc0_5 hr0_6 hc0_6 hr1_1 hc1_1 hr1_2 hc1_2 hTab h).mono ?_
  rintro e w' ⟨rfl, hd⟩
  exact ⟨rfl, hd⟩
end Go.Proofs.YtdbinpeglamnnaaDoor.PI
