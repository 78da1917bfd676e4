/- The pure statement of the law FnExactSameNode, and its walk: what it computes is what its printed function tells.
Conditions: none. -/
import Derived.Test.YtehlkajccnmddaaPNx9
import Derived.Test.YtehlkajccnmddaaOpenN
namespace Go.Proofs.Ytehlkajccnmddaa.PN
open Go.RowKit Go.Proofs.YtehlkajccnmddaaW.PrintWords Go.Proofs.YtehlkajccnmddaaW.PrintLast
set_option linter.unusedVariables false

def laws_FnExactSameNode.Pure : Prop := ∀ (x0 : S38) (x1 : S38), WF38 x0 → WF38 x1 → ∃ k, laws_FnExactSameNode.f k x0.f0 x0.f1 x0.f2 x0.f3 x0.f4 x0.f5 x0.f6 x0.f7 x1.f0 x1.f1 x1.f2 x1.f3 x1.f4 x1.f5 x1.f6 x1.f7 = some true
theorem laws_FnExactSameNode.walk (P : laws_FnExactSameNode.Pure) (x0 : S38) (A0_4 : Option Addr) (c0_4 : Nat) (A0_5 : Option Addr) (c0_5 : Nat) (A0_6 : Option Addr) (c0_6 : Nat) (x1 : S38) (A1_4 : Option Addr) (c1_4 : Nat) (A1_5 : Option Addr) (c1_5 : Nat) (A1_6 : Option Addr) (c1_6 : Nat) (w : World) (hr0_4 : Kd.C k75 w A0_4 x0.f4.length x0.f4) (hc0_4 : x0.f4.length ≤ c0_4) (hr0_5 : Kd.C k115 w A0_5 x0.f5.length x0.f5) (hc0_5 : x0.f5.length ≤ c0_5) (hr0_6 : Kd.C k38 w A0_6 x0.f6.length x0.f6) (hc0_6 : x0.f6.length ≤ c0_6) (hr1_4 : Kd.C k75 w A1_4 x1.f4.length x1.f4) (hc1_4 : x1.f4.length ≤ c1_4) (hr1_5 : Kd.C k115 w A1_5 x1.f5.length x1.f5) (hc1_5 : x1.f5.length ≤ c1_5) (hr1_6 : Kd.C k38 w A1_6 x1.f6.length x1.f6) (hc1_6 : x1.f6.length ≤ c1_6) (w0 : WF38 x0) (w1 : WF38 x1) :
    Calls Try.prog 7 #[.agg #[.int .i64 x0.f0, .string x0.f1, .string x0.f2, .string x0.f3, .slice A0_4 x0.f4.length c0_4, .slice A0_5 x0.f5.length c0_5, .slice A0_6 x0.f6.length c0_6, .string x0.f7], .agg #[.int .i64 x1.f0, .string x1.f1, .string x1.f2, .string x1.f3, .slice A1_4 x1.f4.length c1_4, .slice A1_5 x1.f5.length c1_5, .slice A1_6 x1.f6.length c1_6, .string x1.f7]] w fun e w' => e = .returned (.bool true) ∧ Below w.heap.size w w' := by
  obtain ⟨k, h⟩ := P x0 x1 w0 w1
  refine (laws_FnExactSameNode.calls k x0.f0 x0.f1 x0.f2 x0.f3 A0_4 c0_4 x0.f4 A0_5 c0_5 x0.f5 A0_6 c0_6 x0.f6 x0.f7 x1.f0 x1.f1 x1.f2 x1.f3 A1_4 c1_4 x1.f4 A1_5 c1_5 x1.f5 A1_6 c1_6 x1.f6 x1.f7 true w hr0_4 hc0_4 hr0_5 hc0_5 hr0_6 hc0_6 hr1_4 hc1_4 hr1_5 hc1_5 hr1_6 hc1_6 h).mono ?_
  rintro e w' ⟨rfl, hd⟩
  exact ⟨rfl, hd⟩
end Go.Proofs.Ytehlkajccnmddaa.PN
