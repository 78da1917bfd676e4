/- The pure statement of the law FnExactPlaces, and its walk: what it computes is what its printed function tells.
Conditions: none. -/
import Derived.Test.YtdbinpeglamnnaaPPx6
import Derived.Test.YtdbinpeglamnnaaOpenP
namespace Go.Proofs.Ytdbinpeglamnnaa.PP
open Go.RowKit Go.Proofs.YtdbinpeglamnnaaW.PrintWords Go.Proofs.YtdbinpeglamnnaaW.PrintLast
set_option linter.unusedVariables false

def laws_FnExactPlaces.Pure : Prop := ∀ (x0 : S26), WF26 x0 → ∃ k, laws_FnExactPlaces.f k x0.f0 x0.f1 x0.f2 x0.f3 x0.f4 x0.f5 x0.f6 x0.f7 = some true
theorem laws_FnExactPlaces.walk (P : laws_FnExactPlaces.Pure) (x0 : S26) (A0_4 : Option Addr) (c0_4 : Nat) (A0_5 : Option Addr) (c0_5 : Nat) (A0_6 : Option Addr) (c0_6 : Nat) (w : World) (hr0_4 : Kd.C k84 w A0_4 x0.f4.length x0.f4) (hc0_4 : x0.f4.length ≤ c0_4) (hr0_5 : Kd.C k87 w A0_5 x0.f5.length x0.f5) (hc0_5 : x0.f5.length ≤ c0_5) (hr0_6 : Kd.C k26 w A0_6 x0.f6.length x0.f6) (hc0_6 : x0.f6.length ≤ c0_6) (w0 : WF26 x0) :
    Calls Try.prog 3 #[.agg #[.int .i64 x0.f0, .string x0.f1, .string x0.f2, .string x0.f3, .slice A0_4 x0.f4.length c0_4, .slice A0_5 x0.f5.length c0_5, .slice A0_6 x0.f6.length c0_6, .string x0.f7]] w fun e w' => e = .returned (.bool true) ∧ Below w.heap.size w w' := by
  obtain ⟨k, h⟩ := P x0 w0
  refine (laws_FnExactPlaces.calls k x0.f0 x0.f1 x0.f2 x0.f3 A0_4 c0_4 x0.f4 A0_5 c0_5 x0.f5 A0_6 c0_6 x0.f6 x0.f7 true w hr0_4 hc0_4 hr0_5 hc0_5 hr0_6 hc0_6 h).mono ?_
  rintro e w' ⟨rfl, hd⟩
  exact ⟨rfl, hd⟩
end Go.Proofs.Ytdbinpeglamnnaa.PP
