/- The pure statement of the law FnExactInsertAt, and its walk: what it computes is what its printed function tells.
Conditions: none. -/
import Derived.Test.YtglmahgliihkaaaPYx12
import Derived.Test.YtglmahgliihkaaaOpenY
namespace Go.Proofs.Ytglmahgliihkaaa.PY
open Go.RowKit Go.Proofs.YtglmahgliihkaaaW.PrintWords Go.Proofs.YtglmahgliihkaaaW.PrintLast
set_option linter.unusedVariables false

def laws_FnExactInsertAt.Pure : Prop := ∀ (x0 : S26) (l1 : List Int) (a2 : Int) (l3 : List (S26)), WF26 x0 → (l1.length ≤ maxLen ∧ ∀ y_ ∈ l1, (Lit.int .i64 y_).wf = true) → (Lit.int .i64 a2).wf = true → (l3.length ≤ maxLen ∧ ∀ y_ ∈ l3, WF26 y_) → ∃ k, laws_FnExactInsertAt.f k x0.f0 x0.f1 x0.f2 x0.f3 x0.f4 x0.f5 x0.f6 x0.f7 l1 a2 l3 = some true
theorem laws_FnExactInsertAt.walk (P : laws_FnExactInsertAt.Pure) (x0 : S26) (A0_4 : Option Addr) (c0_4 : Nat) (A0_5 : Option Addr) (c0_5 : Nat) (A0_6 : Option Addr) (c0_6 : Nat) (A1 : Option Addr) (c1 : Nat) (l1 : List Int) (a2 : Int) (A3 : Option Addr) (c3 : Nat) (l3 : List (S26)) (w : World) (hr0_4 : Kd.C k64 w A0_4 x0.f4.length x0.f4) (hc0_4 : x0.f4.length ≤ c0_4) (hr0_5 : Kd.C k67 w A0_5 x0.f5.length x0.f5) (hc0_5 : x0.f5.length ≤ c0_5) (hr0_6 : Kd.C k26 w A0_6 x0.f6.length x0.f6) (hc0_6 : x0.f6.length ≤ c0_6) (hr1 : Kd.C (Kd.int .i64) w A1 l1.length l1) (hc1 : l1.length ≤ c1) (hr3 : Kd.C k26 w A3 l3.length l3) (hc3 : l3.length ≤ c3) (w0 : WF26 x0) (w1 : (l1.length ≤ maxLen ∧ ∀ y_ ∈ l1, (Lit.int .i64 y_).wf = true)) (w2 : (Lit.int .i64 a2).wf = true) (w3 : (l3.length ≤ maxLen ∧ ∀ y_ ∈ l3, WF26 y_)) :
    Calls Try.prog 3 #[.agg #[.int .i64 x0.f0, .string x0.f1, .string x0.f2, .string x0.f3, .slice A0_4 x0.f4.length c0_4, .slice A0_5 x0.f5.length c0_5, .slice A0_6 x0.f6.length c0_6, .string x0.f7], .slice A1 l1.length c1, .int .i64 a2, .slice A3 l3.length c3] w fun e w' => e = .returned (.bool true) ∧ Below w.heap.size w w' := by
  obtain ⟨k, h⟩ := P x0 l1 a2 l3 w0 w1 w2 w3
  refine (laws_FnExactInsertAt.calls k x0.f0 x0.f1 x0.f2 x0.f3 A0_4 c0_4 x0.f4 A0_5 c0_5 x0.f5 A0_6 c0_6 x0.f6 x0.f7 A1 c1 l1 a2 A3 c3 l3 true w hr0_4 hc0_4 hr0_5 hc0_5 hr0_6 hc0_6 hr1 hc1 hr3 hc3 h).mono ?_
  rintro e w' ⟨rfl, hd⟩
  exact ⟨rfl, hd⟩
end Go.Proofs.Ytglmahgliihkaaa.PY
