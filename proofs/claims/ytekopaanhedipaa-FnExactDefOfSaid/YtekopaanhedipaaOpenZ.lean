/- What the laws' arguments read as: each type's values, with what is known of them (their sizes, their numbers' ranges).
Conditions: none. -/
import Derived.Test.YtekopaanhedipaaPZx0
import Derived.Test.YtekopaanhedipaaOpen
import Derived.KernelRfl
namespace Go.Proofs.Ytekopaanhedipaa.PZ
open Go.RowKit Go.Proofs.YtekopaanhedipaaW.PrintWords Go.Proofs.YtekopaanhedipaaW.PrintLast Go.Proofs.Ytekopaanhedipaa
set_option linter.unusedVariables false
set_option linter.unusedSimpArgs false

def WF67 (x : S67) : Prop := x.f0.size ≤ maxLen ∧ x.f1.size ≤ maxLen ∧ True ∧ True ∧ x.f4.size ≤ maxLen
theorem open_T67 {H : Type} {enc : TypeId × Value → H} {w : World} (fuel : Nat) : ∀ (cs : List Value) (y : DataW H × List MemPlace), Opens.Rd enc Try.prog w fuel 67 cs y → ∃ x : S67, k67.K w x cs ∧ WF67 x := by
  intro cs y h
  obtain ⟨n, hn, hl, hf⟩ := Opens.fields_of Try.underlying67 h
  rw [show Try.prog.cellsOf 67 = 5 by kernel_rfl] at hl
  obtain ⟨v0, v1, v2, v3, v4, rfl⟩ : ∃ v0 v1 v2 v3 v4, cs = [v0, v1, v2, v3, v4] := by
    match cs, hl with
    | [b0, b1, b2, b3, b4], _ => exact ⟨b0, b1, b2, b3, b4, rfl⟩
  obtain ⟨y0, r0⟩ := hf 0 _ rfl
  have m0_ : Try.prog.cellsOf 9 = 1 := by kernel_rfl
  replace r0 : Opens.Rd enc Try.prog w n 9 (([v0, v1, v2, v3, v4] : List Value).drop 0 |>.take (Try.prog.cellsOf 9)) y0 := r0
  rw [m0_] at r0
  replace r0 : Opens.Rd enc Try.prog w n 9 [v0] y0 := r0
  obtain ⟨x0, e0, _, q0⟩ := DataW.trod_string Try.underlying9 r0
  obtain ⟨y1, r1⟩ := hf 1 _ rfl
  have m1_ : Try.prog.cellsOf 9 = 1 := by kernel_rfl
  replace r1 : Opens.Rd enc Try.prog w n 9 (([v0, v1, v2, v3, v4] : List Value).drop 1 |>.take (Try.prog.cellsOf 9)) y1 := r1
  rw [m1_] at r1
  replace r1 : Opens.Rd enc Try.prog w n 9 [v1] y1 := r1
  obtain ⟨x1, e1, _, q1⟩ := DataW.trod_string Try.underlying9 r1
  obtain ⟨y2, r2⟩ := hf 2 _ rfl
  have m2_ : Try.prog.cellsOf 4 = 1 := by kernel_rfl
  replace r2 : Opens.Rd enc Try.prog w n 4 (([v0, v1, v2, v3, v4] : List Value).drop 2 |>.take (Try.prog.cellsOf 4)) y2 := r2
  rw [m2_] at r2
  replace r2 : Opens.Rd enc Try.prog w n 4 [v2] y2 := r2
  obtain ⟨x2, e2, _⟩ := DataW.trod_bool Try.underlying4 r2
  have q2 : True := trivial
  obtain ⟨y3, r3⟩ := hf 3 _ rfl
  have m3_ : Try.prog.cellsOf 4 = 1 := by kernel_rfl
  replace r3 : Opens.Rd enc Try.prog w n 4 (([v0, v1, v2, v3, v4] : List Value).drop 3 |>.take (Try.prog.cellsOf 4)) y3 := r3
  rw [m3_] at r3
  replace r3 : Opens.Rd enc Try.prog w n 4 [v3] y3 := r3
  obtain ⟨x3, e3, _⟩ := DataW.trod_bool Try.underlying4 r3
  have q3 : True := trivial
  obtain ⟨y4, r4⟩ := hf 4 _ rfl
  have m4_ : Try.prog.cellsOf 9 = 1 := by kernel_rfl
  replace r4 : Opens.Rd enc Try.prog w n 9 (([v0, v1, v2, v3, v4] : List Value).drop 4 |>.take (Try.prog.cellsOf 9)) y4 := r4
  rw [m4_] at r4
  replace r4 : Opens.Rd enc Try.prog w n 9 [v4] y4 := r4
  obtain ⟨x4, e4, _, q4⟩ := DataW.trod_string Try.underlying9 r4
  obtain rfl := (List.cons.inj e0).1
  obtain rfl := (List.cons.inj e1).1
  obtain rfl := (List.cons.inj e2).1
  obtain rfl := (List.cons.inj e3).1
  obtain rfl := (List.cons.inj e4).1
  refine ⟨⟨x0, x1, x2, x3, x4⟩, k67_mk w ⟨x0, x1, x2, x3, x4⟩ , ⟨q0, q1, q2, q3, q4⟩⟩
end Go.Proofs.Ytekopaanhedipaa.PZ
