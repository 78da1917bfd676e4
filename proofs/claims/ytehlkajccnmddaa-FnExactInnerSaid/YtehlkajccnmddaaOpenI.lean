/- What the laws' arguments read as: each type's values, with what is known of them (their sizes, their numbers' ranges).
Conditions: none. -/
import Derived.Test.YtehlkajccnmddaaPIx0
import Derived.Test.YtehlkajccnmddaaOpen
import Derived.KernelRfl
namespace Go.Proofs.Ytehlkajccnmddaa.PI
open Go.RowKit Go.Proofs.YtehlkajccnmddaaW.PrintWords Go.Proofs.YtehlkajccnmddaaW.PrintLast Go.Proofs.Ytehlkajccnmddaa
set_option linter.unusedVariables false
set_option linter.unusedSimpArgs false

def WF75 (x : S75) : Prop := x.f0.size ≤ maxLen ∧ x.f1.size ≤ maxLen
set_option maxRecDepth 100000 in
theorem open_T75 {H : Type} {enc : TypeId × Value → H} {w : World} (fuel : Nat) : ∀ (cs : List Value) (y : DataW H × List MemPlace), Opens.Rd enc Try.prog w fuel 75 cs y → ∃ x : S75, k75.K w x cs ∧ WF75 x := by
  intro cs y h
  obtain ⟨n, hn, hl, hf⟩ := Opens.fields_of Try.underlying75 h
  rw [show Try.prog.cellsOf 75 = 2 by kernel_rfl] at hl
  obtain ⟨v0, v1, rfl⟩ : ∃ v0 v1, cs = [v0, v1] := by
    match cs, hl with
    | [b0, b1], _ => exact ⟨b0, b1, rfl⟩
  obtain ⟨y0, r0⟩ := hf 0 _ rfl
  have m0_ : Try.prog.cellsOf 9 = 1 := by kernel_rfl
  replace r0 : Opens.Rd enc Try.prog w n 9 (([v0, v1] : List Value).drop 0 |>.take (Try.prog.cellsOf 9)) y0 := r0
  rw [m0_] at r0
  replace r0 : Opens.Rd enc Try.prog w n 9 [v0] y0 := r0
  obtain ⟨x0, e0, _, q0⟩ := DataW.trod_string Try.underlying9 r0
  obtain ⟨y1, r1⟩ := hf 1 _ rfl
  have m1_ : Try.prog.cellsOf 9 = 1 := by kernel_rfl
  replace r1 : Opens.Rd enc Try.prog w n 9 (([v0, v1] : List Value).drop 1 |>.take (Try.prog.cellsOf 9)) y1 := r1
  rw [m1_] at r1
  replace r1 : Opens.Rd enc Try.prog w n 9 [v1] y1 := r1
  obtain ⟨x1, e1, _, q1⟩ := DataW.trod_string Try.underlying9 r1
  obtain rfl := (List.cons.inj e0).1
  obtain rfl := (List.cons.inj e1).1
  refine ⟨⟨x0, x1⟩, k75_mk w ⟨x0, x1⟩ , ⟨q0, q1⟩⟩
end Go.Proofs.Ytehlkajccnmddaa.PI
