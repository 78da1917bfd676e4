/- What the laws' arguments read as: each type's values, with what is known of them (their sizes, their numbers' ranges).
Conditions: none. -/
import Derived.Test.YtglmahgliihkaaaPYx0
import Derived.Test.YtglmahgliihkaaaOpen
import Derived.KernelRfl
namespace Go.Proofs.Ytglmahgliihkaaa.PY
open Go.RowKit Go.Proofs.YtglmahgliihkaaaW.PrintWords Go.Proofs.YtglmahgliihkaaaW.PrintLast Go.Proofs.Ytglmahgliihkaaa
set_option linter.unusedVariables false
set_option linter.unusedSimpArgs false

def WF64 (x : S64) : Prop := x.f0.size ≤ maxLen ∧ x.f1.size ≤ maxLen
set_option maxRecDepth 100000 in
theorem open_T64 {H : Type} {enc : TypeId × Value → H} {w : World} (fuel : Nat) : ∀ (cs : List Value) (y : DataW H × List MemPlace), Opens.Rd enc Try.prog w fuel 64 cs y → ∃ x : S64, k64.K w x cs ∧ WF64 x := by
  intro cs y h
  obtain ⟨n, hn, hl, hf⟩ := Opens.fields_of Try.underlying64 h
  rw [show Try.prog.cellsOf 64 = 2 by kernel_rfl] at hl
  obtain ⟨v0, v1, rfl⟩ : ∃ v0 v1, cs = [v0, v1] := by
    match cs, hl with
    | [b0, b1], _ => exact ⟨b0, b1, rfl⟩
  obtain ⟨y0, r0⟩ := hf 0 _ rfl
  have m0_ : Try.prog.cellsOf 9 = 1 := by kernel_rfl
  replace r0 : Opens.Rd enc Try.prog w n 9 (([v0, v1] : List Value).drop 0 |>.take (Try.prog.cellsOf 9)) y0 := r0
  rw [m0_] at r0
  replace r0 : Opens.Rd enc Try.prog w n 9 [v0] y0 := r0
  obtain ⟨x0, e0, _, q0⟩ := DataW.trod_string Try.underlying9 r0
  obtain ⟨y1, r1⟩ := hf 1 _ rfl
  have m1_ : Try.prog.cellsOf 9 = 1 := by kernel_rfl
  replace r1 : Opens.Rd enc Try.prog w n 9 (([v0, v1] : List Value).drop 1 |>.take (Try.prog.cellsOf 9)) y1 := r1
  rw [m1_] at r1
  replace r1 : Opens.Rd enc Try.prog w n 9 [v1] y1 := r1
  obtain ⟨x1, e1, _, q1⟩ := DataW.trod_string Try.underlying9 r1
  obtain rfl := (List.cons.inj e0).1
  obtain rfl := (List.cons.inj e1).1
  refine ⟨⟨x0, x1⟩, k64_mk w ⟨x0, x1⟩ , ⟨q0, q1⟩⟩
def WF67 (x : S67) : Prop := x.f0.size ≤ maxLen ∧ x.f1.size ≤ maxLen ∧ x.f2.size ≤ maxLen ∧ x.f3.size ≤ maxLen
set_option maxRecDepth 100000 in
theorem open_T67 {H : Type} {enc : TypeId × Value → H} {w : World} (fuel : Nat) : ∀ (cs : List Value) (y : DataW H × List MemPlace), Opens.Rd enc Try.prog w fuel 67 cs y → ∃ x : S67, k67.K w x cs ∧ WF67 x := by
  intro cs y h
  obtain ⟨n, hn, hl, hf⟩ := Opens.fields_of Try.underlying67 h
  rw [show Try.prog.cellsOf 67 = 4 by kernel_rfl] at hl
  obtain ⟨v0, v1, v2, v3, rfl⟩ : ∃ v0 v1 v2 v3, cs = [v0, v1, v2, v3] := by
    match cs, hl with
    | [b0, b1, b2, b3], _ => exact ⟨b0, b1, b2, b3, rfl⟩
  obtain ⟨y0, r0⟩ := hf 0 _ rfl
  have m0_ : Try.prog.cellsOf 9 = 1 := by kernel_rfl
  replace r0 : Opens.Rd enc Try.prog w n 9 (([v0, v1, v2, v3] : List Value).drop 0 |>.take (Try.prog.cellsOf 9)) y0 := r0
  rw [m0_] at r0
  replace r0 : Opens.Rd enc Try.prog w n 9 [v0] y0 := r0
  obtain ⟨x0, e0, _, q0⟩ := DataW.trod_string Try.underlying9 r0
  obtain ⟨y1, r1⟩ := hf 1 _ rfl
  have m1_ : Try.prog.cellsOf 9 = 1 := by kernel_rfl
  replace r1 : Opens.Rd enc Try.prog w n 9 (([v0, v1, v2, v3] : List Value).drop 1 |>.take (Try.prog.cellsOf 9)) y1 := r1
  rw [m1_] at r1
  replace r1 : Opens.Rd enc Try.prog w n 9 [v1] y1 := r1
  obtain ⟨x1, e1, _, q1⟩ := DataW.trod_string Try.underlying9 r1
  obtain ⟨y2, r2⟩ := hf 2 _ rfl
  have m2_ : Try.prog.cellsOf 9 = 1 := by kernel_rfl
  replace r2 : Opens.Rd enc Try.prog w n 9 (([v0, v1, v2, v3] : List Value).drop 2 |>.take (Try.prog.cellsOf 9)) y2 := r2
  rw [m2_] at r2
  replace r2 : Opens.Rd enc Try.prog w n 9 [v2] y2 := r2
  obtain ⟨x2, e2, _, q2⟩ := DataW.trod_string Try.underlying9 r2
  obtain ⟨y3, r3⟩ := hf 3 _ rfl
  have m3_ : Try.prog.cellsOf 9 = 1 := by kernel_rfl
  replace r3 : Opens.Rd enc Try.prog w n 9 (([v0, v1, v2, v3] : List Value).drop 3 |>.take (Try.prog.cellsOf 9)) y3 := r3
  rw [m3_] at r3
  replace r3 : Opens.Rd enc Try.prog w n 9 [v3] y3 := r3
  obtain ⟨x3, e3, _, q3⟩ := DataW.trod_string Try.underlying9 r3
  obtain rfl := (List.cons.inj e0).1
  obtain rfl := (List.cons.inj e1).1
  obtain rfl := (List.cons.inj e2).1
  obtain rfl := (List.cons.inj e3).1
  refine ⟨⟨x0, x1, x2, x3⟩, k67_mk w ⟨x0, x1, x2, x3⟩ , ⟨q0, q1, q2, q3⟩⟩
inductive WF26 : S26 → Prop
  | mk (x : S26) (h0 : (Lit.int .i64 x.f0).wf = true) (h1 : x.f1.size ≤ maxLen) (h2 : x.f2.size ≤ maxLen) (h3 : x.f3.size ≤ maxLen) (h4 : (x.f4.length ≤ maxLen ∧ ∀ y_ ∈ x.f4, WF64 y_)) (h5 : (x.f5.length ≤ maxLen ∧ ∀ y_ ∈ x.f5, WF67 y_)) (g6 : x.f6.length ≤ maxLen) (h6 : ∀ y_ ∈ x.f6, WF26 y_) (h7 : x.f7.size ≤ maxLen) : WF26 x
set_option maxRecDepth 100000 in
theorem open_T26 {H : Type} {enc : TypeId × Value → H} {w : World} (fuel : Nat) : ∀ (cs : List Value) (y : DataW H × List MemPlace), Opens.Rd enc Try.prog w fuel 26 cs y → ∃ x : S26, k26.K w x cs ∧ WF26 x := by
  induction fuel using Nat.strongRecOn with
  | _ fuel ih =>
  intro cs y h
  obtain ⟨n, hn, hl, hf⟩ := Opens.fields_of Try.underlying26 h
  rw [show Try.prog.cellsOf 26 = 8 by kernel_rfl] at hl
  obtain ⟨v0, v1, v2, v3, v4, v5, v6, v7, rfl⟩ : ∃ v0 v1 v2 v3 v4 v5 v6 v7, cs = [v0, v1, v2, v3, v4, v5, v6, v7] := by
    match cs, hl with
    | [b0, b1, b2, b3, b4, b5, b6, b7], _ => exact ⟨b0, b1, b2, b3, b4, b5, b6, b7, rfl⟩
  obtain ⟨y0, r0⟩ := hf 0 _ rfl
  have m0_ : Try.prog.cellsOf 3 = 1 := by kernel_rfl
  replace r0 : Opens.Rd enc Try.prog w n 3 (([v0, v1, v2, v3, v4, v5, v6, v7] : List Value).drop 0 |>.take (Try.prog.cellsOf 3)) y0 := r0
  rw [m0_] at r0
  replace r0 : Opens.Rd enc Try.prog w n 3 [v0] y0 := r0
  obtain ⟨x0, e0, _, q0⟩ := DataW.trod_int Try.underlying3 r0
  obtain ⟨y1, r1⟩ := hf 1 _ rfl
  have m1_ : Try.prog.cellsOf 9 = 1 := by kernel_rfl
  replace r1 : Opens.Rd enc Try.prog w n 9 (([v0, v1, v2, v3, v4, v5, v6, v7] : List Value).drop 1 |>.take (Try.prog.cellsOf 9)) y1 := r1
  rw [m1_] at r1
  replace r1 : Opens.Rd enc Try.prog w n 9 [v1] y1 := r1
  obtain ⟨x1, e1, _, q1⟩ := DataW.trod_string Try.underlying9 r1
  obtain ⟨y2, r2⟩ := hf 2 _ rfl
  have m2_ : Try.prog.cellsOf 9 = 1 := by kernel_rfl
  replace r2 : Opens.Rd enc Try.prog w n 9 (([v0, v1, v2, v3, v4, v5, v6, v7] : List Value).drop 2 |>.take (Try.prog.cellsOf 9)) y2 := r2
  rw [m2_] at r2
  replace r2 : Opens.Rd enc Try.prog w n 9 [v2] y2 := r2
  obtain ⟨x2, e2, _, q2⟩ := DataW.trod_string Try.underlying9 r2
  obtain ⟨y3, r3⟩ := hf 3 _ rfl
  have m3_ : Try.prog.cellsOf 9 = 1 := by kernel_rfl
  replace r3 : Opens.Rd enc Try.prog w n 9 (([v0, v1, v2, v3, v4, v5, v6, v7] : List Value).drop 3 |>.take (Try.prog.cellsOf 9)) y3 := r3
  rw [m3_] at r3
  replace r3 : Opens.Rd enc Try.prog w n 9 [v3] y3 := r3
  obtain ⟨x3, e3, _, q3⟩ := DataW.trod_string Try.underlying9 r3
  obtain ⟨y4, r4⟩ := hf 4 _ rfl
  have m4_ : Try.prog.cellsOf 22 = 1 := by kernel_rfl
  replace r4 : Opens.Rd enc Try.prog w n 22 (([v0, v1, v2, v3, v4, v5, v6, v7] : List Value).drop 4 |>.take (Try.prog.cellsOf 22)) y4 := r4
  rw [m4_] at r4
  replace r4 : Opens.Rd enc Try.prog w n 22 [v4] y4 := r4
  obtain ⟨A4, c4, x4, e4, l4, g4, q4⟩ := Opens.open_row (d := k64) (WF := (fun x_ => WF64 x_)) Try.underlying22 (by kernel_rfl) (fun m_ _ => (fun cs_ y_ h_ => open_T64 _ cs_ y_ h_)) r4
  obtain ⟨y5, r5⟩ := hf 5 _ rfl
  have m5_ : Try.prog.cellsOf 23 = 1 := by kernel_rfl
  replace r5 : Opens.Rd enc Try.prog w n 23 (([v0, v1, v2, v3, v4, v5, v6, v7] : List Value).drop 5 |>.take (Try.prog.cellsOf 23)) y5 := r5
  rw [m5_] at r5
  replace r5 : Opens.Rd enc Try.prog w n 23 [v5] y5 := r5
  obtain ⟨A5, c5, x5, e5, l5, g5, q5⟩ := Opens.open_row (d := k67) (WF := (fun x_ => WF67 x_)) Try.underlying23 (by kernel_rfl) (fun m_ _ => (fun cs_ y_ h_ => open_T67 _ cs_ y_ h_)) r5
  obtain ⟨y6, r6⟩ := hf 6 _ rfl
  have m6_ : Try.prog.cellsOf 24 = 1 := by kernel_rfl
  replace r6 : Opens.Rd enc Try.prog w n 24 (([v0, v1, v2, v3, v4, v5, v6, v7] : List Value).drop 6 |>.take (Try.prog.cellsOf 24)) y6 := r6
  rw [m6_] at r6
  replace r6 : Opens.Rd enc Try.prog w n 24 [v6] y6 := r6
  obtain ⟨A6, c6, x6, e6, l6, g6, q6⟩ := Opens.open_row (d := k26) (WF := (fun x_ => WF26 x_)) Try.underlying24 (by kernel_rfl) (fun m_ hm_ cs_ y_ h_ => ih m_ (by omega) cs_ y_ h_) r6
  obtain ⟨y7, r7⟩ := hf 7 _ rfl
  have m7_ : Try.prog.cellsOf 9 = 1 := by kernel_rfl
  replace r7 : Opens.Rd enc Try.prog w n 9 (([v0, v1, v2, v3, v4, v5, v6, v7] : List Value).drop 7 |>.take (Try.prog.cellsOf 9)) y7 := r7
  rw [m7_] at r7
  replace r7 : Opens.Rd enc Try.prog w n 9 [v7] y7 := r7
  obtain ⟨x7, e7, _, q7⟩ := DataW.trod_string Try.underlying9 r7
  obtain rfl := (List.cons.inj e0).1
  obtain rfl := (List.cons.inj e1).1
  obtain rfl := (List.cons.inj e2).1
  obtain rfl := (List.cons.inj e3).1
  obtain rfl := (List.cons.inj e4).1
  obtain rfl := (List.cons.inj e5).1
  obtain rfl := (List.cons.inj e6).1
  obtain rfl := (List.cons.inj e7).1
  refine ⟨⟨x0, x1, x2, x3, x4, x5, x6, x7⟩, k26_mk w ⟨x0, x1, x2, x3, x4, x5, x6, x7⟩ l4 g4 l5 g5 l6 g6, WF26.mk _ q0 q1 q2 q3 q4 q5 q6.1 q6.2 q7⟩
end Go.Proofs.Ytglmahgliihkaaa.PY
