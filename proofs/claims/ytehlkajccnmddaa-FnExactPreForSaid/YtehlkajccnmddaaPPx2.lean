-- Written by the session's program hprint.py, over the kit's print program. Lean checks it.
import Derived.Test.YtehlkajccnmddaaPPx0
import Derived.Test.YtehlkajccnmddaaPPx1
namespace Go.Proofs.Ytehlkajccnmddaa.PP
open Go.RowKit Go.Proofs.YtehlkajccnmddaaW.PrintWords Go.Proofs.YtehlkajccnmddaaW.PrintLast Go.Proofs.YtehlkajccnmddaaW.PrintMore
attribute [local go_sem] max2_int min2_int max_two min_two max_three min_three max_four min_four   -- for this text's walks alone
set_option linter.unusedVariables false
set_option linter.unusedSimpArgs false

/-! ### spec_PreFor: function 22 -/
mutual
def spec_PreFor.j0 : Nat → List (S76) → ByteArray → Option (ByteArray × Bool)
  | 0, _, _ => none
  | k + 1, x0, x1 => spec_PreFor.l0 k x0 x1 0
def spec_PreFor.l0 : Nat → List (S76) → ByteArray → Int → Option (ByteArray × Bool)
  | 0, _, _, _ => none
  | k + 1, x0, x1, x10 => if x10 < (x0.length : Int) then (if 0 ≤ x10 then (if ((rd_T76 x0 x10).f0).toList = ([] : List UInt8) then (spec_PreFor.l0 k x0 x1 (wrap64 (x10 + 1))) else ((spec_SpaceOf.f k x0 ((rd_T76 x0 x10).f0)).bind fun bt125 => (if bt125.2 = true then (if bt125.1.toList = x1.toList then (some ((rd_T76 x0 x10).f0, true)) else (spec_PreFor.l0 k x0 x1 (wrap64 (x10 + 1)))) else (spec_PreFor.l0 k x0 x1 (wrap64 (x10 + 1)))))) else (none)) else (some ((⟨#[]⟩ : ByteArray), false))
end
def spec_PreFor.f (k : Nat) (l0 : List (S76)) (a1 : ByteArray) (a2 : Bool) : Option (ByteArray × Bool) := if a2 = true then ((spec_SpaceOf.f k l0 (⟨#[]⟩ : ByteArray)).bind fun bt121 => (if bt121.1.toList = a1.toList then (some ((⟨#[]⟩ : ByteArray), true)) else (spec_PreFor.j0 k l0 a1))) else (spec_PreFor.j0 k l0 a1)
theorem spec_PreFor.mono_l : ∀ k, (∀ y0 y1, LeO (spec_PreFor.j0 k y0 y1) (spec_PreFor.j0 (k + 1) y0 y1)) ∧ (∀ y0 y1 y2, LeO (spec_PreFor.l0 k y0 y1 y2) (spec_PreFor.l0 (k + 1) y0 y1 y2))
  | 0 => ⟨fun _ _ r h => by simp [spec_PreFor.j0] at h, fun _ _ _ r h => by simp [spec_PreFor.l0] at h⟩
  | k + 1 => by
    obtain ⟨ih0, ih1⟩ := spec_PreFor.mono_l k
    refine ⟨?_, ?_⟩
    · intro y0 y1
      unfold spec_PreFor.j0
      repeat' first
      | (with_reducible exact ih0 _ _)
      | (with_reducible exact ih1 _ _ _)
      | (with_reducible exact spec_SpaceOf.mono _ _ _)
      | (with_reducible exact LeO.refl _)
      | (with_reducible exact LeO.none _)
      | (with_reducible refine LeO.ite ?_ ?_)
      | (with_reducible refine LeO.bind ?_ (fun _ => ?_))
      | exact ih0 _ _
      | exact ih1 _ _ _
      | exact spec_SpaceOf.mono _ _ _
      | exact LeO.none _
      | refine LeO.ite ?_ ?_
      | refine LeO.bind ?_ (fun _ => ?_)
    · intro y0 y1 y2
      unfold spec_PreFor.l0
      repeat' first
      | (with_reducible exact ih0 _ _)
      | (with_reducible exact ih1 _ _ _)
      | (with_reducible exact spec_SpaceOf.mono _ _ _)
      | (with_reducible exact LeO.refl _)
      | (with_reducible exact LeO.none _)
      | (with_reducible refine LeO.ite ?_ ?_)
      | (with_reducible refine LeO.bind ?_ (fun _ => ?_))
      | exact ih0 _ _
      | exact ih1 _ _ _
      | exact spec_SpaceOf.mono _ _ _
      | exact LeO.none _
      | refine LeO.ite ?_ ?_
      | refine LeO.bind ?_ (fun _ => ?_)
theorem spec_PreFor.mono : ∀ a0 a1 a2 k, LeO (spec_PreFor.f k a0 a1 a2) (spec_PreFor.f (k + 1) a0 a1 a2) := by
  intro a0 a1 a2 k
  obtain ⟨ih0, ih1⟩ := spec_PreFor.mono_l k
  unfold spec_PreFor.f
  repeat' first
      | (with_reducible exact ih0 _ _)
      | (with_reducible exact ih1 _ _ _)
      | (with_reducible exact spec_SpaceOf.mono _ _ _)
      | (with_reducible exact LeO.refl _)
      | (with_reducible exact LeO.none _)
      | (with_reducible refine LeO.ite ?_ ?_)
      | (with_reducible refine LeO.bind ?_ (fun _ => ?_))
      | exact ih0 _ _
      | exact ih1 _ _ _
      | exact spec_SpaceOf.mono _ _ _
      | exact LeO.none _
      | refine LeO.ite ?_ ?_
      | refine LeO.bind ?_ (fun _ => ?_)
set_option maxHeartbeats 8000000 in
set_option maxRecDepth 100000 in
theorem spec_PreFor.calls (k : Nat) (A0 : Option Addr) (c0 : Nat) (l0 : List (S76)) (a1 : ByteArray) (a2 : Bool) (r1 : ByteArray) (r2 : Bool) (w : World) (hr0 : Kd.C k76 w A0 l0.length l0) (hc0 : l0.length ≤ c0) (h : spec_PreFor.f k l0 a1 a2 = some (r1, r2)) :
    Calls Try.prog 22 #[.slice A0 l0.length c0, .string a1, .bool a2] w fun e w' => e = .returned (.tuple #[.string r1, .bool r2]) ∧ Drawn0 w w' := by
  have HR0 := Aside0.mk hr0
  have HC0 := Aside0.mk hc0
  clear hr0 hc0
  have H : (if a2 = true then ((spec_SpaceOf.f k l0 (⟨#[]⟩ : ByteArray)).bind fun bt121 => (if bt121.1.toList = a1.toList then (some ((⟨#[]⟩ : ByteArray), true)) else (spec_PreFor.j0 k l0 a1))) else (spec_PreFor.j0 k l0 a1)) = some (r1, r2) := h
  clear h
  have HC4 := Aside0.mk H
  clear H
  go_enter Try.func22, Try.ntmps22
  go_upto_if 13 with (fail)
  go_cut [] (fun wc => ∃ (kq : Nat), Aside0 (spec_PreFor.j0 kq l0 a1 = some (r1, r2)) ∧ Aside0 (kq ≤ k) ∧ Drawn0 w wc)
  case first =>
    have H := HC4.out
    clear HC4
    by_cases c5 : a2 = true
    · subst c5
      have H1 : ((spec_SpaceOf.f k l0 (⟨#[]⟩ : ByteArray)).bind fun bt121 => (if bt121.1.toList = a1.toList then (some ((⟨#[]⟩ : ByteArray), true)) else (spec_PreFor.j0 k l0 a1))) = some (r1, r2) := by rw [if_pos rfl] at H; exact H
      clear H
      have H := H1
      clear H1
      replace H := Option.bind_eq_some_iff.mp H
      obtain ⟨⟨t121, t122⟩, A60, H⟩ := H
      replace H : (if t121.toList = a1.toList then (some ((⟨#[]⟩ : ByteArray), true)) else (spec_PreFor.j0 k l0 a1)) = some (r1, r2) := H
      have A6 := Aside0.mk A60
      clear A60
      by_cases c7 : t121.toList = a1.toList
      · rw [if_pos c7] at H
        have c7b0 : (t121.toList == a1.toList) = true := beq_iff_eq.mpr c7
        have c7b1 : (t121.toList != a1.toList) = false := bne_eq_false_iff_eq.mpr c7
        clear c7
        (first | rw [c7b0] | (simp only [i64_w, i32_w]; rw [c7b0]) | skip)
        simp only [Option.some.injEq, Prod.mk.injEq] at H
        obtain ⟨rfl, rfl⟩ := H
        go_wp2_with (first | ((with_reducible refine gate_callee (f := 14) rfl ?_); refine goesL_ (some 16) rfl rfl Try.func14 (by kernel_rfl) rfl #[.slice A0 l0.length c0, .string (⟨#[]⟩ : ByteArray)] rfl (by (try simp only [List.map_toArray, List.map_cons, List.map_nil]); first | done | rfl | (simp only [List.length_drop, List.length_take]; rfl)) ?_; (with_reducible refine (spec_SpaceOf.calls k _ _ l0 (⟨#[]⟩ : ByteArray) t121 t122 _ ?side1 ?side2 A6.out).mono ?_); (case side1 => repeat (first | exact HR0.out | (with_reducible refine Kd.C_alloc ?_ _) | (with_reducible refine Kd.C_drewN ?_ _) | (with_reducible refine Kd.C_drew ?_))); (case side2 => exact HC0.out); rintro e w' ⟨rfl, ⟨nd, rfl⟩⟩; refine ⟨_, rfl, ?_⟩))
        go_ret2
        exact ⟨by first | rfl | (simp; done) | (simp [*]; done), by repeat (first | exact Drawn0.refl _ | apply Drawn0.step)⟩
      · rw [if_neg c7] at H
        have c7b0 : (t121.toList == a1.toList) = false := beq_eq_false_iff_ne.mpr c7
        have c7b1 : (t121.toList != a1.toList) = true := bne_iff_ne.mpr c7
        (first | rw [c7b0] | (simp only [i64_w, i32_w]; rw [c7b0]) | skip)
        have H' := Aside0.mk H
        clear H
        go_wp2_with (first | ((with_reducible refine gate_callee (f := 14) rfl ?_); refine goesL_ (some 16) rfl rfl Try.func14 (by kernel_rfl) rfl #[.slice A0 l0.length c0, .string (⟨#[]⟩ : ByteArray)] rfl (by (try simp only [List.map_toArray, List.map_cons, List.map_nil]); first | done | rfl | (simp only [List.length_drop, List.length_take]; rfl)) ?_; (with_reducible refine (spec_SpaceOf.calls k _ _ l0 (⟨#[]⟩ : ByteArray) t121 t122 _ ?side1 ?side2 A6.out).mono ?_); (case side1 => repeat (first | exact HR0.out | (with_reducible refine Kd.C_alloc ?_ _) | (with_reducible refine Kd.C_drewN ?_ _) | (with_reducible refine Kd.C_drew ?_))); (case side2 => exact HC0.out); rintro e w' ⟨rfl, ⟨nd, rfl⟩⟩; refine ⟨_, rfl, ?_⟩))
        go_meet
        case rel => exact ⟨_, H', ⟨by first | omega | exact Nat.le_refl _⟩, by repeat (first | exact Drawn0.refl _ | apply Drawn0.step)⟩
    · replace c5 := Bool.eq_false_iff.mpr c5
      subst c5
      have H1 : (spec_PreFor.j0 k l0 a1) = some (r1, r2) := by rw [if_neg (show ¬ (false = true) by decide)] at H; exact H
      clear H
      have H := H1
      clear H1
      have H' := Aside0.mk H
      clear H
      go_wp2
      go_meet
      case rel => exact ⟨_, H', ⟨by first | omega | exact Nat.le_refl _⟩, by repeat (first | exact Drawn0.refl _ | apply Drawn0.step)⟩
  case rest =>
    clear HC4
    try clear c1
    try clear c2
    try clear p2
    try clear c5
    try clear c7
    try clear c7b0
    try clear c7b1
    obtain ⟨kq, HA, HJ3, ⟨mc3, rfl⟩⟩ := hcut
    cases kq with
    | zero => exact absurd HA.out (by simp [spec_PreFor.j0])
    | succ kj3 =>
      have H := HA.out
      clear HA
      simp only [spec_PreFor.j0] at H
      have H' := Aside0.mk H
      clear H
      go_wp2
      go_loopg [10] kj3 (fun kq v10 w' => ∃ (x10_2 : Int), v10 = .int .i64 x10_2 ∧ Aside0 (spec_PreFor.l0 kq l0 a1 x10_2 = some (r1, r2)) ∧ Aside0 (kq ≤ kj3) ∧ Drawn0 w w')
      case atStart => exact ⟨(0), (by first | rfl | (simp; done) | (simp [*]; done)), H', ⟨Nat.le_refl _⟩, by repeat (first | exact Drawn0.refl _ | apply Drawn0.step)⟩
      case round =>
        clear H'
        try clear c1
        try clear c2
        try clear p2
        try clear c3
        try clear c5
        try clear c7
        try clear c7b0
        try clear c7b1
        try clear p2
        obtain ⟨x10_2, rfl, HA, HK2, ⟨m2, rfl⟩⟩ := hrel
        cases gk with
        | zero => exact absurd HA.out (by simp [spec_PreFor.l0])
        | succ k2 =>
          have H := HA.out
          clear HA
          simp only [spec_PreFor.l0] at H
          by_cases c8 : x10_2 < (l0.length : Int)
          · rw [if_pos c8] at H
            have c8b0 : decide (x10_2 < (l0.length : Int)) = true := decide_eq_true c8
            clear c8
            by_cases c9 : 0 ≤ x10_2
            · rw [if_pos c9] at H
              have c9b0 : decide (0 ≤ x10_2) = true := decide_eq_true c9
              clear c9
              by_cases c10 : ((rd_T76 l0 x10_2).f0).toList = ([] : List UInt8)
              · rw [if_pos c10] at H
                have c10b0 : (((rd_T76 l0 x10_2).f0).toList == ([] : List UInt8)) = true := beq_iff_eq.mpr c10
                have c10b1 : (((rd_T76 l0 x10_2).f0).toList != ([] : List UInt8)) = false := bne_eq_false_iff_eq.mpr c10
                clear c10
                have H' := Aside0.mk H
                clear H
                have p123 : 0 ≤ (x10_2 : Int) := of_decide_eq_true (by first | (with_reducible assumption) | assumption)
                have q123 : x10_2 < (l0.length : Int) := of_decide_eq_true (by first | (with_reducible assumption) | assumption)
                obtain ⟨ad123, e123, hx123_0, hx123_1⟩ := at_T76 HR0.out x10_2 p123 q123
                cases e123
                replace p123 := eq_true p123
                replace q123 := eq_true q123
                go_wp2
                go_roundg k2
                case measure => have := HJ3.out; have := HK2.out; omega
                case rel => exact ⟨(wrap64 (x10_2 + 1)), (by first | rfl | (simp; done) | (simp [*]; done)), H', ⟨by have := HJ3.out; have := HK2.out; omega⟩, by repeat (first | exact Drawn0.refl _ | apply Drawn0.step)⟩
              · rw [if_neg c10] at H
                have c10b0 : (((rd_T76 l0 x10_2).f0).toList == ([] : List UInt8)) = false := beq_eq_false_iff_ne.mpr c10
                have c10b1 : (((rd_T76 l0 x10_2).f0).toList != ([] : List UInt8)) = true := bne_iff_ne.mpr c10
                replace H := Option.bind_eq_some_iff.mp H
                obtain ⟨⟨t125, t126⟩, A110, H⟩ := H
                replace H : (if t126 = true then (if t125.toList = a1.toList then (some ((rd_T76 l0 x10_2).f0, true)) else (spec_PreFor.l0 k2 l0 a1 (wrap64 (x10_2 + 1)))) else (spec_PreFor.l0 k2 l0 a1 (wrap64 (x10_2 + 1)))) = some (r1, r2) := H
                have A11 := Aside0.mk A110
                clear A110
                by_cases c12 : t126 = true
                · subst c12
                  have H1 : (if t125.toList = a1.toList then (some ((rd_T76 l0 x10_2).f0, true)) else (spec_PreFor.l0 k2 l0 a1 (wrap64 (x10_2 + 1)))) = some (r1, r2) := by rw [if_pos rfl] at H; exact H
                  clear H
                  have H := H1
                  clear H1
                  by_cases c13 : t125.toList = a1.toList
                  · rw [if_pos c13] at H
                    have c13b0 : (t125.toList == a1.toList) = true := beq_iff_eq.mpr c13
                    have c13b1 : (t125.toList != a1.toList) = false := bne_eq_false_iff_eq.mpr c13
                    clear c13
                    simp only [Option.some.injEq, Prod.mk.injEq] at H
                    obtain ⟨rfl, rfl⟩ := H
                    have p123 : 0 ≤ (x10_2 : Int) := of_decide_eq_true (by first | (with_reducible assumption) | assumption)
                    have q123 : x10_2 < (l0.length : Int) := of_decide_eq_true (by first | (with_reducible assumption) | assumption)
                    obtain ⟨ad123, e123, hx123_0, hx123_1⟩ := at_T76 HR0.out x10_2 p123 q123
                    cases e123
                    replace p123 := eq_true p123
                    replace q123 := eq_true q123
                    have p124 : 0 ≤ (x10_2 : Int) := of_decide_eq_true (by first | (with_reducible assumption) | assumption)
                    have q124 : x10_2 < (l0.length : Int) := of_decide_eq_true (by first | (with_reducible assumption) | assumption)
                    obtain ⟨ad124, e124, hx124_0, hx124_1⟩ := at_T76 HR0.out x10_2 p124 q124
                    obtain rfl : ad123 = ad124 := (by injection e124)
                    replace p124 := eq_true p124
                    replace q124 := eq_true q124
                    go_wp2_with (first | ((with_reducible refine gate_callee (f := 14) rfl ?_); refine goesL_ (some 41) rfl rfl Try.func14 (by kernel_rfl) rfl #[.slice (some ad123) l0.length c0, .string ((rd_T76 l0 x10_2).f0)] rfl (by (try simp only [List.map_toArray, List.map_cons, List.map_nil]); first | done | rfl | (simp only [List.length_drop, List.length_take]; rfl)) ?_; (with_reducible refine (spec_SpaceOf.calls k2 _ _ l0 ((rd_T76 l0 x10_2).f0) t125 true _ ?side1 ?side2 A11.out).mono ?_); (case side1 => repeat (first | exact HR0.out | (with_reducible refine Kd.C_alloc ?_ _) | (with_reducible refine Kd.C_drewN ?_ _) | (with_reducible refine Kd.C_drew ?_))); (case side2 => exact HC0.out); rintro e w' ⟨rfl, ⟨nd, rfl⟩⟩; refine ⟨_, rfl, ?_⟩; have p127 : 0 ≤ (x10_2 : Int) := of_decide_eq_true (by first | (with_reducible assumption) | assumption); have q127 : x10_2 < (l0.length : Int) := of_decide_eq_true (by first | (with_reducible assumption) | assumption); obtain ⟨ad127, e127, hx127_0, hx127_1⟩ := at_T76 HR0.out x10_2 p127 q127; obtain rfl : ad123 = ad127 := (by injection e127); replace p127 := eq_true p127; replace q127 := eq_true q127))
                    go_ret2
                    exact ⟨by first | rfl | (simp; done) | (simp [*]; done), by repeat (first | exact Drawn0.refl _ | apply Drawn0.step)⟩
                  · rw [if_neg c13] at H
                    have c13b0 : (t125.toList == a1.toList) = false := beq_eq_false_iff_ne.mpr c13
                    have c13b1 : (t125.toList != a1.toList) = true := bne_iff_ne.mpr c13
                    have H' := Aside0.mk H
                    clear H
                    have p123 : 0 ≤ (x10_2 : Int) := of_decide_eq_true (by first | (with_reducible assumption) | assumption)
                    have q123 : x10_2 < (l0.length : Int) := of_decide_eq_true (by first | (with_reducible assumption) | assumption)
                    obtain ⟨ad123, e123, hx123_0, hx123_1⟩ := at_T76 HR0.out x10_2 p123 q123
                    cases e123
                    replace p123 := eq_true p123
                    replace q123 := eq_true q123
                    have p124 : 0 ≤ (x10_2 : Int) := of_decide_eq_true (by first | (with_reducible assumption) | assumption)
                    have q124 : x10_2 < (l0.length : Int) := of_decide_eq_true (by first | (with_reducible assumption) | assumption)
                    obtain ⟨ad124, e124, hx124_0, hx124_1⟩ := at_T76 HR0.out x10_2 p124 q124
                    obtain rfl : ad123 = ad124 := (by injection e124)
                    replace p124 := eq_true p124
                    replace q124 := eq_true q124
                    go_wp2_with (first | ((with_reducible refine gate_callee (f := 14) rfl ?_); refine goesL_ (some 41) rfl rfl Try.func14 (by kernel_rfl) rfl #[.slice (some ad123) l0.length c0, .string ((rd_T76 l0 x10_2).f0)] rfl (by (try simp only [List.map_toArray, List.map_cons, List.map_nil]); first | done | rfl | (simp only [List.length_drop, List.length_take]; rfl)) ?_; (with_reducible refine (spec_SpaceOf.calls k2 _ _ l0 ((rd_T76 l0 x10_2).f0) t125 true _ ?side1 ?side2 A11.out).mono ?_); (case side1 => repeat (first | exact HR0.out | (with_reducible refine Kd.C_alloc ?_ _) | (with_reducible refine Kd.C_drewN ?_ _) | (with_reducible refine Kd.C_drew ?_))); (case side2 => exact HC0.out); rintro e w' ⟨rfl, ⟨nd, rfl⟩⟩; refine ⟨_, rfl, ?_⟩))
                    go_roundg k2
                    case measure => have := HJ3.out; have := HK2.out; omega
                    case rel => exact ⟨(wrap64 (x10_2 + 1)), (by first | rfl | (simp; done) | (simp [*]; done)), H', ⟨by have := HJ3.out; have := HK2.out; omega⟩, by repeat (first | exact Drawn0.refl _ | apply Drawn0.step)⟩
                · replace c12 := Bool.eq_false_iff.mpr c12
                  subst c12
                  have H1 : (spec_PreFor.l0 k2 l0 a1 (wrap64 (x10_2 + 1))) = some (r1, r2) := by rw [if_neg (show ¬ (false = true) by decide)] at H; exact H
                  clear H
                  have H := H1
                  clear H1
                  have H' := Aside0.mk H
                  clear H
                  have p123 : 0 ≤ (x10_2 : Int) := of_decide_eq_true (by first | (with_reducible assumption) | assumption)
                  have q123 : x10_2 < (l0.length : Int) := of_decide_eq_true (by first | (with_reducible assumption) | assumption)
                  obtain ⟨ad123, e123, hx123_0, hx123_1⟩ := at_T76 HR0.out x10_2 p123 q123
                  cases e123
                  replace p123 := eq_true p123
                  replace q123 := eq_true q123
                  have p124 : 0 ≤ (x10_2 : Int) := of_decide_eq_true (by first | (with_reducible assumption) | assumption)
                  have q124 : x10_2 < (l0.length : Int) := of_decide_eq_true (by first | (with_reducible assumption) | assumption)
                  obtain ⟨ad124, e124, hx124_0, hx124_1⟩ := at_T76 HR0.out x10_2 p124 q124
                  obtain rfl : ad123 = ad124 := (by injection e124)
                  replace p124 := eq_true p124
                  replace q124 := eq_true q124
                  go_wp2_with (first | ((with_reducible refine gate_callee (f := 14) rfl ?_); refine goesL_ (some 41) rfl rfl Try.func14 (by kernel_rfl) rfl #[.slice (some ad123) l0.length c0, .string ((rd_T76 l0 x10_2).f0)] rfl (by (try simp only [List.map_toArray, List.map_cons, List.map_nil]); first | done | rfl | (simp only [List.length_drop, List.length_take]; rfl)) ?_; (with_reducible refine (spec_SpaceOf.calls k2 _ _ l0 ((rd_T76 l0 x10_2).f0) t125 false _ ?side1 ?side2 A11.out).mono ?_); (case side1 => repeat (first | exact HR0.out | (with_reducible refine Kd.C_alloc ?_ _) | (with_reducible refine Kd.C_drewN ?_ _) | (with_reducible refine Kd.C_drew ?_))); (case side2 => exact HC0.out); rintro e w' ⟨rfl, ⟨nd, rfl⟩⟩; refine ⟨_, rfl, ?_⟩))
                  go_roundg k2
                  case measure => have := HJ3.out; have := HK2.out; omega
                  case rel => exact ⟨(wrap64 (x10_2 + 1)), (by first | rfl | (simp; done) | (simp [*]; done)), H', ⟨by have := HJ3.out; have := HK2.out; omega⟩, by repeat (first | exact Drawn0.refl _ | apply Drawn0.step)⟩
            · rw [if_neg c9] at H
              exact absurd H (by simp)
          · rw [if_neg c8] at H
            have c8b0 : decide (x10_2 < (l0.length : Int)) = false := decide_eq_false c8
            clear c8
            simp only [Option.some.injEq, Prod.mk.injEq] at H
            obtain ⟨rfl, rfl⟩ := H
            go_wp2
            go_ret2
            exact ⟨by first | rfl | (simp; done) | (simp [*]; done), by repeat (first | exact Drawn0.refl _ | apply Drawn0.step)⟩

/-! ### impl_SpaceOf: function 16 -/
def impl_SpaceOf.enc (l0 : List S76) (i : Nat) : Array Value := #[.int .i64 (i : Int), .agg #[.string (rd_T76 l0 (i : Int)).f0, .string (rd_T76 l0 (i : Int)).f1]]
/-- What has come when k rounds are over: the last places, from the end. -/
def impl_SpaceOf.came (n k : Nat) : List Nat := (List.range k).map fun t => n - 1 - t
theorem impl_SpaceOf.came_succ (n k : Nat) : impl_SpaceOf.came n (k + 1) = impl_SpaceOf.came n k ++ [n - 1 - k] := by simp [impl_SpaceOf.came, List.range_succ]
theorem impl_SpaceOf.came_length (n k : Nat) : (impl_SpaceOf.came n k).length = k := by simp [impl_SpaceOf.came]
attribute [local go_sem] Oper.semAt_some
set_option maxRecDepth 100000 in
set_option maxHeartbeats 4000000 in
theorem impl_SpaceOf.back1_in (F : Fence) (n : Nat) (hf : F.fn 89) (hro : F.round = none) (hn : 1 ≤ n) (l Bs : Nat) (w0 : World) (A0 : Option Addr) (c0 : Nat) (l0 : List S76)
    (hr : Kd.C k76 w0 A0 l0.length l0) (hl0 : l0.length ≤ 9223372036854775807) (J Jx : List Nat → World → Prop)
    (hY : ∀ pre x W, J pre W → pre.length < l0.length → YieldAt F (n - 1) Try.prog l (impl_SpaceOf.enc l0 x) W fun e W' =>
      (e = .returned (.bool true) ∧ J (pre ++ [x]) W' ∧ Below w0.heap.size W W') ∨ (e = .returned (.bool false) ∧ Jx (pre ++ [x]) W'))
    (hBs : w0.cell? ⟨Bs, 0, none⟩ = some (.slice A0 l0.length c0)) (W : World) (hW : Below w0.heap.size w0 W) (h0 : J [] W) :
    CallsIn F n Try.prog 89 #[.func (.yield l) #[] #[], .pointer (some ⟨Bs, 0, none⟩)] W fun e W' => (∃ v, e = .returned v) ∧
      ((∃ ys, ys = impl_SpaceOf.came l0.length l0.length ∧ J ys W') ∨ (∃ pre, (∃ k, k ≤ l0.length ∧ pre = impl_SpaceOf.came l0.length k) ∧ Jx pre W')) := by
  have hu := Try.underlying76
  have HR := Aside0.mk hr
  have HBs := Aside0.mk hBs
  have hcB : W.cell? ⟨Bs, 0, none⟩ = some (.slice A0 l0.length c0) := (hW.cell (p := ⟨Bs, 0, none⟩) (World.block_lt_of_cell? w0 _ hBs)).trans hBs
  clear hr hBs
  have e0 : wrap64 ((l0.length : Int) - 1) = (l0.length : Int) - 1 := by unfold wrap64; omega
  refine callsIn_of_wp Try.func89 rfl hf ?_ hro
  simp only [Try.ntmps89, List.size_toArray, List.length_cons, List.length_nil, Nat.reduceAdd, Nat.reduceSub, Array.replicate_succ, Array.replicate_zero, List.push_toArray, List.append_toArray, List.nil_append, List.cons_append]
  gi_wp2
  gi_loopw [3] (fun i wr => ∃ k : Nat, k ≤ l0.length ∧ i = .int .i64 ((l0.length : Int) - 1 - k) ∧ J (impl_SpaceOf.came l0.length k) wr ∧ Below w0.heap.size w0 wr)
    (fun i _ => (intOf i + 1).toNat)
  case atStart => exact ⟨0, Nat.zero_le _, by simp [e0], h0, hW⟩
  case round =>
    obtain ⟨k, hk, rfl, hJs, hnx⟩ := hrel
    have hcB' : wr.cell? ⟨Bs, 0, none⟩ = some (.slice A0 l0.length c0) := (hnx.cell (p := ⟨Bs, 0, none⟩) (World.block_lt_of_cell? w0 _ HBs.out)).trans HBs.out
    clear hcB
    by_cases hlt : k < l0.length
    · obtain ⟨fn, tmps, assign, body, hy, hR⟩ := hY _ (l0.length - 1 - k) wr hJs (by rw [impl_SpaceOf.came_length]; exact hlt)
      have ei : (l0.length : Int) - 1 - k = ((l0.length - 1 - k : Nat) : Int) := by omega
      unfold impl_SpaceOf.enc at hy
      rw [ei]
      obtain ⟨ad, ead, z0, z1⟩ := at_T76 (Kd.C_below HR.out hnx) ((l0.length - 1 - k : Nat) : Int) (by omega) (by omega)
      simp only [Int.toNat_natCast] at z0 z1
      cases ead
      have hgz : ¬ ((l0.length - 1 - k : Nat) : Int) < 0 := by omega
      have hltz : ((l0.length - 1 - k : Nat) : Int) < (l0.length : Int) := by omega
      have hge : (0 : Int) ≤ ((l0.length - 1 - k : Nat) : Int) := by omega
      have edec : wrap64 (((l0.length - 1 - k : Nat) : Int) - 1) = (l0.length : Int) - 1 - ((k + 1 : Nat) : Int) := by unfold wrap64; omega
      generalize hd : rd_T76 l0 ((l0.length - 1 - k : Nat) : Int) = d at hy z0 z1
      have HD := Aside0.mk hd
      clear hd
      gi_wp2
      refine hR.mono ?_
      rintro e W3 (⟨rfl, hJ3, hk3⟩ | ⟨rfl, hJx3⟩)
      · gi_wp2
        go_roundw
        case rel => exact ⟨k + 1, by omega, congrArg (Value.int IntKind.i64) (by omega), by rw [impl_SpaceOf.came_succ]; exact hJ3, hnx.trans hk3⟩
        case measure => simp [intOf]; try omega
      · gi_wp2
        refine bodyPost_ret (results_none rfl _ _ _) rfl ?_
        exact ⟨⟨_, rfl⟩, .inr ⟨_, ⟨k + 1, by omega, (impl_SpaceOf.came_succ _ _).symm⟩, hJx3⟩⟩
    · obtain rfl : k = l0.length := by omega
      have hgz : (l0.length : Int) - 1 - l0.length < 0 := by omega
      gi_wp2
      go_end0
      exact ⟨⟨_, rfl⟩, .inl ⟨_, rfl, hJs⟩⟩
set_option maxHeartbeats 1000000 in
theorem impl_SpaceOf.back_in (F : Fence) (n : Nat) (hf : F.fn 57) (hro : F.round = none) (a : Option Addr) (len cap : Nat) (w : World) :
    CallsIn F n Try.prog 57 #[.slice a len cap] w fun e w' => e = .returned (.func (.func 89) #[] #[.pointer (some ⟨w.heap.size, 0, none⟩)]) ∧ w' = w.alloc (.cells #[.slice a len cap] 26) := by
  refine callsIn_of_wp Try.func57 rfl hf ?_ hro
  simp only [Try.ntmps57, List.size_toArray, List.length_cons, List.length_nil, Nat.reduceAdd, Nat.reduceSub, Array.replicate_succ, Array.replicate_zero, List.push_toArray, List.append_toArray, List.nil_append, List.cons_append]
  gi_wp2
  go_ret
  exact ⟨rfl, rfl⟩
theorem impl_SpaceOf.back_stops (F : Fence) (n : Nat) (hf : F.fn 89) (hro : F.round = none) (hn : 1 ≤ n) (Bs : Nat) (w0 : World) (A0 : Option Addr) (c0 : Nat) (l0 : List S76)
    (hr : Kd.C k76 w0 A0 l0.length l0) (hl0 : l0.length ≤ 9223372036854775807) (hBs : w0.cell? ⟨Bs, 0, none⟩ = some (.slice A0 l0.length c0)) :
    SeqStopsK F n Try.prog 89 #[.pointer (some ⟨Bs, 0, none⟩)] (impl_SpaceOf.enc l0) (Below w0.heap.size) (fun ys => ys = impl_SpaceOf.came l0.length l0.length) (fun pre => ∃ k, k ≤ l0.length ∧ pre = impl_SpaceOf.came l0.length k) l0.length w0 :=
  fun l J Jx W hW _ _ hY h0 => impl_SpaceOf.back1_in F n hf hro hn l Bs w0 A0 c0 l0 hr hl0 J Jx hY hBs W hW h0
/-- A struct's block. -/
def impl_SpaceOf.Two (W : World) (B : Nat) (a b : Value) : Prop := W.heap[B]? = some (.cells #[a, b] 76 (0, 0))
theorem impl_SpaceOf.Two.cells {W : World} {B : Nat} {a b : Value} (h : impl_SpaceOf.Two W B a b) : W.cell? ⟨B, 0, none⟩ = some a ∧ W.cell? ⟨B, 1, none⟩ = some b := ⟨by simp [World.cell?, show W.heap[B]? = _ from h], by simp [World.cell?, show W.heap[B]? = _ from h]⟩
theorem impl_SpaceOf.Two.kept {W W' : World} {row : Option Nat} {B : Nat} {a b : Value} (h : impl_SpaceOf.Two W B a b) (hg : W.grownBy W' row) (hne : some B ≠ row) : impl_SpaceOf.Two W' B a b := (hg.block B (Array.getElem?_eq_some_iff.1 h).1 hne).trans h
def impl_SpaceOf.f (l0 : List S76) (a1 : ByteArray) : Option (ByteArray × Bool) :=
  match l0.reverse.find? (fun d => d.f0.toList == a1.toList) with
  | some d => some (d.f1, true)
  | none => some (⟨#[]⟩, a1.toList == [])
theorem impl_SpaceOf.rd_in (l0 : List S76) (i : Nat) (h : i < l0.length) : rd_T76 l0 (i : Int) = l0[i] := by simp [rd_T76, List.getD_eq_getElem?_getD, List.getElem?_eq_getElem h]
theorem impl_SpaceOf.f_hit (l0 : List S76) (a1 : ByteArray) (k : Nat) (pre : List Nat) (x : Nat) (h : pre ++ [x] = impl_SpaceOf.came l0.length k) (hk : k ≤ l0.length) (hno : ∀ y ∈ pre, ¬ (rd_T76 l0 ((y : Nat) : Int)).f0.toList = a1.toList) (he : (rd_T76 l0 ((x : Nat) : Int)).f0.toList = a1.toList) :
    impl_SpaceOf.f l0 a1 = some ((rd_T76 l0 ((x : Nat) : Int)).f1, true) := by
  cases k with
  | zero => simp [impl_SpaceOf.came] at h
  | succ m =>
    rw [impl_SpaceOf.came_succ] at h
    obtain ⟨h1, h2⟩ := List.append_inj' h rfl
    obtain rfl : x = l0.length - 1 - m := by simpa using h2
    subst h1
    have hf : l0.reverse.find? (fun d => d.f0.toList == a1.toList) = some (rd_T76 l0 ((l0.length - 1 - m : Nat) : Int)) := by
      refine List.find?_eq_some_iff_getElem.2 ⟨by simpa using he, m, by simp; omega, ?_, fun j hj => ?_⟩
      · rw [List.getElem_reverse, impl_SpaceOf.rd_in l0 _ (by omega)]
      · rw [List.getElem_reverse, ← impl_SpaceOf.rd_in l0 _ (by omega)]
        have := hno (l0.length - 1 - j) (by unfold impl_SpaceOf.came; exact List.mem_map.2 ⟨j, by simpa using hj, rfl⟩)
        simpa using this
    unfold impl_SpaceOf.f
    rw [hf]
theorem impl_SpaceOf.f_miss (l0 : List S76) (a1 : ByteArray) (hno : ∀ y ∈ impl_SpaceOf.came l0.length l0.length, ¬ (rd_T76 l0 ((y : Nat) : Int)).f0.toList = a1.toList) :
    impl_SpaceOf.f l0 a1 = some (⟨#[]⟩, a1.toList.isEmpty) := by
  have hf : l0.reverse.find? (fun d => d.f0.toList == a1.toList) = none := by
    refine List.find?_eq_none.2 (fun d hd => ?_)
    obtain ⟨i, hi, rfl⟩ := List.getElem_of_mem (List.mem_reverse.1 hd)
    have := hno i (by unfold impl_SpaceOf.came; exact List.mem_map.2 ⟨l0.length - 1 - i, by simp; omega, by omega⟩)
    rw [impl_SpaceOf.rd_in l0 i hi] at this
    simpa using this
  unfold impl_SpaceOf.f
  rw [hf]
  cases a1.toList <;> rfl
set_option maxRecDepth 100000 in
set_option maxHeartbeats 4000000 in
theorem impl_SpaceOf.in_ (F : Fence) (n : Nat) (hf : F.fn 16) (hf1 : F.fn 57) (hf2 : F.fn 89) (hro : F.round = none) (hn : 6 ≤ n) (A0 : Option Addr) (c0 : Nat) (l0 : List S76) (a1 : ByteArray) (w : World) (hr : Kd.C k76 w A0 l0.length l0) :
    CallsIn F n Try.prog 16 #[.slice A0 l0.length c0, .string a1] w fun e W' => (∃ r1 r2, impl_SpaceOf.f l0 a1 = some (r1, r2) ∧ e = .returned (.tuple #[.string r1, .bool r2])) ∧ Below w.heap.size w W' := by
  have h1 : 1 ≤ n := by omega
  refine callsIn_of_wp_marks Try.func16 rfl hf ?_ hro
  simp only [Try.ntmps16, List.size_toArray, List.length_cons, List.length_nil, Nat.reduceAdd, Nat.reduceSub, Array.replicate_succ, Array.replicate_zero, List.push_toArray, List.append_toArray, List.nil_append, List.cons_append]
  gi_wp2_with (gi_at_call 57; refine (impl_SpaceOf.back_in F (n - 1) hf1 hro _ _ _ _).mono ?_; rintro e w' ⟨rfl, rfl⟩)
  have bP := ((Boxed.new w 9 (.string a1)).alloc (.cells #[.string (⟨#[]⟩ : ByteArray)] 9)).alloc (.cells #[.bool false] 4) |>.alloc (.cells #[.slice A0 l0.length c0] 26)
  have bR := ((Boxed.new (w.alloc (.cells #[.string a1] 9)) 9 (.string (⟨#[]⟩ : ByteArray))).alloc (.cells #[.bool false] 4)).alloc (.cells #[.slice A0 l0.length c0] 26)
  have bK := (Boxed.new ((w.alloc (.cells #[.string a1] 9)).alloc (.cells #[.string (⟨#[]⟩ : ByteArray)] 9)) 4 (.bool false)).alloc (.cells #[.slice A0 l0.length c0] 26)
  have bS := Boxed.new (((w.alloc (.cells #[.string a1] 9)).alloc (.cells #[.string (⟨#[]⟩ : ByteArray)] 9)).alloc (.cells #[.bool false] 4)) 26 (.slice A0 l0.length c0)
  simp only [World.size_alloc] at bR bK bS
  have hB0 : Below w.heap.size w ((((w.alloc (.cells #[.string a1] 9)).alloc (.cells #[.string (⟨#[]⟩ : ByteArray)] 9)).alloc (.cells #[.bool false] 4)).alloc (.cells #[.slice A0 l0.length c0] 26)) := below_alloc (below_alloc (below_alloc (below_alloc (Below.refl _ w) _) _) _) _
  have hsz : ((((w.alloc (.cells #[.string a1] 9)).alloc (.cells #[.string (⟨#[]⟩ : ByteArray)] 9)).alloc (.cells #[.bool false] 4)).alloc (.cells #[.slice A0 l0.length c0] 26)).heap.size = w.heap.size + 4 := by simp
  obtain ⟨W0, hW0⟩ : ∃ W0, ((((w.alloc (.cells #[.string a1] 9)).alloc (.cells #[.string (⟨#[]⟩ : ByteArray)] 9)).alloc (.cells #[.bool false] 4)).alloc (.cells #[.slice A0 l0.length c0] 26)) = W0 := ⟨_, rfl⟩
  rw [hW0] at bP bR bK bS hB0 hsz ⊢
  clear hW0
  have hr0 := Kd.C_below hr hB0
  refine wpIn_rangeFunc_ownH hro h1 (gf := 89) (lb := #[.pointer (some ⟨w.heap.size + 1 + 1 + 1, 0, none⟩)]) rfl hf2 (enters_of Try.func89 (by kernel_rfl) rfl)
    (impl_SpaceOf.back_stops F (n - 1) hf2 hro (by omega) (w.heap.size + 1 + 1 + 1) W0 A0 c0 l0 hr0 hr0.2.1 bS.cell) belowK_t (belowK_b (Nat.le_refl _)) (Below.refl _ _) (fun _ => rfl)
    (fun pre W => ((((∀ x ∈ pre, ¬ (rd_T76 l0 ((x : Nat) : Int)).f0.toList = a1.toList) ∧ Boxed W w.heap.size 9 (.string a1)) ∧ Boxed W (w.heap.size + 1) 9 (.string (⟨#[]⟩ : ByteArray))) ∧ Boxed W (w.heap.size + 1 + 1) 4 (.bool false)) ∧ Below W0.heap.size W0 W)
    (fun c pre W => (((c = .ret ∧ ∃ pre' x, pre = pre' ++ [x] ∧ (∀ y ∈ pre', ¬ (rd_T76 l0 ((y : Nat) : Int)).f0.toList = a1.toList) ∧ (rd_T76 l0 ((x : Nat) : Int)).f0.toList = a1.toList) ∧ Boxed W (w.heap.size + 1) 9 (.string (rd_T76 l0 ((pre.getLastD 0 : Nat) : Int)).f1)) ∧ Boxed W (w.heap.size + 1 + 1) 4 (.bool true)) ∧ Below w.heap.size w W)
    (OwnFrom.and (OwnFrom.and (OwnFrom.and (OwnFrom.and (ownFrom_pure _ _) (Own.from (boxed_own _ _ _) _)) (Own.from (boxed_own _ _ _) _)) (Own.from (boxed_own _ _ _) _)) (ownFrom_below (Nat.le_refl _) (Nat.le_refl _)))
    (fun c => OwnFrom.and (OwnFrom.and (OwnFrom.and (ownFrom_pure _ _) (Own.from (boxed_own _ _ _) _)) (Own.from (boxed_own _ _ _) _)) (ownFrom_below (Nat.le_refl _) (by omega)))
    ⟨⟨⟨⟨by simp, bP⟩, bR⟩, bK⟩, Below.refl _ _⟩
    (fun x a' W => ∃ Bx, W0.heap.size ≤ Bx ∧ impl_SpaceOf.Two W Bx (.string (rd_T76 l0 ((x : Nat) : Int)).f0) (.string (rd_T76 l0 ((x : Nat) : Int)).f1) ∧ a' = { tmps := #[.slice A0 l0.length c0, .string a1, undef, .pointer (some ⟨w.heap.size, 0, none⟩), .pointer (some ⟨w.heap.size + 1, 0, none⟩), .pointer (some ⟨w.heap.size + 1 + 1, 0, none⟩), undef, .pointer (some ⟨Bx, 0, none⟩), .slice A0 l0.length c0, .func (.func 89) #[] #[.pointer (some ⟨w.heap.size + 1 + 1 + 1, 0, none⟩)], .int .i64 (x : Int), .agg #[.string (rd_T76 l0 ((x : Nat) : Int)).f0, .string (rd_T76 l0 ((x : Nat) : Int)).f1], undef, undef, undef, undef, undef, undef, undef, undef], defers := [] })
    (fun x a' _ X Y row hs hg hr => by
      obtain ⟨Bx, e1, e2, e3⟩ := hs
      exact ⟨Bx, e1, e2.kept hg (fun e' => by obtain ⟨_, o, ho, hc⟩ := hr Bx e'.symm; rw [show X.heap[Bx]? = _ from e2] at ho; cases ho; cases hc), e3⟩)
    ?assign ?body ?done ?stop
  case assign =>
    rintro l pre x W K ⟨⟨⟨⟨hp, bP1⟩, bR1⟩, bK1⟩, hB1⟩ hK
    unfold impl_SpaceOf.enc
    gi_wp2
    exact hK _ _ ((KeepsOthers.alloc _ _).from _) ((Below.refl _ W).alloc hB1.size _) ⟨⟨⟨⟨hp, bP1.alloc _⟩, bR1.alloc _⟩, bK1.alloc _⟩, hB1.alloc hB1.size _⟩ ⟨W.heap.size, hB1.size, World.alloc_heap_new W _, rfl⟩
  case body =>
    rintro l pre x a' W hl ⟨r, hr'⟩ ⟨⟨⟨⟨hp, bP1⟩, bR1⟩, bK1⟩, hB1⟩ ⟨Bx, hBx, bX, rfl⟩ hlt
    have cP := bP1.cell
    obtain ⟨cX0, cX1⟩ := bX.cells
    have cR := bR1.cell
    have fR := bR1.frozen
    have cK := bK1.cell
    have fK := bK1.frozen
    have hu := Try.underlying76
    by_cases he : (rd_T76 l0 ((x : Nat) : Int)).f0.toList = a1.toList
    · have heb : ((rd_T76 l0 ((x : Nat) : Int)).f0.toList == a1.toList) = true := beq_iff_eq.2 he
      gi_wp2
      have hBw : Below w.heap.size w W := hB0.trans (hB1.mono hB0.size)
      refine ⟨((KeepsOthers.setCell _ _ _).from _).trans ((KeepsOthers.setCell _ _ _).from _), ⟨⟨⟨rfl, pre, x, rfl, hp, he⟩, ?_⟩, ?_⟩, (hBw.setCell (p := ⟨w.heap.size + 1, 0, none⟩) (by simp) _).setCell (p := ⟨w.heap.size + 1 + 1, 0, none⟩) (by simp; omega) _⟩
      · have hlast : (pre ++ [x]).getLastD 0 = x := by simp
        rw [hlast]
        exact (bR1.set _).other (by omega) _
      · exact (bK1.other (by omega) _).set _
    · have heb : ((rd_T76 l0 ((x : Nat) : Int)).f0.toList == a1.toList) = false := beq_eq_false_iff_ne.2 he
      gi_wp2
      exact ⟨KeepsFrom.refl _ _, Below.refl _ _, ⟨⟨⟨fun y hy => (List.mem_append.1 hy).elim (hp y) (fun e => by simp at e; subst e; exact he), bP1⟩, bR1⟩, bK1⟩, hB1⟩
  case done =>
    rintro D zs W hD rfl ⟨⟨⟨⟨hp, bP1⟩, bR1⟩, bK1⟩, hB1⟩ hK
    have cP := bP1.cell
    have cR := bR1.cell
    have fR := bR1.frozen
    have cK := bK1.cell
    have fK := bK1.frozen
    gi_wp2
    gi_region
    all_goals gi_wp2
    all_goals
      have hK' : (((W.setCell ⟨w.heap.size + 1, 0, none⟩ (.string (⟨#[]⟩ : ByteArray))).setCell ⟨w.heap.size + 1 + 1, 0, none⟩ (.bool a1.toList.isEmpty)).drew).heap[D]? = some (.deferred (some [])) := ((KeepsOthers.setCell _ _ _).from 0).same D _ (Nat.zero_le _) (((KeepsOthers.setCell _ _ _).from 0).same D _ (Nat.zero_le _) hK rfl) rfl
      refine ⟨by simp, .inl ⟨_, _, rfl, run_takeDeferred hK', ?_⟩⟩
      have hb1 : Boxed ((W.setCell ⟨w.heap.size + 1, 0, none⟩ (.string (⟨#[]⟩ : ByteArray))).setCell ⟨w.heap.size + 1 + 1, 0, none⟩ (.bool a1.toList.isEmpty)) (w.heap.size + 1) 9 (.string (⟨#[]⟩ : ByteArray)) := (bR1.set _).other (by omega) _
      have hb2 : Boxed ((W.setCell ⟨w.heap.size + 1, 0, none⟩ (.string (⟨#[]⟩ : ByteArray))).setCell ⟨w.heap.size + 1 + 1, 0, none⟩ (.bool a1.toList.isEmpty)) (w.heap.size + 1 + 1) 4 (.bool a1.toList.isEmpty) := (bK1.other (by omega) _).set _
      have hc1 := cell_kept (show World.cell? (((W.setCell ⟨w.heap.size + 1, 0, none⟩ (.string (⟨#[]⟩ : ByteArray))).setCell ⟨w.heap.size + 1 + 1, 0, none⟩ (.bool a1.toList.isEmpty)).drew) ⟨w.heap.size + 1, 0, none⟩ = _ from hb1.cell) (grownBy_putObj' _ D (.deferred none)) (fun r e => by cases e; exact ⟨_, hK', rfl⟩)
      have hc2 := cell_kept (show World.cell? (((W.setCell ⟨w.heap.size + 1, 0, none⟩ (.string (⟨#[]⟩ : ByteArray))).setCell ⟨w.heap.size + 1 + 1, 0, none⟩ (.bool a1.toList.isEmpty)).drew) ⟨w.heap.size + 1 + 1, 0, none⟩ = _ from hb2.cell) (grownBy_putObj' _ D (.deferred none)) (fun r e => by cases e; exact ⟨_, hK', rfl⟩)
      have hBw : Below w.heap.size w W := hB0.trans (hB1.mono hB0.size)
      refine ⟨.tuple #[.string (⟨#[]⟩ : ByteArray), .bool a1.toList.isEmpty], ?_, ⟨⟨_, _, impl_SpaceOf.f_miss l0 a1 hp, rfl⟩, ?_⟩⟩
      · simp [results, Try.f16, go_sem, hc1, hc2]
      · exact (below_drew ((hBw.setCell (p := ⟨w.heap.size + 1, 0, none⟩) (by simp) _).setCell (p := ⟨w.heap.size + 1 + 1, 0, none⟩) (by simp; omega) _)).trans (belowK_b (w := w) (Nat.le_refl _) _ D _ _ (by omega) hK' rfl rfl)
  case stop =>
    rintro D c pre W hD hpre ⟨⟨⟨⟨rfl, pre', x, rfl, hno, he⟩, bR1⟩, bK1⟩, hB1⟩ hK
    gi_wp2
    refine ⟨by simp, .inl ⟨_, _, rfl, run_takeDeferred hK, ?_⟩⟩
    have hc1 := cell_kept bR1.cell (grownBy_putObj' _ D (.deferred none)) (fun r e => by cases e; exact ⟨_, hK, rfl⟩)
    have hc2 := cell_kept bK1.cell (grownBy_putObj' _ D (.deferred none)) (fun r e => by cases e; exact ⟨_, hK, rfl⟩)
    refine ⟨.tuple #[.string (rd_T76 l0 ((x : Nat) : Int)).f1, .bool true], ?_, ⟨⟨_, _, ?_, rfl⟩, ?_⟩⟩
    · have hlast : (pre' ++ [x]).getLastD 0 = x := by simp
      rw [hlast] at hc1
      simp [results, Try.f16, go_sem, hc1, hc2]
    · obtain ⟨k, hk, hcame⟩ := hpre
      exact impl_SpaceOf.f_hit l0 a1 k pre' x hcame hk hno he
    · exact hB1.trans (belowK_b (w := w) (Nat.le_refl _) W D _ _ (by omega) hK rfl rfl)
theorem impl_SpaceOf.calls (A0 : Option Addr) (c0 : Nat) (l0 : List S76) (a1 : ByteArray) (r1 : ByteArray) (r2 : Bool) (w : World) (hr0 : Kd.C k76 w A0 l0.length l0) (hc0 : l0.length ≤ c0) (h : impl_SpaceOf.f l0 a1 = some (r1, r2)) :
    Calls Try.prog 16 #[.slice A0 l0.length c0, .string a1] w fun e w' => e = .returned (.tuple #[.string r1, .bool r2]) ∧ Below w.heap.size w w' := by
  refine ((callsIn_wide (n := 6)).1 (impl_SpaceOf.in_ _ 6 trivial trivial trivial rfl (Nat.le_refl _) A0 c0 l0 a1 w hr0)).mono ?_
  rintro e w' ⟨⟨q1, q2, hq, rfl⟩, hb⟩
  rw [h] at hq
  cases hq
  exact ⟨rfl, hb⟩

/-! ### impl_PreFor: function 23 -/
def impl_PreFor.means (l0 : List S76) (uri pre : ByteArray) : Bool :=
  match impl_SpaceOf.f l0 pre with
  | some r => r.2 && (r.1.toList == uri.toList)
  | none => false
theorem impl_PreFor.space_some (l0 : List S76) (pre : ByteArray) : ∃ s ok, impl_SpaceOf.f l0 pre = some (s, ok) := by
  unfold impl_SpaceOf.f
  split <;> exact ⟨_, _, rfl⟩
set_option maxHeartbeats 1000000 in
theorem impl_PreFor.lit (l0 : List S76) (uri pre : ByteArray) (B1 B2 : Nat) (A0 : Option Addr) (c0 : Nat) (W : World) (hr0 : Kd.C k76 W A0 l0.length l0) (hc0 : l0.length ≤ c0) (h1 : W.cell? ⟨B1, 0, none⟩ = some (.slice A0 l0.length c0)) (h2 : W.cell? ⟨B2, 0, none⟩ = some (.string uri)) :
    Calls Try.prog 61 #[.string pre, .pointer (some ⟨B1, 0, none⟩), .pointer (some ⟨B2, 0, none⟩)] W
      fun e w' => e = .returned (.bool (impl_PreFor.means l0 uri pre)) ∧ Below W.heap.size W w' := by
  obtain ⟨s, ok, hs⟩ := impl_PreFor.space_some l0 pre
  have hS := impl_SpaceOf.calls A0 c0 l0 pre s ok W hr0 hc0 hs
  have hk2 : ∀ w', Below W.heap.size W w' → w'.cell? ⟨B2, 0, none⟩ = some (.string uri) := fun w' hb => pw_cell_below hb h2
  have HK2 := Aside0.mk hk2
  have hu := Try.underlying76
  have hm : impl_PreFor.means l0 uri pre = (ok && (s.toList == uri.toList)) := by
    unfold impl_PreFor.means
    rw [hs]
  rw [hm]
  clear hs hr0 hk2 hm
  cases ok with
  | false =>
    go_enter Try.func61, Try.ntmps61
    go_wp2_with (go_at_call 16; refine hS.mono ?_; rintro e w' ⟨rfl, hb⟩; have hc2 := HK2.out _ hb)
    go_ret
    exact ⟨rfl, hb⟩
  | true =>
    cases hq : s.toList == uri.toList with
    | false =>
      go_enter Try.func61, Try.ntmps61
      go_wp2_with (go_at_call 16; refine hS.mono ?_; rintro e w' ⟨rfl, hb⟩; have hc2 := HK2.out _ hb)
      go_ret
      exact ⟨rfl, hb⟩
    | true =>
      go_enter Try.func61, Try.ntmps61
      go_wp2_with (go_at_call 16; refine hS.mono ?_; rintro e w' ⟨rfl, hb⟩; have hc2 := HK2.out _ hb)
      go_ret
      exact ⟨rfl, hb⟩
def impl_PreFor.p (l0 : List S76) (uri : ByteArray) (d : S76) : Bool := !(d.f0.toList == []) && impl_PreFor.means l0 uri d.f0
def impl_PreFor.f (l0 : List S76) (a1 : ByteArray) (a2 : Bool) : Option (ByteArray × Bool) :=
  if (a2 && impl_PreFor.means l0 a1 ⟨#[]⟩) = true then some (⟨#[]⟩, true) else
  match l0.find? (impl_PreFor.p l0 a1) with
  | some d => some (d.f0, true)
  | none => some (⟨#[]⟩, false)
theorem impl_PreFor.rd_in (l0 : List S76) (i : Nat) (h : i < l0.length) : rd_T76 l0 (i : Int) = l0[i] := by simp [rd_T76, List.getD_eq_getElem?_getD, List.getElem?_eq_getElem h]
theorem impl_PreFor.find_hit (p : S76 → Bool) (l : List S76) (k : Nat) (hk : k < l.length) (hp : p (rd_T76 l (k : Int)) = true) (h : ∀ j : Nat, j < k → p (rd_T76 l (j : Int)) = false) : l.find? p = some (rd_T76 l (k : Int)) := by
  refine List.find?_eq_some_iff_getElem.2 ⟨hp, k, hk, (impl_PreFor.rd_in l k hk).symm, fun j hj => ?_⟩
  rw [← impl_PreFor.rd_in l j (by omega), h j hj]
  rfl
theorem impl_PreFor.find_miss (p : S76 → Bool) (l : List S76) (h : ∀ j : Nat, j < l.length → p (rd_T76 l (j : Int)) = false) : l.find? p = none := by
  refine List.find?_eq_none.2 (fun d hd => ?_)
  obtain ⟨i, hi, rfl⟩ := List.getElem_of_mem hd
  rw [← impl_PreFor.rd_in l i hi, h i hi]
  simp
/-- Where the loop begins. -/
def impl_PreFor.st (w : World) (A0 : Option Addr) (n c0 : Nat) (a1 : ByteArray) (W : World) : Prop := Below w.heap.size w W ∧ W.cell? ⟨w.heap.size, 0, none⟩ = some (.slice A0 n c0) ∧ W.cell? ⟨w.heap.size + 1, 0, none⟩ = some (.string a1)
theorem impl_PreFor.st_below {w W W1 : World} {A0 : Option Addr} {n c0 : Nat} {a1 : ByteArray} (h : impl_PreFor.st w A0 n c0 a1 W) (hb : Below W.heap.size W W1) : impl_PreFor.st w A0 n c0 a1 W1 := ⟨h.1.trans (hb.mono h.1.size), pw_cell_below hb h.2.1, pw_cell_below hb h.2.2⟩
theorem impl_PreFor.st_new (w : World) (A0 : Option Addr) (n c0 : Nat) (a1 : ByteArray) (t t2 : TypeId) : impl_PreFor.st w A0 n c0 a1 ((w.alloc (.cells #[.slice A0 n c0] t)).alloc (.cells #[.string a1] t2)) := by
  refine ⟨below_alloc (below_alloc (Below.refl _ _) _) _, ?_, ?_⟩
  · rw [World.cell?_alloc_past _ _ _ (by simp), World.cell?_alloc_at _ _ _ _ rfl]
    rfl
  · rw [World.cell?_alloc_at _ _ _ _ (by simp)]
    rfl
set_option maxHeartbeats 4000000 in
set_option maxRecDepth 100000 in
theorem impl_PreFor.calls (A0 : Option Addr) (c0 : Nat) (l0 : List (S76)) (a1 : ByteArray) (a2 : Bool) (r1 : ByteArray) (r2 : Bool) (w : World) (hr0 : Kd.C k76 w A0 l0.length l0) (hc0 : l0.length ≤ c0) (h : impl_PreFor.f l0 a1 a2 = some (r1, r2)) :
    Calls Try.prog 23 #[.slice A0 l0.length c0, .string a1, .bool a2] w fun e w' => e = .returned (.tuple #[.string r1, .bool r2]) ∧ Below w.heap.size w w' := by
  have hl0 : l0.length ≤ 9223372036854775807 := hr0.2.1
  have hC := fun (W : World) (pre : ByteArray) (hW : impl_PreFor.st w A0 l0.length c0 a1 W) =>
    impl_PreFor.lit l0 a1 pre _ _ A0 c0 W (Kd.C_below hr0 hW.1) hc0 hW.2.1 hW.2.2
  have hu := Try.underlying76
  have HR0 := Aside0.mk hr0
  have eg : ∀ args w, (callFunc 61 args).run Try.prog w = .ok (.enter 61 args) w := enters_of Try.func61 (by kernel_rfl) rfl
  clear hr0 hc0
  have HM := Aside0.mk hC
  by_cases hb0 : (a2 && impl_PreFor.means l0 a1 ⟨#[]⟩) = true
  · have hf : impl_PreFor.f l0 a1 a2 = some (⟨#[]⟩, true) := by unfold impl_PreFor.f; rw [if_pos hb0]
    rw [hf] at h
    cases h
    have h2 : a2 = true := by cases a2 <;> simp_all
    subst h2
    have hm : impl_PreFor.means l0 a1 ⟨#[]⟩ = true := by simpa using hb0
    have hM := fun W (hW : impl_PreFor.st w A0 l0.length c0 a1 W) => hC W ⟨#[]⟩ hW
    simp only [hm] at hM
    clear hf hm hb0 hC
    go_enter Try.func23, Try.ntmps23
    go_wp2_with (go_at_fn 61; refine (hM _ (impl_PreFor.st_new _ _ _ _ _ _ _)).mono ?_; rintro e w' ⟨rfl, hb⟩)
    exact bodyPost_ret (v := .tuple #[.string ⟨#[]⟩, .bool true]) (by simp [results, Try.results23, go_sem]) rfl ⟨rfl, (impl_PreFor.st_below (impl_PreFor.st_new _ _ _ _ _ _ _) hb).1⟩
  · have hf : impl_PreFor.f l0 a1 a2 = (match l0.find? (impl_PreFor.p l0 a1) with | some d => some (d.f0, true) | none => some (⟨#[]⟩, false)) := by
      unfold impl_PreFor.f
      rw [if_neg hb0]
    rw [hf] at h
    clear hf
    have H := Aside0.mk h
    clear h
    have hM := fun W (hW : impl_PreFor.st w A0 l0.length c0 a1 W) => hC W ⟨#[]⟩ hW
    have hb1 : a2 = true → impl_PreFor.means l0 a1 ⟨#[]⟩ = false := fun e => by subst e; simpa using hb0
    clear hb0
    cases a2 with
    | false =>
      clear hb1 hM
      go_enter Try.func23, Try.ntmps23
      go_wp2
      obtain ⟨W1, hW1⟩ : ∃ W1, W1 = ((w.alloc (.cells #[.slice A0 l0.length c0] 26)).alloc (.cells #[.string a1] 9)) := ⟨_, rfl⟩
      have hst : impl_PreFor.st w A0 l0.length c0 a1 W1 := by rw [hW1]; exact impl_PreFor.st_new _ _ _ _ _ _ _
      rw [← hW1]
      clear hW1 
      have HST := Aside0.mk hst
      clear hst
      go_loopg [19] l0.length (fun gg s19 wr => ∃ kk : Nat, kk ≤ l0.length ∧ l0.length - kk ≤ gg ∧ s19 = .int .i64 kk ∧ Aside0 (impl_PreFor.st w A0 l0.length c0 a1 wr) ∧ Aside0 (∀ j : Nat, j < kk → impl_PreFor.p l0 a1 (rd_T76 l0 (j : Int)) = false))
      case atStart => exact ⟨0, Nat.zero_le _, by omega, rfl, HST, ⟨fun j hj => absurd hj (Nat.not_lt_zero _)⟩⟩
      case round =>
        obtain ⟨kk, hkk, hg, rfl, S, N⟩ := hrel
        by_cases hlt : kk < l0.length
        · have hltz : (kk : Int) < (l0.length : Int) := by omega
          obtain ⟨ad, ead, z0, z1⟩ := at_T76 (Kd.C_below HR0.out S.out.1) (kk : Int) (by omega) (by omega)
          simp only [Int.toNat_natCast] at z0 z1
          cases ead
          have hMk := fun W hW => HM.out W (rd_T76 l0 (kk : Int)).f0 hW
          have hpk : impl_PreFor.p l0 a1 (rd_T76 l0 (kk : Int)) = (!((rd_T76 l0 (kk : Int)).f0.toList == []) && impl_PreFor.means l0 a1 (rd_T76 l0 (kk : Int)).f0) := rfl
          skip
          generalize hd : rd_T76 l0 (kk : Int) = d at z0 z1 hMk hpk
          have HD := Aside0.mk hd
          clear hd
          by_cases he : d.f0.toList = []
          · have hpf : impl_PreFor.p l0 a1 d = false := by rw [hpk, he]; rfl
            have HPF := Aside0.mk hpf
            clear hpf hpk hMk
            go_wp2
            go_roundg (l0.length - (kk + 1))
            case measure => omega
            case rel =>
              refine ⟨kk + 1, by omega, by omega, by go_num, ⟨impl_PreFor.st_below S.out (by repeat (first | exact Below.refl _ _ | apply below_alloc))⟩, ⟨fun j hj => ?_⟩⟩
              by_cases e : j = kk
              · subst e
                rw [HD.out]
                exact HPF.out
              · exact N.out j (by omega)
          · have he2 : (d.f0.toList == []) = false := by simpa using he
            rw [he2] at hpk
            cases hq : impl_PreFor.means l0 a1 d.f0 with
            | false =>
              simp only [hq] at hMk
              rw [hq] at hpk
              have HPF := Aside0.mk hpk
              clear hpk hq
              go_wp2_with (go_at_fn 61; refine (hMk _ (impl_PreFor.st_below S.out (by repeat (first | exact Below.refl _ _ | apply below_alloc)))).mono ?_; rintro e w' ⟨rfl, hb⟩)
              go_roundg (l0.length - (kk + 1))
              case measure => omega
              case rel =>
                refine ⟨kk + 1, by omega, by omega, by go_num, ⟨impl_PreFor.st_below (impl_PreFor.st_below S.out (by repeat (first | exact Below.refl _ _ | apply below_alloc))) hb⟩, ⟨fun j hj => ?_⟩⟩
                by_cases e : j = kk
                · subst e
                  rw [HD.out]
                  exact HPF.out
                · exact N.out j (by omega)
            | true =>
              simp only [hq] at hMk
              rw [hq] at hpk
              have HPF := Aside0.mk hpk
              clear hpk hq
              go_wp2_with (go_at_fn 61; refine (hMk _ (impl_PreFor.st_below S.out (by repeat (first | exact Below.refl _ _ | apply below_alloc)))).mono ?_; rintro e w' ⟨rfl, hb⟩; have hc3 := pw_cell_below hb (show World.cell? (wr.alloc (.cells #[.string d.f0, .string d.f1] 76)) ⟨wr.heap.size, 0, none⟩ = some (.string d.f0) from by rw [World.cell?_alloc_at _ _ _ _ rfl]; rfl))
              have hfin := impl_PreFor.find_hit (impl_PreFor.p l0 a1) l0 kk hlt (by rw [HD.out]; exact HPF.out) N.out
              rw [HD.out] at hfin
              have h := H.out
              rw [hfin] at h
              cases h
              exact bodyPost_ret (v := .tuple #[.string d.f0, .bool true]) (by simp [results, Try.results23, go_sem]) rfl ⟨rfl, (impl_PreFor.st_below (impl_PreFor.st_below S.out (by repeat (first | exact Below.refl _ _ | apply below_alloc))) hb).1⟩
        · have hltz : ¬ (kk : Int) < (l0.length : Int) := by omega
          have : kk = l0.length := by omega
          subst this
          go_wp2
          have h := H.out
          rw [impl_PreFor.find_miss _ _ N.out] at h
          cases h
          exact bodyPost_ret (v := .tuple #[.string ⟨#[]⟩, .bool false]) (by simp [results, Try.results23, go_sem]) rfl ⟨rfl, S.out.1⟩
    | true =>
      simp only [hb1 rfl] at hM
      clear hb1
      go_enter Try.func23, Try.ntmps23
      go_wp2_with (go_at_fn 61; refine (hM _ (impl_PreFor.st_new _ _ _ _ _ _ _)).mono ?_; rintro e w' ⟨rfl, hb⟩; have hcell := (impl_PreFor.st_below (impl_PreFor.st_new _ _ _ _ _ _ _) hb).2.1)
      obtain ⟨W1, hW1⟩ : ∃ W1, W1 = w' := ⟨_, rfl⟩
      have hst : impl_PreFor.st w A0 l0.length c0 a1 W1 := by rw [hW1]; exact impl_PreFor.st_below (impl_PreFor.st_new _ _ _ _ _ _ _) hb
      rw [← hW1]
      clear hW1 hb hcell hM
      have HST := Aside0.mk hst
      clear hst
      go_loopg [19] l0.length (fun gg s19 wr => ∃ kk : Nat, kk ≤ l0.length ∧ l0.length - kk ≤ gg ∧ s19 = .int .i64 kk ∧ Aside0 (impl_PreFor.st w A0 l0.length c0 a1 wr) ∧ Aside0 (∀ j : Nat, j < kk → impl_PreFor.p l0 a1 (rd_T76 l0 (j : Int)) = false))
      case atStart => exact ⟨0, Nat.zero_le _, by omega, rfl, HST, ⟨fun j hj => absurd hj (Nat.not_lt_zero _)⟩⟩
      case round =>
        obtain ⟨kk, hkk, hg, rfl, S, N⟩ := hrel
        by_cases hlt : kk < l0.length
        · have hltz : (kk : Int) < (l0.length : Int) := by omega
          obtain ⟨ad, ead, z0, z1⟩ := at_T76 (Kd.C_below HR0.out S.out.1) (kk : Int) (by omega) (by omega)
          simp only [Int.toNat_natCast] at z0 z1
          cases ead
          have hMk := fun W hW => HM.out W (rd_T76 l0 (kk : Int)).f0 hW
          have hpk : impl_PreFor.p l0 a1 (rd_T76 l0 (kk : Int)) = (!((rd_T76 l0 (kk : Int)).f0.toList == []) && impl_PreFor.means l0 a1 (rd_T76 l0 (kk : Int)).f0) := rfl
          skip
          generalize hd : rd_T76 l0 (kk : Int) = d at z0 z1 hMk hpk
          have HD := Aside0.mk hd
          clear hd
          by_cases he : d.f0.toList = []
          · have hpf : impl_PreFor.p l0 a1 d = false := by rw [hpk, he]; rfl
            have HPF := Aside0.mk hpf
            clear hpf hpk hMk
            go_wp2
            go_roundg (l0.length - (kk + 1))
            case measure => omega
            case rel =>
              refine ⟨kk + 1, by omega, by omega, by go_num, ⟨impl_PreFor.st_below S.out (by repeat (first | exact Below.refl _ _ | apply below_alloc))⟩, ⟨fun j hj => ?_⟩⟩
              by_cases e : j = kk
              · subst e
                rw [HD.out]
                exact HPF.out
              · exact N.out j (by omega)
          · have he2 : (d.f0.toList == []) = false := by simpa using he
            rw [he2] at hpk
            cases hq : impl_PreFor.means l0 a1 d.f0 with
            | false =>
              simp only [hq] at hMk
              rw [hq] at hpk
              have HPF := Aside0.mk hpk
              clear hpk hq
              go_wp2_with (go_at_fn 61; refine (hMk _ (impl_PreFor.st_below S.out (by repeat (first | exact Below.refl _ _ | apply below_alloc)))).mono ?_; rintro e w' ⟨rfl, hb⟩)
              go_roundg (l0.length - (kk + 1))
              case measure => omega
              case rel =>
                refine ⟨kk + 1, by omega, by omega, by go_num, ⟨impl_PreFor.st_below (impl_PreFor.st_below S.out (by repeat (first | exact Below.refl _ _ | apply below_alloc))) hb⟩, ⟨fun j hj => ?_⟩⟩
                by_cases e : j = kk
                · subst e
                  rw [HD.out]
                  exact HPF.out
                · exact N.out j (by omega)
            | true =>
              simp only [hq] at hMk
              rw [hq] at hpk
              have HPF := Aside0.mk hpk
              clear hpk hq
              go_wp2_with (go_at_fn 61; refine (hMk _ (impl_PreFor.st_below S.out (by repeat (first | exact Below.refl _ _ | apply below_alloc)))).mono ?_; rintro e w' ⟨rfl, hb⟩; have hc3 := pw_cell_below hb (show World.cell? (wr.alloc (.cells #[.string d.f0, .string d.f1] 76)) ⟨wr.heap.size, 0, none⟩ = some (.string d.f0) from by rw [World.cell?_alloc_at _ _ _ _ rfl]; rfl))
              have hfin := impl_PreFor.find_hit (impl_PreFor.p l0 a1) l0 kk hlt (by rw [HD.out]; exact HPF.out) N.out
              rw [HD.out] at hfin
              have h := H.out
              rw [hfin] at h
              cases h
              exact bodyPost_ret (v := .tuple #[.string d.f0, .bool true]) (by simp [results, Try.results23, go_sem]) rfl ⟨rfl, (impl_PreFor.st_below (impl_PreFor.st_below S.out (by repeat (first | exact Below.refl _ _ | apply below_alloc))) hb).1⟩
        · have hltz : ¬ (kk : Int) < (l0.length : Int) := by omega
          have : kk = l0.length := by omega
          subst this
          go_wp2
          have h := H.out
          rw [impl_PreFor.find_miss _ _ N.out] at h
          cases h
          exact bodyPost_ret (v := .tuple #[.string ⟨#[]⟩, .bool false]) (by simp [results, Try.results23, go_sem]) rfl ⟨rfl, S.out.1⟩

end Go.Proofs.Ytehlkajccnmddaa.PP
