-- Written by the session's program hprint.py, over the kit's print program. Lean checks it.
import Derived.Test.YtlfjdaoibjjakaaDoorPZx0
import Derived.Test.YtlfjdaoibjjakaaDoorPZx1
import Derived.Test.YtlfjdaoibjjakaaDoorPZx2
namespace Go.Proofs.YtlfjdaoibjjakaaDoor.PZ
open Go.RowKit Go.Proofs.YtlfjdaoibjjakaaDoorW.PrintWords Go.Proofs.YtlfjdaoibjjakaaDoorW.PrintLast Go.Proofs.YtlfjdaoibjjakaaDoorW.PrintMore
attribute [local go_sem] max2_int min2_int max_two min_two max_three min_three max_four min_four   -- for this text's walks alone
set_option linter.unusedVariables false
set_option linter.unusedSimpArgs false

/-! ### spec_PlainOk: function 74 -/
def spec_PlainOk.l0 : Nat → ByteArray → Int → Option (Bool)
 | 0, _, _ => none
 | k + 1, x0, x3 => if x3 < (x0.size : Int) then ((spec_SignAt.f k x0 x3).bind fun bt128 => (if bt128.2.2 = true then (if x3 = 0 then ((spec_IsStart.f k bt128.1).bind fun t131 => (if t131 = true then ((spec_IsPart.f k bt128.1).bind fun t132 => (if t132 = true then (spec_PlainOk.l0 k x0 bt128.2.1) else (some false))) else (some false))) else ((spec_IsPart.f k bt128.1).bind fun t133 => (if t133 = true then (spec_PlainOk.l0 k x0 bt128.2.1) else (some false)))) else (some false))) else (some true)
def spec_PlainOk.f (k : Nat) (a0 : ByteArray) : Option (Bool) := (spec_l1In.f (a0.size : Int) 1 16).bind fun t127 => (if t127 = true then (spec_PlainOk.l0 k a0 0) else (some false))
set_option maxHeartbeats 8000000 in
set_option maxRecDepth 100000 in
theorem spec_PlainOk.calls (k : Nat) (a0 : ByteArray) (r : Bool) (w : World) (h : spec_PlainOk.f k a0 = some r) :
  Calls Tryd.prog 74 #[.string a0] w fun e w' => e = .returned (.bool r) ∧ Below w.heap.size w w' := by
 have HB := Aside0.mk (Below.refl w.heap.size w)
 have H : ((spec_l1In.f (a0.size : Int) 1 16).bind fun t127 => (if t127 = true then (spec_PlainOk.l0 k a0 0) else (some false))) = some r := h
 clear h
 replace H := Option.bind_eq_some_iff.mp H
 obtain ⟨t127, A20, H⟩ := H
 try dsimp only at H
 have A2 := Aside0.mk A20
 clear A20
 go_enter Tryd.func74, Tryd.ntmps74
 go_wp2_with (first | ((with_reducible refine gate_callee (f := 100) rfl ?_); refine goesL_ (some 9) rfl rfl Tryd.func100 (by kernel_rfl) rfl #[.int .i64 (a0.size : Int), .int .i64 1, .int .i64 16] rfl (by (try simp only [List.map_toArray, List.map_cons, List.map_nil]); first | done | rfl | (simp only [List.length_drop, List.length_take]; rfl)) ?_; (with_reducible refine (spec_l1In.calls (a0.size : Int) 1 16 t127 _ A2.out).mono ?_); rintro e w' ⟨rfl, ⟨nd, rfl⟩⟩; refine ⟨_, rfl, ?_⟩; refine halt_ ?_; intro q_ hq_))
 obtain ⟨rfl⟩ := hq_
 by_cases c3 : t127 = true
 ·subst c3
  rw [if_pos rfl] at H
  have H' := Aside0.mk H
  clear H
  go_wp2
  go_loopg [3] k (fun kq v3 w' => ∃ (x3_1 : Int), v3 = .int .i64 x3_1 ∧ Aside0 (spec_PlainOk.l0 kq a0 x3_1 = some r) ∧ Aside0 (kq ≤ k) ∧ Aside0 (Below w.heap.size w w'))
  case atStart => exact ⟨(0), rG, H', ⟨Nat.le_refl _⟩, ⟨by repeat (first|(with_reducible first|exact HB.out|apply zA|apply zN|apply zD) | exact HB.out)⟩⟩
  case round =>
   clear H'
   try clear c1
   try clear p2
   try clear c3
   try clear p2
   obtain ⟨x3_1, rfl, HA, HK1, HB⟩ := hrel
   cases gk with
   | zero => exact absurd HA.out (by simp [spec_PlainOk.l0])
   | succ k1 =>
    have H := HA.out
    clear HA
    simp only [spec_PlainOk.l0] at H
    by_cases c4 : x3_1 < (a0.size : Int)
    ·rw [if_pos c4] at H
     have c4b0 : decide (x3_1 < (a0.size : Int)) = true := decide_eq_true c4
     clear c4
     replace H := Option.bind_eq_some_iff.mp H
     obtain ⟨⟨t128, t129, t130⟩, A50, H⟩ := H
     try dsimp only at H
     have A5 := Aside0.mk A50
     clear A50
     go_wp2_with (first | ((with_reducible refine gate_callee (f := 101) rfl ?_); refine goesL_ (some 18) rfl rfl Tryd.func101 (by kernel_rfl) rfl #[.string a0, .int .i64 x3_1] rfl (by (try simp only [List.map_toArray, List.map_cons, List.map_nil]); first | done | rfl | (simp only [List.length_drop, List.length_take]; rfl)) ?_; (with_reducible refine (spec_SignAt.calls k1 a0 x3_1 t128 t129 t130 _ A5.out).mono ?_); rintro e w' ⟨rfl, ⟨nd, rfl⟩⟩; refine ⟨_, rfl, ?_⟩; refine halt_ ?_; intro q_ hq_))
     obtain ⟨rfl⟩ := hq_
     by_cases c6 : t130 = true
     ·subst c6
      rw [if_pos rfl] at H
      by_cases c7 : x3_1 = 0
      ·rw [if_pos c7] at H
       have c7b0 : (x3_1 == 0) = true := beq_iff_eq.mpr c7
       have c7b1 : (x3_1 != 0) = false := bne_eq_false_iff_eq.mpr c7
       clear c7
       replace H := Option.bind_eq_some_iff.mp H
       obtain ⟨t131, A80, H⟩ := H
       try dsimp only at H
       have A8 := Aside0.mk A80
       clear A80
       go_wp2_with (first | (go_at_call 102; (with_reducible refine (spec_IsStart.calls k1 t128 t131 _ A8.out).mono ?_); rintro e w9 ⟨rfl, hb⟩; replace HB := Aside0.mk (below_step (by repeat (first|(with_reducible first|exact HB.out|apply zA|apply zN|apply zD) | exact HB.out)) hb); (try clear hb); (try clear hb2); (try clear hk); (try clear hi); refine halt_ ?_; intro q_ hq_))
       obtain ⟨rfl⟩ := hq_
       by_cases c10 : t131 = true
       ·subst c10
        rw [if_pos rfl] at H
        replace H := Option.bind_eq_some_iff.mp H
        obtain ⟨t132, A110, H⟩ := H
        try dsimp only at H
        have A11 := Aside0.mk A110
        clear A110
        go_wp2_with (first | (go_at_call 103; (with_reducible refine (spec_IsPart.calls k1 t128 t132 _ A11.out).mono ?_); rintro e w12 ⟨rfl, hb⟩; replace HB := Aside0.mk (below_step (by repeat (first|(with_reducible first|exact HB.out|apply zA|apply zN|apply zD) | exact HB.out)) hb); (try clear hb); (try clear hb2); (try clear hk); (try clear hi); refine halt_ ?_; intro q_ hq_))
        obtain ⟨rfl⟩ := hq_
        by_cases c13 : t132 = true
        ·subst c13
         rw [if_pos rfl] at H
         have H' := Aside0.mk H
         clear H
         go_wp2
         go_roundg k1
         case measure => have := HK1.out; omega
         case rel => exact ⟨(t129), rG, H', ⟨by have := HK1.out; omega⟩, ⟨by repeat (first|(with_reducible first|exact HB.out|apply zA|apply zN|apply zD) | exact HB.out)⟩⟩
        ·replace c13 := Bool.eq_false_iff.mpr c13
         subst c13
         rw [if_neg (show ¬ (false = true) by decide)] at H
         obtain rfl := Option.some.inj H
         go_wp2
         go_ret
         exact ⟨rE, by repeat (first|(with_reducible first|exact HB.out|apply zA|apply zN|apply zD) | exact HB.out)⟩
       ·replace c10 := Bool.eq_false_iff.mpr c10
        subst c10
        rw [if_neg (show ¬ (false = true) by decide)] at H
        obtain rfl := Option.some.inj H
        go_wp2
        go_ret
        exact ⟨rE, by repeat (first|(with_reducible first|exact HB.out|apply zA|apply zN|apply zD) | exact HB.out)⟩
      ·rw [if_neg c7] at H
       have c7b0 : (x3_1 == 0) = false := beq_eq_false_iff_ne.mpr c7
       have c7b1 : (x3_1 != 0) = true := bne_iff_ne.mpr c7
       replace H := Option.bind_eq_some_iff.mp H
       obtain ⟨t133, A140, H⟩ := H
       try dsimp only at H
       have A14 := Aside0.mk A140
       clear A140
       go_wp2_with (first | (go_at_call 103; (with_reducible refine (spec_IsPart.calls k1 t128 t133 _ A14.out).mono ?_); rintro e w15 ⟨rfl, hb⟩; replace HB := Aside0.mk (below_step (by repeat (first|(with_reducible first|exact HB.out|apply zA|apply zN|apply zD) | exact HB.out)) hb); (try clear hb); (try clear hb2); (try clear hk); (try clear hi); refine halt_ ?_; intro q_ hq_))
       obtain ⟨rfl⟩ := hq_
       by_cases c16 : t133 = true
       ·subst c16
        rw [if_pos rfl] at H
        have H' := Aside0.mk H
        clear H
        go_wp2
        go_roundg k1
        case measure => have := HK1.out; omega
        case rel => exact ⟨(t129), rG, H', ⟨by have := HK1.out; omega⟩, ⟨by repeat (first|(with_reducible first|exact HB.out|apply zA|apply zN|apply zD) | exact HB.out)⟩⟩
       ·replace c16 := Bool.eq_false_iff.mpr c16
        subst c16
        rw [if_neg (show ¬ (false = true) by decide)] at H
        obtain rfl := Option.some.inj H
        go_wp2
        go_ret
        exact ⟨rE, by repeat (first|(with_reducible first|exact HB.out|apply zA|apply zN|apply zD) | exact HB.out)⟩
     ·replace c6 := Bool.eq_false_iff.mpr c6
      subst c6
      rw [if_neg (show ¬ (false = true) by decide)] at H
      obtain rfl := Option.some.inj H
      go_wp2
      go_ret
      exact ⟨rE, by repeat (first|(with_reducible first|exact HB.out|apply zA|apply zN|apply zD) | exact HB.out)⟩
    ·rw [if_neg c4] at H
     have c4b0 : decide (x3_1 < (a0.size : Int)) = false := decide_eq_false c4
     clear c4
     obtain rfl := Option.some.inj H
     go_wp2
     go_ret
     exact ⟨rE, by repeat (first|(with_reducible first|exact HB.out|apply zA|apply zN|apply zD) | exact HB.out)⟩
 ·replace c3 := Bool.eq_false_iff.mpr c3
  subst c3
  rw [if_neg (show ¬ (false = true) by decide)] at H
  obtain rfl := Option.some.inj H
  go_wp2
  go_ret
  exact ⟨rE, by repeat (first|(with_reducible first|exact HB.out|apply zA|apply zN|apply zD) | exact HB.out)⟩

/-! ### spec_l4Xml: function 99 -/
def spec_l4Xml.f (a0 : ByteArray) : Option (Bool) := if (a0.size : Int) ≥ 3 then (if 0 ≤ 3 then (if 3 ≤ (a0.size : Int) then (some ((a0.extract 0 3).toList == ([120, 109, 108] : List UInt8))) else (none)) else (none)) else (some false)
set_option maxHeartbeats 8000000 in
set_option maxRecDepth 100000 in
theorem spec_l4Xml.calls (a0 : ByteArray) (r : Bool) (w : World) (h : spec_l4Xml.f a0 = some r) :
  Calls Tryd.prog 99 #[.string a0] w fun e w' => e = .returned (.bool r) ∧ Drawn0 w w' := by
 have H : (if (a0.size : Int) ≥ 3 then (if 0 ≤ 3 then (if 3 ≤ (a0.size : Int) then (some ((a0.extract 0 3).toList == ([120, 109, 108] : List UInt8))) else (none)) else (none)) else (some false)) = some r := h
 clear h
 by_cases c2 : (a0.size : Int) ≥ 3
 ·rw [if_pos c2] at H
  have c2b0 : decide (3 ≤ (a0.size : Int)) = true := decide_eq_true c2
  have c2b1 : decide (3 ≤ a0.size) = true := decide_eq_true (by omega)
  clear c2
  by_cases c3 : 0 ≤ 3
  ·rw [if_pos c3] at H
   have c3b0 := eq_true c3
   have c3b1 : decide (0 ≤ 3) = true := decide_eq_true c3
   clear c3
   by_cases c4 : 3 ≤ (a0.size : Int)
   ·rw [if_pos c4] at H
    have c4b0 := eq_true c4
    have c4b1 : decide (3 ≤ (a0.size : Int)) = true := decide_eq_true c4
    clear c4
    obtain rfl := Option.some.inj H
    go_enter Tryd.func99, Tryd.ntmps99
    go_wp2
    go_ret
    exact ⟨by first | rfl | (simp; done) | (simp [*]; done), by repeat (first | exact Drawn0.refl _ | apply Drawn0.step)⟩
   ·rw [if_neg c4] at H
    exact absurd H (by simp)
  ·rw [if_neg c3] at H
   exact absurd H (by simp)
 ·rw [if_neg c2] at H
  have c2b0 : decide (3 ≤ (a0.size : Int)) = false := decide_eq_false c2
  have c2b1 : decide (3 ≤ a0.size) = false := decide_eq_false (by omega)
  clear c2
  obtain rfl := Option.some.inj H
  go_enter Tryd.func99, Tryd.ntmps99
  go_wp2
  go_ret
  exact ⟨by first | rfl | (simp; done) | (simp [*]; done), by repeat (first | exact Drawn0.refl _ | apply Drawn0.step)⟩

/-! ### spec_l5Pre: function 73 -/
def spec_l5Pre.f (k : Nat) (a0 : ByteArray) : Option (Bool) := if a0.toList = ([] : List UInt8) then (some true) else ((spec_PlainOk.f k a0).bind fun t134 => (if t134 = true then ((spec_l4Xml.f a0).bind fun t135 => (some (!t135))) else (some false)))
set_option maxHeartbeats 8000000 in
set_option maxRecDepth 100000 in
theorem spec_l5Pre.calls (k : Nat) (a0 : ByteArray) (r : Bool) (w : World) (h : spec_l5Pre.f k a0 = some r) :
  Calls Tryd.prog 73 #[.string a0] w fun e w' => e = .returned (.bool r) ∧ Below w.heap.size w w' := by
 have HB := Aside0.mk (Below.refl w.heap.size w)
 have H : (if a0.toList = ([] : List UInt8) then (some true) else ((spec_PlainOk.f k a0).bind fun t134 => (if t134 = true then ((spec_l4Xml.f a0).bind fun t135 => (some (!t135))) else (some false)))) = some r := h
 clear h
 by_cases c2 : a0.toList = ([] : List UInt8)
 ·rw [if_pos c2] at H
  have c2b0 : (a0.toList == ([] : List UInt8)) = true := beq_iff_eq.mpr c2
  have c2b1 : (a0.toList != ([] : List UInt8)) = false := bne_eq_false_iff_eq.mpr c2
  clear c2
  obtain rfl := Option.some.inj H
  go_enter Tryd.func73, Tryd.ntmps73
  go_wp2
  go_ret
  exact ⟨rE, by repeat (first|(with_reducible first|exact HB.out|apply zA|apply zN|apply zD) | exact HB.out)⟩
 ·rw [if_neg c2] at H
  have c2b0 : (a0.toList == ([] : List UInt8)) = false := beq_eq_false_iff_ne.mpr c2
  have c2b1 : (a0.toList != ([] : List UInt8)) = true := bne_iff_ne.mpr c2
  replace H := Option.bind_eq_some_iff.mp H
  obtain ⟨t134, A30, H⟩ := H
  try dsimp only at H
  have A3 := Aside0.mk A30
  clear A30
  go_enter Tryd.func73, Tryd.ntmps73
  go_wp2_with (first | (go_at_call 74; (with_reducible refine (spec_PlainOk.calls k a0 t134 _ A3.out).mono ?_); rintro e w4 ⟨rfl, hb⟩; replace HB := Aside0.mk (below_step (by repeat (first|(with_reducible first|exact HB.out|apply zA|apply zN|apply zD) | exact HB.out)) hb); (try clear hb); (try clear hb2); (try clear hk); (try clear hi); refine halt_ ?_; intro q_ hq_))
  obtain ⟨rfl⟩ := hq_
  by_cases c5 : t134 = true
  ·subst c5
   rw [if_pos rfl] at H
   replace H := Option.bind_eq_some_iff.mp H
   obtain ⟨t135, A60, H⟩ := H
   try dsimp only at H
   have A6 := Aside0.mk A60
   clear A60
   obtain rfl := Option.some.inj H
   go_wp2_with (first | (go_at_call 99; (with_reducible refine (spec_l4Xml.calls a0 t135 _ A6.out).mono ?_); rintro e w' ⟨rfl, ⟨nd, rfl⟩⟩))
   go_ret
   exact ⟨rE, by repeat (first|(with_reducible first|exact HB.out|apply zA|apply zN|apply zD) | exact HB.out)⟩
  ·replace c5 := Bool.eq_false_iff.mpr c5
   subst c5
   rw [if_neg (show ¬ (false = true) by decide)] at H
   obtain rfl := Option.some.inj H
   go_wp2
   go_ret
   exact ⟨rE, by repeat (first|(with_reducible first|exact HB.out|apply zA|apply zN|apply zD) | exact HB.out)⟩

/-! ### spec_IsSign: function 117 -/
def spec_IsSign.f (a0 : Int) : Option (Bool) := if a0 = 9 then (some true) else (if a0 = 10 then (some true) else (if a0 = 13 then (some true) else ((spec_l1In.f a0 32 55295).bind fun t136 => (if t136 = true then (some true) else ((spec_l1In.f a0 57344 65533).bind fun t137 => (if t137 = true then (some true) else ((spec_l1In.f a0 65536 1114111).bind fun t138 => (some t138))))))))
set_option maxHeartbeats 8000000 in
set_option maxRecDepth 100000 in
theorem spec_IsSign.calls (a0 : Int) (r : Bool) (w : World) (h : spec_IsSign.f a0 = some r) :
  Calls Tryd.prog 117 #[.int .i64 a0] w fun e w' => e = .returned (.bool r) ∧ Drawn0 w w' := by
 have H : (if a0 = 9 then (some true) else (if a0 = 10 then (some true) else (if a0 = 13 then (some true) else ((spec_l1In.f a0 32 55295).bind fun t136 => (if t136 = true then (some true) else ((spec_l1In.f a0 57344 65533).bind fun t137 => (if t137 = true then (some true) else ((spec_l1In.f a0 65536 1114111).bind fun t138 => (some t138))))))))) = some r := h
 clear h
 by_cases c2 : a0 = 9
 ·rw [if_pos c2] at H
  have c2b0 : (a0 == 9) = true := beq_iff_eq.mpr c2
  have c2b1 : (a0 != 9) = false := bne_eq_false_iff_eq.mpr c2
  clear c2
  obtain rfl := Option.some.inj H
  go_enter Tryd.func117, Tryd.ntmps117
  go_wp2
  go_ret
  exact ⟨by first | rfl | (simp; done) | (simp [*]; done), by repeat (first | exact Drawn0.refl _ | apply Drawn0.step)⟩
 ·rw [if_neg c2] at H
  have c2b0 : (a0 == 9) = false := beq_eq_false_iff_ne.mpr c2
  have c2b1 : (a0 != 9) = true := bne_iff_ne.mpr c2
  by_cases c3 : a0 = 10
  ·rw [if_pos c3] at H
   have c3b0 : (a0 == 10) = true := beq_iff_eq.mpr c3
   have c3b1 : (a0 != 10) = false := bne_eq_false_iff_eq.mpr c3
   clear c3
   obtain rfl := Option.some.inj H
   go_enter Tryd.func117, Tryd.ntmps117
   go_wp2
   go_ret
   exact ⟨by first | rfl | (simp; done) | (simp [*]; done), by repeat (first | exact Drawn0.refl _ | apply Drawn0.step)⟩
  ·rw [if_neg c3] at H
   have c3b0 : (a0 == 10) = false := beq_eq_false_iff_ne.mpr c3
   have c3b1 : (a0 != 10) = true := bne_iff_ne.mpr c3
   by_cases c4 : a0 = 13
   ·rw [if_pos c4] at H
    have c4b0 : (a0 == 13) = true := beq_iff_eq.mpr c4
    have c4b1 : (a0 != 13) = false := bne_eq_false_iff_eq.mpr c4
    clear c4
    obtain rfl := Option.some.inj H
    go_enter Tryd.func117, Tryd.ntmps117
    go_wp2
    go_ret
    exact ⟨by first | rfl | (simp; done) | (simp [*]; done), by repeat (first | exact Drawn0.refl _ | apply Drawn0.step)⟩
   ·rw [if_neg c4] at H
    have c4b0 : (a0 == 13) = false := beq_eq_false_iff_ne.mpr c4
    have c4b1 : (a0 != 13) = true := bne_iff_ne.mpr c4
    replace H := Option.bind_eq_some_iff.mp H
    obtain ⟨t136, A50, H⟩ := H
    try dsimp only at H
    have A5 := Aside0.mk A50
    clear A50
    go_enter Tryd.func117, Tryd.ntmps117
    go_wp2_with (first | (go_at_call 100; (with_reducible refine (spec_l1In.calls a0 32 55295 t136 _ A5.out).mono ?_); rintro e w' ⟨rfl, ⟨nd, rfl⟩⟩; refine halt_ ?_; intro q_ hq_))
    obtain ⟨rfl⟩ := hq_
    by_cases c6 : t136 = true
    ·subst c6
     rw [if_pos rfl] at H
     obtain rfl := Option.some.inj H
     go_wp2
     go_ret
     exact ⟨by first | rfl | (simp; done) | (simp [*]; done), by repeat (first | exact Drawn0.refl _ | apply Drawn0.step)⟩
    ·replace c6 := Bool.eq_false_iff.mpr c6
     subst c6
     rw [if_neg (show ¬ (false = true) by decide)] at H
     replace H := Option.bind_eq_some_iff.mp H
     obtain ⟨t137, A70, H⟩ := H
     try dsimp only at H
     have A7 := Aside0.mk A70
     clear A70
     go_wp2_with (first | (go_at_call 100; (with_reducible refine (spec_l1In.calls a0 57344 65533 t137 _ A7.out).mono ?_); rintro e w' ⟨rfl, ⟨nd, rfl⟩⟩; refine halt_ ?_; intro q_ hq_))
     obtain ⟨rfl⟩ := hq_
     by_cases c8 : t137 = true
     ·subst c8
      rw [if_pos rfl] at H
      obtain rfl := Option.some.inj H
      go_wp2
      go_ret
      exact ⟨by first | rfl | (simp; done) | (simp [*]; done), by repeat (first | exact Drawn0.refl _ | apply Drawn0.step)⟩
     ·replace c8 := Bool.eq_false_iff.mpr c8
      subst c8
      rw [if_neg (show ¬ (false = true) by decide)] at H
      replace H := Option.bind_eq_some_iff.mp H
      obtain ⟨t138, A90, H⟩ := H
      try dsimp only at H
      have A9 := Aside0.mk A90
      clear A90
      obtain rfl := Option.some.inj H
      go_wp2_with (first | (go_at_call 100; (with_reducible refine (spec_l1In.calls a0 65536 1114111 t138 _ A9.out).mono ?_); rintro e w' ⟨rfl, ⟨nd, rfl⟩⟩))
      go_ret
      exact ⟨by first | rfl | (simp; done) | (simp [*]; done), by repeat (first | exact Drawn0.refl _ | apply Drawn0.step)⟩

/-! ### spec_l1Signs: function 104 -/
def spec_l1Signs.l0 : Nat → ByteArray → Int → Option (Bool)
 | 0, _, _ => none
 | k + 1, x0, x3 => if x3 < (x0.size : Int) then ((spec_SignAt.f k x0 x3).bind fun bt139 => (if bt139.2.2 = true then ((spec_IsSign.f bt139.1).bind fun t142 => (if t142 = true then (spec_l1Signs.l0 k x0 bt139.2.1) else (some false))) else (some false))) else (some (decide ((x0.size : Int) ≤ 1500)))
def spec_l1Signs.f (k : Nat) (a0 : ByteArray) : Option (Bool) := spec_l1Signs.l0 k a0 0
set_option maxHeartbeats 8000000 in
set_option maxRecDepth 100000 in
theorem spec_l1Signs.calls (k : Nat) (a0 : ByteArray) (r : Bool) (w : World) (h : spec_l1Signs.f k a0 = some r) :
  Calls Tryd.prog 104 #[.string a0] w fun e w' => e = .returned (.bool r) ∧ Drawn0 w w' := by
 have H : (spec_l1Signs.l0 k a0 0) = some r := h
 clear h
 have H' := Aside0.mk H
 clear H
 go_enter Tryd.func104, Tryd.ntmps104
 go_wp2
 go_loopg [3] k (fun kq v3 w' => ∃ (x3_1 : Int), v3 = .int .i64 x3_1 ∧ Aside0 (spec_l1Signs.l0 kq a0 x3_1 = some r) ∧ Aside0 (kq ≤ k) ∧ Drawn0 w w')
 case atStart => exact ⟨(0), rG, H', ⟨Nat.le_refl _⟩, by repeat (first | exact Drawn0.refl _ | apply Drawn0.step)⟩
 case round =>
  clear H'
  try clear c1
  obtain ⟨x3_1, rfl, HA, HK1, ⟨m1, rfl⟩⟩ := hrel
  cases gk with
  | zero => exact absurd HA.out (by simp [spec_l1Signs.l0])
  | succ k1 =>
   have H := HA.out
   clear HA
   simp only [spec_l1Signs.l0] at H
   by_cases c2 : x3_1 < (a0.size : Int)
   ·rw [if_pos c2] at H
    have c2b0 : decide (x3_1 < (a0.size : Int)) = true := decide_eq_true c2
    clear c2
    replace H := Option.bind_eq_some_iff.mp H
    obtain ⟨⟨t139, t140, t141⟩, A30, H⟩ := H
    try dsimp only at H
    have A3 := Aside0.mk A30
    clear A30
    go_wp2_with (first | ((with_reducible refine gate_callee (f := 101) rfl ?_); refine goesL_ (some 14) rfl rfl Tryd.func101 (by kernel_rfl) rfl #[.string a0, .int .i64 x3_1] rfl (by (try simp only [List.map_toArray, List.map_cons, List.map_nil]); first | done | rfl | (simp only [List.length_drop, List.length_take]; rfl)) ?_; (with_reducible refine (spec_SignAt.calls k1 a0 x3_1 t139 t140 t141 _ A3.out).mono ?_); rintro e w' ⟨rfl, ⟨nd, rfl⟩⟩; refine ⟨_, rfl, ?_⟩; refine halt_ ?_; intro q_ hq_))
    obtain ⟨rfl⟩ := hq_
    by_cases c4 : t141 = true
    ·subst c4
     rw [if_pos rfl] at H
     replace H := Option.bind_eq_some_iff.mp H
     obtain ⟨t142, A50, H⟩ := H
     try dsimp only at H
     have A5 := Aside0.mk A50
     clear A50
     go_wp2_with (first | (go_at_call 117; (with_reducible refine (spec_IsSign.calls t139 t142 _ A5.out).mono ?_); rintro e w' ⟨rfl, ⟨nd, rfl⟩⟩; refine halt_ ?_; intro q_ hq_))
     obtain ⟨rfl⟩ := hq_
     by_cases c6 : t142 = true
     ·subst c6
      rw [if_pos rfl] at H
      have H' := Aside0.mk H
      clear H
      go_wp2
      go_roundg k1
      case measure => have := HK1.out; omega
      case rel => exact ⟨(t140), rG, H', ⟨by have := HK1.out; omega⟩, by repeat (first | exact Drawn0.refl _ | apply Drawn0.step)⟩
     ·replace c6 := Bool.eq_false_iff.mpr c6
      subst c6
      rw [if_neg (show ¬ (false = true) by decide)] at H
      obtain rfl := Option.some.inj H
      go_wp2
      go_ret
      exact ⟨by first | rfl | (simp; done) | (simp [*]; done), by repeat (first | exact Drawn0.refl _ | apply Drawn0.step)⟩
    ·replace c4 := Bool.eq_false_iff.mpr c4
     subst c4
     rw [if_neg (show ¬ (false = true) by decide)] at H
     obtain rfl := Option.some.inj H
     go_wp2
     go_ret
     exact ⟨by first | rfl | (simp; done) | (simp [*]; done), by repeat (first | exact Drawn0.refl _ | apply Drawn0.step)⟩
   ·rw [if_neg c2] at H
    have c2b0 : decide (x3_1 < (a0.size : Int)) = false := decide_eq_false c2
    clear c2
    obtain rfl := Option.some.inj H
    go_wp2
    go_ret
    exact ⟨by first | rfl | (simp; done) | (simp [*]; done), by repeat (first | exact Drawn0.refl _ | apply Drawn0.step)⟩

/-! ### spec_TextOk: function 75 -/
def spec_TextOk.f (k : Nat) (a0 : ByteArray) : Option (Bool) := if (a0.size : Int) ≤ 600 then ((spec_l1Signs.f k a0).bind fun t143 => (some t143)) else (some false)
set_option maxHeartbeats 8000000 in
set_option maxRecDepth 100000 in
theorem spec_TextOk.calls (k : Nat) (a0 : ByteArray) (r : Bool) (w : World) (h : spec_TextOk.f k a0 = some r) :
  Calls Tryd.prog 75 #[.string a0] w fun e w' => e = .returned (.bool r) ∧ Drawn0 w w' := by
 have H : (if (a0.size : Int) ≤ 600 then ((spec_l1Signs.f k a0).bind fun t143 => (some t143)) else (some false)) = some r := h
 clear h
 by_cases c2 : (a0.size : Int) ≤ 600
 ·rw [if_pos c2] at H
  have c2b0 : decide ((a0.size : Int) ≤ 600) = true := decide_eq_true c2
  have c2b1 : decide (a0.size ≤ 600) = true := decide_eq_true (by omega)
  clear c2
  replace H := Option.bind_eq_some_iff.mp H
  obtain ⟨t143, A30, H⟩ := H
  try dsimp only at H
  have A3 := Aside0.mk A30
  clear A30
  obtain rfl := Option.some.inj H
  go_enter Tryd.func75, Tryd.ntmps75
  go_wp2_with (first | (go_at_call 104; (with_reducible refine (spec_l1Signs.calls k a0 t143 _ A3.out).mono ?_); rintro e w' ⟨rfl, ⟨nd, rfl⟩⟩))
  go_ret
  exact ⟨by first | rfl | (simp; done) | (simp [*]; done), by repeat (first | exact Drawn0.refl _ | apply Drawn0.step)⟩
 ·rw [if_neg c2] at H
  have c2b0 : decide ((a0.size : Int) ≤ 600) = false := decide_eq_false c2
  have c2b1 : decide (a0.size ≤ 600) = false := decide_eq_false (by omega)
  clear c2
  obtain rfl := Option.some.inj H
  go_enter Tryd.func75, Tryd.ntmps75
  go_wp2
  go_ret
  exact ⟨by first | rfl | (simp; done) | (simp [*]; done), by repeat (first | exact Drawn0.refl _ | apply Drawn0.step)⟩

/-! ### spec_DeclOk: function 105 -/
def spec_DeclOk.f (k : Nat) (a0_0 : ByteArray) (a0_1 : ByteArray) : Option (Bool) := if a0_0.toList = ([] : List UInt8) then ((spec_TextOk.f k a0_1).bind fun t145 => (if t145 = true then (some (decide ((a0_1.size : Int) ≤ 40))) else (some false))) else ((spec_PlainOk.f k a0_0).bind fun t146 => (if t146 = true then ((spec_l4Xml.f a0_0).bind fun t147 => (if t147 = true then (some false) else (if a0_1.toList = ([] : List UInt8) then (some false) else ((spec_TextOk.f k a0_1).bind fun t148 => (if t148 = true then (some (decide ((a0_1.size : Int) ≤ 40))) else (some false)))))) else (some false)))
set_option maxHeartbeats 8000000 in
set_option maxRecDepth 100000 in
theorem spec_DeclOk.calls (k : Nat) (a0_0 : ByteArray) (a0_1 : ByteArray) (r : Bool) (w : World) (h : spec_DeclOk.f k a0_0 a0_1 = some r) :
  Calls Tryd.prog 105 #[.agg #[.string a0_0, .string a0_1]] w fun e w' => e = .returned (.bool r) ∧ Below w.heap.size w w' := by
 have hu84 := Tryd.underlying84
 have HB := Aside0.mk (Below.refl w.heap.size w)
 have H : (if a0_0.toList = ([] : List UInt8) then ((spec_TextOk.f k a0_1).bind fun t145 => (if t145 = true then (some (decide ((a0_1.size : Int) ≤ 40))) else (some false))) else ((spec_PlainOk.f k a0_0).bind fun t146 => (if t146 = true then ((spec_l4Xml.f a0_0).bind fun t147 => (if t147 = true then (some false) else (if a0_1.toList = ([] : List UInt8) then (some false) else ((spec_TextOk.f k a0_1).bind fun t148 => (if t148 = true then (some (decide ((a0_1.size : Int) ≤ 40))) else (some false)))))) else (some false)))) = some r := h
 clear h
 go_enter Tryd.func105, Tryd.ntmps105
 go_wp2_with (first | ((with_reducible refine gate_dst (N := 1) rfl ?_); (try (refine gate_guard (by rfl) ?_; dsimp only)); refine box_event ?hg (N := 1) ?hd (cs := #[.string a0_0, .string a0_1]) (t := 84) ?hr ?_; (case hd => rfl); (case hg => rfl); (case hr => first | (go_simp; done) | (go_simp; rfl)); intro gb144 hg w2 hbox hb; have BK144 := Aside0.mk (hbox); have GW144 := Aside0.mk ((by rw [hg]; exact (below_size (by repeat (first|(with_reducible first|exact HB.out|apply zA|apply zN|apply zD) | exact HB.out))) : w.heap.size ≤ gb144)); have GE144 := Aside0.mk ((by rw [hg]; exact (below_size (by repeat (first|(with_reducible first|exact HB.out|apply zA|apply zN|apply zD) | exact HB.out))) : w.heap.size ≤ gb144)); replace HB := Aside0.mk (below_step (by repeat (first|(with_reducible first|exact HB.out|apply zA|apply zN|apply zD) | exact HB.out)) hb); clear hb hbox hg; obtain ⟨hcz3_0, hcz3_1⟩ := bc2 BK144.out; refine halt_ ?_; intro q_ hq_))
 obtain ⟨rfl⟩ := hq_
 by_cases c4 : a0_0.toList = ([] : List UInt8)
 ·rw [if_pos c4] at H
  have c4b0 : (a0_0.toList == ([] : List UInt8)) = true := beq_iff_eq.mpr c4
  have c4b1 : (a0_0.toList != ([] : List UInt8)) = false := bne_eq_false_iff_eq.mpr c4
  clear c4
  replace H := Option.bind_eq_some_iff.mp H
  obtain ⟨t145, A50, H⟩ := H
  try dsimp only at H
  have A5 := Aside0.mk A50
  clear A50
  obtain ⟨hcz6_0, hcz6_1⟩ := bc2 BK144.out
  go_wp2_with (first | ((with_reducible refine gate_callee (f := 75) rfl ?_); refine goesL_ (some 24) rfl rfl Tryd.func75 (by kernel_rfl) rfl #[.string a0_1] rfl (by (try simp only [List.map_toArray, List.map_cons, List.map_nil]); first | done | rfl | (simp only [List.length_drop, List.length_take]; rfl)) ?_; (with_reducible refine (spec_TextOk.calls k a0_1 t145 _ A5.out).mono ?_); rintro e w' ⟨rfl, ⟨nd, rfl⟩⟩; refine ⟨_, rfl, ?_⟩; refine halt_ ?_; intro q_ hq_))
  obtain ⟨rfl⟩ := hq_
  by_cases c7 : t145 = true
  ·subst c7
   rw [if_pos rfl] at H
   obtain rfl := Option.some.inj H
   obtain ⟨hcz8_0, hcz8_1⟩ := bc2 BK144.out
   go_wp2
   go_ret
   exact ⟨rE, by repeat (first|(with_reducible first|exact HB.out|apply zA|apply zN|apply zD | refine below_set ?_ GE144.out) | exact HB.out)⟩
  ·replace c7 := Bool.eq_false_iff.mpr c7
   subst c7
   rw [if_neg (show ¬ (false = true) by decide)] at H
   obtain rfl := Option.some.inj H
   go_wp2
   go_ret
   exact ⟨rE, by repeat (first|(with_reducible first|exact HB.out|apply zA|apply zN|apply zD | refine below_set ?_ GE144.out) | exact HB.out)⟩
 ·rw [if_neg c4] at H
  have c4b0 : (a0_0.toList == ([] : List UInt8)) = false := beq_eq_false_iff_ne.mpr c4
  have c4b1 : (a0_0.toList != ([] : List UInt8)) = true := bne_iff_ne.mpr c4
  replace H := Option.bind_eq_some_iff.mp H
  obtain ⟨t146, A90, H⟩ := H
  try dsimp only at H
  have A9 := Aside0.mk A90
  clear A90
  obtain ⟨hcz10_0, hcz10_1⟩ := bc2 BK144.out
  go_wp2_with (first | (go_at_call 74; (with_reducible refine (spec_PlainOk.calls k a0_0 t146 _ A9.out).mono ?_); rintro e w11 ⟨rfl, hb⟩; replace BK144 := Aside0.mk (blk_below (g := gb144) (by (with_reducible repeat (first | refine bN ?_ _|refine bD ?_|refine bA ?_ _)); exact BK144.out) hb); replace HB := Aside0.mk (below_step (by repeat (first|(with_reducible first|exact HB.out|apply zA|apply zN|apply zD | refine below_set ?_ GE144.out) | exact HB.out)) hb); (try clear hb); (try clear hb2); (try clear hk); (try clear hi); refine halt_ ?_; intro q_ hq_))
  obtain ⟨rfl⟩ := hq_
  by_cases c12 : t146 = true
  ·subst c12
   rw [if_pos rfl] at H
   replace H := Option.bind_eq_some_iff.mp H
   obtain ⟨t147, A130, H⟩ := H
   try dsimp only at H
   have A13 := Aside0.mk A130
   clear A130
   obtain ⟨hcz14_0, hcz14_1⟩ := bc2 BK144.out
   go_wp2_with (first | (go_at_call 99; (with_reducible refine (spec_l4Xml.calls a0_0 t147 _ A13.out).mono ?_); rintro e w' ⟨rfl, ⟨nd, rfl⟩⟩; refine halt_ ?_; intro q_ hq_))
   obtain ⟨rfl⟩ := hq_
   by_cases c15 : t147 = true
   ·subst c15
    rw [if_pos rfl] at H
    obtain rfl := Option.some.inj H
    go_wp2
    go_ret
    exact ⟨rE, by repeat (first|(with_reducible first|exact HB.out|apply zA|apply zN|apply zD | refine below_set ?_ GE144.out) | exact HB.out)⟩
   ·replace c15 := Bool.eq_false_iff.mpr c15
    subst c15
    rw [if_neg (show ¬ (false = true) by decide)] at H
    by_cases c16 : a0_1.toList = ([] : List UInt8)
    ·rw [if_pos c16] at H
     have c16b0 : (a0_1.toList == ([] : List UInt8)) = true := beq_iff_eq.mpr c16
     have c16b1 : (a0_1.toList != ([] : List UInt8)) = false := bne_eq_false_iff_eq.mpr c16
     clear c16
     obtain rfl := Option.some.inj H
     obtain ⟨hcz17_0, hcz17_1⟩ := bc2 BK144.out
     go_wp2
     go_ret
     exact ⟨rE, by repeat (first|(with_reducible first|exact HB.out|apply zA|apply zN|apply zD | refine below_set ?_ GE144.out) | exact HB.out)⟩
    ·rw [if_neg c16] at H
     have c16b0 : (a0_1.toList == ([] : List UInt8)) = false := beq_eq_false_iff_ne.mpr c16
     have c16b1 : (a0_1.toList != ([] : List UInt8)) = true := bne_iff_ne.mpr c16
     replace H := Option.bind_eq_some_iff.mp H
     obtain ⟨t148, A180, H⟩ := H
     try dsimp only at H
     have A18 := Aside0.mk A180
     clear A180
     obtain ⟨hcz19_0, hcz19_1⟩ := bc2 BK144.out
     go_wp2_with (first | ((with_reducible refine gate_callee (f := 75) rfl ?_); refine goesL_ (some 24) rfl rfl Tryd.func75 (by kernel_rfl) rfl #[.string a0_1] rfl (by (try simp only [List.map_toArray, List.map_cons, List.map_nil]); first | done | rfl | (simp only [List.length_drop, List.length_take]; rfl)) ?_; (with_reducible refine (spec_TextOk.calls k a0_1 t148 _ A18.out).mono ?_); rintro e w' ⟨rfl, ⟨nd, rfl⟩⟩; refine ⟨_, rfl, ?_⟩; refine halt_ ?_; intro q_ hq_))
     obtain ⟨rfl⟩ := hq_
     by_cases c20 : t148 = true
     ·subst c20
      rw [if_pos rfl] at H
      obtain rfl := Option.some.inj H
      obtain ⟨hcz21_0, hcz21_1⟩ := bc2 BK144.out
      go_wp2
      go_ret
      exact ⟨rE, by repeat (first|(with_reducible first|exact HB.out|apply zA|apply zN|apply zD | refine below_set ?_ GE144.out) | exact HB.out)⟩
     ·replace c20 := Bool.eq_false_iff.mpr c20
      subst c20
      rw [if_neg (show ¬ (false = true) by decide)] at H
      obtain rfl := Option.some.inj H
      go_wp2
      go_ret
      exact ⟨rE, by repeat (first|(with_reducible first|exact HB.out|apply zA|apply zN|apply zD | refine below_set ?_ GE144.out) | exact HB.out)⟩
  ·replace c12 := Bool.eq_false_iff.mpr c12
   subst c12
   rw [if_neg (show ¬ (false = true) by decide)] at H
   obtain rfl := Option.some.inj H
   go_wp2
   go_ret
   exact ⟨rE, by repeat (first|(with_reducible first|exact HB.out|apply zA|apply zN|apply zD | refine below_set ?_ GE144.out) | exact HB.out)⟩

end Go.Proofs.YtlfjdaoibjjakaaDoor.PZ
