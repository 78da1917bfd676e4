-- Written by the session's program hprint.py, over the kit's print program. Lean checks it.
import Derived.Test.YtalionlkjdgciaaGreatDoorPAx0
import Derived.Test.YtalionlkjdgciaaGreatDoorPAx5
namespace Go.Proofs.YtalionlkjdgciaaGreatDoor.PA
open Go.RowKit Go.Proofs.YtalionlkjdgciaaGreatDoorW.PrintWords Go.Proofs.YtalionlkjdgciaaGreatDoorW.PrintLast Go.Proofs.YtalionlkjdgciaaGreatDoorW.PrintMore
attribute [local go_sem] max2_int min2_int max_two min_two max_three min_three max_four min_four   -- for this text's walks alone
set_option linter.unusedVariables false
set_option linter.unusedSimpArgs false
set_option maxHeartbeats 8000000
set_option maxRecDepth 100000

/-! ### spec_l3Esc: function 152 -/
def spec_l3Esc.l0 : Nat → ByteArray → Bool → ByteArray → Int → Option (ByteArray)
 | 0, _, _, _, _ => none
 | k + 1, x0, x1, x5, x6 => if x6 < (x0.size : Int) then (if 0 ≤ x6 then (if x6 ≤ (wrap64 (x6 + 1)) then (if (wrap64 (x6 + 1)) ≤ (x0.size : Int) then (if (bt x0 x6) = 38 then (if x5.size + 5 ≤ 9223372036854775807 then (spec_l3Esc.l0 k x0 x1 (x5 ++ (⟨#[38, 97, 109, 112, 59]⟩ : ByteArray)) (wrap64 (x6 + 1))) else (none)) else (if (bt x0 x6) = 60 then (if x5.size + 4 ≤ 9223372036854775807 then (spec_l3Esc.l0 k x0 x1 (x5 ++ (⟨#[38, 108, 116, 59]⟩ : ByteArray)) (wrap64 (x6 + 1))) else (none)) else (if (bt x0 x6) = 62 then (if x5.size + 4 ≤ 9223372036854775807 then (spec_l3Esc.l0 k x0 x1 (x5 ++ (⟨#[38, 103, 116, 59]⟩ : ByteArray)) (wrap64 (x6 + 1))) else (none)) else (if (bt x0 x6) = 13 then (if x5.size + 5 ≤ 9223372036854775807 then (spec_l3Esc.l0 k x0 x1 (x5 ++ (⟨#[38, 35, 49, 51, 59]⟩ : ByteArray)) (wrap64 (x6 + 1))) else (none)) else (if (bt x0 x6) = 34 then (if x1 = true then (if x5.size + 6 ≤ 9223372036854775807 then (spec_l3Esc.l0 k x0 x1 (x5 ++ (⟨#[38, 113, 117, 111, 116, 59]⟩ : ByteArray)) (wrap64 (x6 + 1))) else (none)) else (if x5.size + (x0.extract (x6 : Int).toNat ((wrap64 (x6 + 1)) : Int).toNat).size ≤ 9223372036854775807 then (spec_l3Esc.l0 k x0 x1 (x5 ++ (x0.extract (x6 : Int).toNat ((wrap64 (x6 + 1)) : Int).toNat)) (wrap64 (x6 + 1))) else (none))) else (if (bt x0 x6) = 9 then (if x1 = true then (if x5.size + 4 ≤ 9223372036854775807 then (spec_l3Esc.l0 k x0 x1 (x5 ++ (⟨#[38, 35, 57, 59]⟩ : ByteArray)) (wrap64 (x6 + 1))) else (none)) else (if x5.size + (x0.extract (x6 : Int).toNat ((wrap64 (x6 + 1)) : Int).toNat).size ≤ 9223372036854775807 then (spec_l3Esc.l0 k x0 x1 (x5 ++ (x0.extract (x6 : Int).toNat ((wrap64 (x6 + 1)) : Int).toNat)) (wrap64 (x6 + 1))) else (none))) else (if (bt x0 x6) = 10 then (if x1 = true then (if x5.size + 5 ≤ 9223372036854775807 then (spec_l3Esc.l0 k x0 x1 (x5 ++ (⟨#[38, 35, 49, 48, 59]⟩ : ByteArray)) (wrap64 (x6 + 1))) else (none)) else (if x5.size + (x0.extract (x6 : Int).toNat ((wrap64 (x6 + 1)) : Int).toNat).size ≤ 9223372036854775807 then (spec_l3Esc.l0 k x0 x1 (x5 ++ (x0.extract (x6 : Int).toNat ((wrap64 (x6 + 1)) : Int).toNat)) (wrap64 (x6 + 1))) else (none))) else (if x5.size + (x0.extract (x6 : Int).toNat ((wrap64 (x6 + 1)) : Int).toNat).size ≤ 9223372036854775807 then (spec_l3Esc.l0 k x0 x1 (x5 ++ (x0.extract (x6 : Int).toNat ((wrap64 (x6 + 1)) : Int).toNat)) (wrap64 (x6 + 1))) else (none))))))))) else (none)) else (none)) else (none)) else (some x5)
def spec_l3Esc.f (k : Nat) (a0 : ByteArray) (a1 : Bool) : Option (ByteArray) := spec_l3Esc.l0 k a0 a1 (⟨#[]⟩ : ByteArray) 0
theorem spec_l3Esc.calls (k : Nat) (a0 : ByteArray) (a1 : Bool) (r : ByteArray) (w : World) (h : spec_l3Esc.f k a0 a1 = some r) :
  Calls Tryz.prog 152 #[.string a0, .bool a1] w fun e w' => e = .returned (.string r) ∧ Drawn0 w w' := by
 have H : (spec_l3Esc.l0 k a0 a1 (⟨#[]⟩ : ByteArray) 0) = some r := h
 clear h
 have H' := Aside0.mk H
 clear H
 go_enter Tryz.func152, Tryz.ntmps152
 go_wp2
 go_loopg [5, 6] k (fun kq v5 v6 w' => ∃ (x5_1 : ByteArray) (x6_1 : Int), v5 = .string x5_1 ∧ v6 = .int .i64 x6_1 ∧ Aside0 (spec_l3Esc.l0 kq a0 a1 x5_1 x6_1 = some r) ∧ Aside0 (kq ≤ k) ∧ Drawn0 w w')
 case atStart => exact ⟨((⟨#[]⟩ : ByteArray)), (0), rG, rG, H', ⟨Nat.le_refl _⟩, by repeat (first | exact Drawn0.refl _ | apply Drawn0.step)⟩
 case round =>
  clear H'
  obtain ⟨x5_1, x6_1, rfl, rfl, HA, HK1, ⟨m1, rfl⟩⟩ := hrel
  cases gk with
  | zero => exact absurd HA.out (by simp [spec_l3Esc.l0])
  | succ k1 =>
   have H := HA.out
   clear HA
   simp only [spec_l3Esc.l0] at H
   by_cases c3 : x6_1 < (a0.size : Int)
   ·rw [if_pos c3] at H
    have c3b0 : decide (x6_1 < (a0.size : Int)) = true := decide_eq_true c3
    clear c3
    obtain ⟨c4, H⟩ := if_som H
    obtain ⟨c4b0, c4b1⟩ := fcT c4
    clear c4
    obtain ⟨c5, H⟩ := if_som H
    obtain ⟨c5b0, c5b1⟩ := fcT c5
    obtain ⟨c6, H⟩ := if_som H
    obtain ⟨c6b0, c6b1⟩ := fcT c6
    by_cases c8 : (bt a0 x6_1) = 38
    ·rw [if_pos c8] at H
     obtain ⟨c8b0, c8b1⟩ := eqT c8
     clear c8
     obtain ⟨c9, H⟩ := if_som H
     obtain ⟨c9b0, c9b1⟩ := fcT c9
     try have c9b2 : (9223372036854775807 < x5_1.size + 5) = False := eq_false (Nat.not_lt.2 c9)
     have H' := Aside0.mk H
     clear H
     have p7 : 0 ≤ (x6_1 : Int) := odt
     have q7 : x6_1 < (a0.size : Int) := odt
     have hx7 := bt_at a0 x6_1
     replace p7 := eq_true p7
     replace q7 := eq_true q7
     go_wp2
     go_roundg k1
     case measure => have := HK1.out; omega
     case rel => exact ⟨(x5_1 ++ (⟨#[38, 97, 109, 112, 59]⟩ : ByteArray)), (wrap64 (x6_1 + 1)), rG, rG, H', ⟨by have := HK1.out; omega⟩, by repeat (first | exact Drawn0.refl _ | apply Drawn0.step)⟩
    ·rw [if_neg c8] at H
     obtain ⟨c8b0, c8b1⟩ := eqF c8
     by_cases c10 : (bt a0 x6_1) = 60
     ·rw [if_pos c10] at H
      obtain ⟨c10b0, c10b1⟩ := eqT c10
      clear c10
      obtain ⟨c11, H⟩ := if_som H
      obtain ⟨c11b0, c11b1⟩ := fcT c11
      try have c11b2 : (9223372036854775807 < x5_1.size + 4) = False := eq_false (Nat.not_lt.2 c11)
      have H' := Aside0.mk H
      clear H
      have p7 : 0 ≤ (x6_1 : Int) := odt
      have q7 : x6_1 < (a0.size : Int) := odt
      have hx7 := bt_at a0 x6_1
      replace p7 := eq_true p7
      replace q7 := eq_true q7
      go_wp2
      go_roundg k1
      case measure => have := HK1.out; omega
      case rel => exact ⟨(x5_1 ++ (⟨#[38, 108, 116, 59]⟩ : ByteArray)), (wrap64 (x6_1 + 1)), rG, rG, H', ⟨by have := HK1.out; omega⟩, by repeat (first | exact Drawn0.refl _ | apply Drawn0.step)⟩
     ·rw [if_neg c10] at H
      obtain ⟨c10b0, c10b1⟩ := eqF c10
      by_cases c12 : (bt a0 x6_1) = 62
      ·rw [if_pos c12] at H
       obtain ⟨c12b0, c12b1⟩ := eqT c12
       clear c12
       obtain ⟨c13, H⟩ := if_som H
       obtain ⟨c13b0, c13b1⟩ := fcT c13
       try have c13b2 : (9223372036854775807 < x5_1.size + 4) = False := eq_false (Nat.not_lt.2 c13)
       have H' := Aside0.mk H
       clear H
       have p7 : 0 ≤ (x6_1 : Int) := odt
       have q7 : x6_1 < (a0.size : Int) := odt
       have hx7 := bt_at a0 x6_1
       replace p7 := eq_true p7
       replace q7 := eq_true q7
       go_wp2
       go_roundg k1
       case measure => have := HK1.out; omega
       case rel => exact ⟨(x5_1 ++ (⟨#[38, 103, 116, 59]⟩ : ByteArray)), (wrap64 (x6_1 + 1)), rG, rG, H', ⟨by have := HK1.out; omega⟩, by repeat (first | exact Drawn0.refl _ | apply Drawn0.step)⟩
      ·rw [if_neg c12] at H
       obtain ⟨c12b0, c12b1⟩ := eqF c12
       by_cases c14 : (bt a0 x6_1) = 13
       ·rw [if_pos c14] at H
        obtain ⟨c14b0, c14b1⟩ := eqT c14
        clear c14
        obtain ⟨c15, H⟩ := if_som H
        obtain ⟨c15b0, c15b1⟩ := fcT c15
        try have c15b2 : (9223372036854775807 < x5_1.size + 5) = False := eq_false (Nat.not_lt.2 c15)
        have H' := Aside0.mk H
        clear H
        have p7 : 0 ≤ (x6_1 : Int) := odt
        have q7 : x6_1 < (a0.size : Int) := odt
        have hx7 := bt_at a0 x6_1
        replace p7 := eq_true p7
        replace q7 := eq_true q7
        go_wp2
        go_roundg k1
        case measure => have := HK1.out; omega
        case rel => exact ⟨(x5_1 ++ (⟨#[38, 35, 49, 51, 59]⟩ : ByteArray)), (wrap64 (x6_1 + 1)), rG, rG, H', ⟨by have := HK1.out; omega⟩, by repeat (first | exact Drawn0.refl _ | apply Drawn0.step)⟩
       ·rw [if_neg c14] at H
        obtain ⟨c14b0, c14b1⟩ := eqF c14
        by_cases c16 : (bt a0 x6_1) = 34
        ·rw [if_pos c16] at H
         obtain ⟨c16b0, c16b1⟩ := eqT c16
         clear c16
         by_cases c17 : a1 = true
         ·subst c17
          rw [if_pos rfl] at H
          obtain ⟨c18, H⟩ := if_som H
          obtain ⟨c18b0, c18b1⟩ := fcT c18
          try have c18b2 : (9223372036854775807 < x5_1.size + 6) = False := eq_false (Nat.not_lt.2 c18)
          have H' := Aside0.mk H
          clear H
          have p7 : 0 ≤ (x6_1 : Int) := odt
          have q7 : x6_1 < (a0.size : Int) := odt
          have hx7 := bt_at a0 x6_1
          replace p7 := eq_true p7
          replace q7 := eq_true q7
          go_wp2
          go_roundg k1
          case measure => have := HK1.out; omega
          case rel => exact ⟨(x5_1 ++ (⟨#[38, 113, 117, 111, 116, 59]⟩ : ByteArray)), (wrap64 (x6_1 + 1)), rG, rG, H', ⟨by have := HK1.out; omega⟩, by repeat (first | exact Drawn0.refl _ | apply Drawn0.step)⟩
         ·replace c17 := Bool.eq_false_iff.mpr c17
          subst c17
          rw [if_neg (show ¬ (false = true) by decide)] at H
          obtain ⟨c19, H⟩ := if_som H
          obtain ⟨c19b0, c19b1⟩ := fcT c19
          try have c19b2 : (9223372036854775807 < x5_1.size + (a0.extract (x6_1 : Int).toNat ((wrap64 (x6_1 + 1)) : Int).toNat).size) = False := eq_false (Nat.not_lt.2 c19)
          have H' := Aside0.mk H
          clear H
          have p7 : 0 ≤ (x6_1 : Int) := odt
          have q7 : x6_1 < (a0.size : Int) := odt
          have hx7 := bt_at a0 x6_1
          replace p7 := eq_true p7
          replace q7 := eq_true q7
          go_wp2
          go_roundg k1
          case measure => have := HK1.out; omega
          case rel => exact ⟨(x5_1 ++ (a0.extract (x6_1 : Int).toNat ((wrap64 (x6_1 + 1)) : Int).toNat)), (wrap64 (x6_1 + 1)), rG, rG, H', ⟨by have := HK1.out; omega⟩, by repeat (first | exact Drawn0.refl _ | apply Drawn0.step)⟩
        ·rw [if_neg c16] at H
         obtain ⟨c16b0, c16b1⟩ := eqF c16
         by_cases c20 : (bt a0 x6_1) = 9
         ·rw [if_pos c20] at H
          obtain ⟨c20b0, c20b1⟩ := eqT c20
          clear c20
          by_cases c21 : a1 = true
          ·subst c21
           rw [if_pos rfl] at H
           obtain ⟨c22, H⟩ := if_som H
           obtain ⟨c22b0, c22b1⟩ := fcT c22
           try have c22b2 : (9223372036854775807 < x5_1.size + 4) = False := eq_false (Nat.not_lt.2 c22)
           have H' := Aside0.mk H
           clear H
           have p7 : 0 ≤ (x6_1 : Int) := odt
           have q7 : x6_1 < (a0.size : Int) := odt
           have hx7 := bt_at a0 x6_1
           replace p7 := eq_true p7
           replace q7 := eq_true q7
           go_wp2
           go_roundg k1
           case measure => have := HK1.out; omega
           case rel => exact ⟨(x5_1 ++ (⟨#[38, 35, 57, 59]⟩ : ByteArray)), (wrap64 (x6_1 + 1)), rG, rG, H', ⟨by have := HK1.out; omega⟩, by repeat (first | exact Drawn0.refl _ | apply Drawn0.step)⟩
          ·replace c21 := Bool.eq_false_iff.mpr c21
           subst c21
           rw [if_neg (show ¬ (false = true) by decide)] at H
           obtain ⟨c23, H⟩ := if_som H
           obtain ⟨c23b0, c23b1⟩ := fcT c23
           try have c23b2 : (9223372036854775807 < x5_1.size + (a0.extract (x6_1 : Int).toNat ((wrap64 (x6_1 + 1)) : Int).toNat).size) = False := eq_false (Nat.not_lt.2 c23)
           have H' := Aside0.mk H
           clear H
           have p7 : 0 ≤ (x6_1 : Int) := odt
           have q7 : x6_1 < (a0.size : Int) := odt
           have hx7 := bt_at a0 x6_1
           replace p7 := eq_true p7
           replace q7 := eq_true q7
           go_wp2
           go_roundg k1
           case measure => have := HK1.out; omega
           case rel => exact ⟨(x5_1 ++ (a0.extract (x6_1 : Int).toNat ((wrap64 (x6_1 + 1)) : Int).toNat)), (wrap64 (x6_1 + 1)), rG, rG, H', ⟨by have := HK1.out; omega⟩, by repeat (first | exact Drawn0.refl _ | apply Drawn0.step)⟩
         ·rw [if_neg c20] at H
          obtain ⟨c20b0, c20b1⟩ := eqF c20
          by_cases c24 : (bt a0 x6_1) = 10
          ·rw [if_pos c24] at H
           obtain ⟨c24b0, c24b1⟩ := eqT c24
           clear c24
           by_cases c25 : a1 = true
           ·subst c25
            rw [if_pos rfl] at H
            obtain ⟨c26, H⟩ := if_som H
            obtain ⟨c26b0, c26b1⟩ := fcT c26
            try have c26b2 : (9223372036854775807 < x5_1.size + 5) = False := eq_false (Nat.not_lt.2 c26)
            have H' := Aside0.mk H
            clear H
            have p7 : 0 ≤ (x6_1 : Int) := odt
            have q7 : x6_1 < (a0.size : Int) := odt
            have hx7 := bt_at a0 x6_1
            replace p7 := eq_true p7
            replace q7 := eq_true q7
            go_wp2
            go_roundg k1
            case measure => have := HK1.out; omega
            case rel => exact ⟨(x5_1 ++ (⟨#[38, 35, 49, 48, 59]⟩ : ByteArray)), (wrap64 (x6_1 + 1)), rG, rG, H', ⟨by have := HK1.out; omega⟩, by repeat (first | exact Drawn0.refl _ | apply Drawn0.step)⟩
           ·replace c25 := Bool.eq_false_iff.mpr c25
            subst c25
            rw [if_neg (show ¬ (false = true) by decide)] at H
            obtain ⟨c27, H⟩ := if_som H
            obtain ⟨c27b0, c27b1⟩ := fcT c27
            try have c27b2 : (9223372036854775807 < x5_1.size + (a0.extract (x6_1 : Int).toNat ((wrap64 (x6_1 + 1)) : Int).toNat).size) = False := eq_false (Nat.not_lt.2 c27)
            have H' := Aside0.mk H
            clear H
            have p7 : 0 ≤ (x6_1 : Int) := odt
            have q7 : x6_1 < (a0.size : Int) := odt
            have hx7 := bt_at a0 x6_1
            replace p7 := eq_true p7
            replace q7 := eq_true q7
            go_wp2
            go_roundg k1
            case measure => have := HK1.out; omega
            case rel => exact ⟨(x5_1 ++ (a0.extract (x6_1 : Int).toNat ((wrap64 (x6_1 + 1)) : Int).toNat)), (wrap64 (x6_1 + 1)), rG, rG, H', ⟨by have := HK1.out; omega⟩, by repeat (first | exact Drawn0.refl _ | apply Drawn0.step)⟩
          ·rw [if_neg c24] at H
           obtain ⟨c24b0, c24b1⟩ := eqF c24
           obtain ⟨c28, H⟩ := if_som H
           obtain ⟨c28b0, c28b1⟩ := fcT c28
           try have c28b2 : (9223372036854775807 < x5_1.size + (a0.extract (x6_1 : Int).toNat ((wrap64 (x6_1 + 1)) : Int).toNat).size) = False := eq_false (Nat.not_lt.2 c28)
           have H' := Aside0.mk H
           clear H
           have p7 : 0 ≤ (x6_1 : Int) := odt
           have q7 : x6_1 < (a0.size : Int) := odt
           have hx7 := bt_at a0 x6_1
           replace p7 := eq_true p7
           replace q7 := eq_true q7
           go_wp2
           go_roundg k1
           case measure => have := HK1.out; omega
           case rel => exact ⟨(x5_1 ++ (a0.extract (x6_1 : Int).toNat ((wrap64 (x6_1 + 1)) : Int).toNat)), (wrap64 (x6_1 + 1)), rG, rG, H', ⟨by have := HK1.out; omega⟩, by repeat (first | exact Drawn0.refl _ | apply Drawn0.step)⟩
   ·rw [if_neg c3] at H
    have c3b0 : decide (x6_1 < (a0.size : Int)) = false := decide_eq_false c3
    clear c3
    obtain rfl := Option.some.inj H
    go_wp2
    go_ret
    exact ⟨by first | rfl | (simp; done) | (simp [*]; done), by repeat (first | exact Drawn0.refl _ | apply Drawn0.step)⟩

/-! ### spec_EscText: function 129 -/
def spec_EscText.f (k : Nat) (a0 : ByteArray) : Option (ByteArray) := (spec_l3Esc.f k a0 false).bind fun t274 => (some t274)
theorem spec_EscText.calls (k : Nat) (a0 : ByteArray) (r : ByteArray) (w : World) (h : spec_EscText.f k a0 = some r) :
  Calls Tryz.prog 129 #[.string a0] w fun e w' => e = .returned (.string r) ∧ Drawn0 w w' := by
 have H : ((spec_l3Esc.f k a0 false).bind fun t274 => (some t274)) = some r := h
 clear h
 replace H := Option.bind_eq_some_iff.mp H
 obtain ⟨t274, A20, H⟩ := H
 try dsimp only at H
 have A2 := Aside0.mk A20
 clear A20
 obtain rfl := Option.some.inj H
 go_enter Tryz.func129, Tryz.ntmps129
 go_wp2_with (first | ((with_reducible refine gate_callee (f := 152) rfl ?_); refine goesL_ (some 4) rfl rfl Tryz.func152 (by kernel_rfl) rfl #[.string a0, .bool false] rfl mA ?_; (with_reducible refine (spec_l3Esc.calls k a0 false t274 _ A2.out).mono ?_); rintro e w' ⟨rfl, ⟨nd, rfl⟩⟩; refine ⟨_, rfl, ?_⟩))
 go_ret
 exact ⟨by first | rfl | (simp; done) | (simp [*]; done), by repeat (first | exact Drawn0.refl _ | apply Drawn0.step)⟩

/-! ### spec_SplitName: function 153 -/
def spec_SplitName.l0 : Nat → ByteArray → Int → Option (ByteArray × ByteArray × Bool)
 | 0, _, _ => none
 | k + 1, x0, x5 => if x5 < (x0.size : Int) then (if 0 ≤ x5 then (if (bt x0 x5) = 58 then (if x5 ≤ (x0.size : Int) then ((spec_PlainOk.f k (x0.extract 0 (x5 : Int).toNat)).bind fun t276 => (if t276 = true then (if 0 ≤ (wrap64 (x5 + 1)) then (if (wrap64 (x5 + 1)) ≤ (x0.size : Int) then ((spec_PlainOk.f k (x0.extract ((wrap64 (x5 + 1)) : Int).toNat x0.size)).bind fun t277 => (if t277 = true then (some (x0.extract 0 (x5 : Int).toNat, x0.extract ((wrap64 (x5 + 1)) : Int).toNat x0.size, true)) else (some ((⟨#[]⟩ : ByteArray), (⟨#[]⟩ : ByteArray), false)))) else (none)) else (none)) else (some ((⟨#[]⟩ : ByteArray), (⟨#[]⟩ : ByteArray), false)))) else (none)) else (spec_SplitName.l0 k x0 (wrap64 (x5 + 1)))) else (none)) else (some ((⟨#[]⟩ : ByteArray), (⟨#[]⟩ : ByteArray), false))
def spec_SplitName.f (k : Nat) (a0 : ByteArray) : Option (ByteArray × ByteArray × Bool) := (spec_PlainOk.f k a0).bind fun t275 => (if t275 = true then (some ((⟨#[]⟩ : ByteArray), a0, true)) else (spec_SplitName.l0 k a0 0))
theorem spec_SplitName.calls (k : Nat) (a0 : ByteArray) (r1 : ByteArray) (r2 : ByteArray) (r3 : Bool) (w : World) (h : spec_SplitName.f k a0 = some (r1, r2, r3)) :
  Calls Tryz.prog 153 #[.string a0] w fun e w' => e = .returned (.tuple #[.string r1, .string r2, .bool r3]) ∧ Below w.heap.size w w' := by
 have HB := Aside0.mk (Below.refl w.heap.size w)
 have H : ((spec_PlainOk.f k a0).bind fun t275 => (if t275 = true then (some ((⟨#[]⟩ : ByteArray), a0, true)) else (spec_SplitName.l0 k a0 0))) = some (r1, r2, r3) := h
 clear h
 replace H := Option.bind_eq_some_iff.mp H
 obtain ⟨t275, A20, H⟩ := H
 try dsimp only at H
 have A2 := Aside0.mk A20
 clear A20
 by_cases c3 : t275 = true
 ·subst c3
  rw [if_pos rfl] at H
  simp only [Option.some.injEq, Prod.mk.injEq] at H
  obtain ⟨rfl, rfl, rfl⟩ := H
  go_enter Tryz.func153, Tryz.ntmps153
  go_wp2_with (first | (go_at_call 119; (with_reducible refine (spec_PlainOk.calls k a0 true _ A2.out).mono ?_); rintro e w4 ⟨rfl, hb⟩; replace HB := Aside0.mk (below_step hB hb); (try clear hb); (try clear hb2); (try clear hk); (try clear hi)))
  repeat (go_quiet (first | (go_at_call 119; (with_reducible refine (spec_PlainOk.calls k a0 true _ A2.out).mono ?_); rintro e w4 ⟨rfl, hb⟩; replace HB := Aside0.mk (below_step hB hb); (try clear hb); (try clear hb2); (try clear hk); (try clear hi))); try go_wp2_with (first | (go_at_call 119; (with_reducible refine (spec_PlainOk.calls k a0 true _ A2.out).mono ?_); rintro e w4 ⟨rfl, hb⟩; replace HB := Aside0.mk (below_step hB hb); (try clear hb); (try clear hb2); (try clear hk); (try clear hi))))
  go_ret3
  exact ⟨rE, hB⟩
 ·replace c3 := Bool.eq_false_iff.mpr c3
  subst c3
  rw [if_neg (show ¬ (false = true) by decide)] at H
  have H' := Aside0.mk H
  clear H
  go_enter Tryz.func153, Tryz.ntmps153
  go_wp2_with (first | (go_at_call 119; (with_reducible refine (spec_PlainOk.calls k a0 false _ A2.out).mono ?_); rintro e w5 ⟨rfl, hb⟩; replace HB := Aside0.mk (below_step hB hb); (try clear hb); (try clear hb2); (try clear hk); (try clear hi)))
  repeat (go_quiet (first | (go_at_call 119; (with_reducible refine (spec_PlainOk.calls k a0 false _ A2.out).mono ?_); rintro e w5 ⟨rfl, hb⟩; replace HB := Aside0.mk (below_step hB hb); (try clear hb); (try clear hb2); (try clear hk); (try clear hi))); try go_wp2_with (first | (go_at_call 119; (with_reducible refine (spec_PlainOk.calls k a0 false _ A2.out).mono ?_); rintro e w5 ⟨rfl, hb⟩; replace HB := Aside0.mk (below_step hB hb); (try clear hb); (try clear hb2); (try clear hk); (try clear hi))))
  go_loopg [5] k (fun kq v5 w' => ∃ (x5_1 : Int), v5 = .int .i64 x5_1 ∧ Aside0 (spec_SplitName.l0 kq a0 x5_1 = some (r1, r2, r3)) ∧ Aside0 (kq ≤ k) ∧ Aside0 (Below w.heap.size w w'))
  case atStart => exact ⟨(0), rG, H', ⟨Nat.le_refl _⟩, ⟨hB⟩⟩
  case round =>
   clear H'
   try clear c3
   obtain ⟨x5_1, rfl, HA, HK1, HB⟩ := hrel
   cases gk with
   | zero => exact absurd HA.out (by simp [spec_SplitName.l0])
   | succ k1 =>
    have H := HA.out
    clear HA
    simp only [spec_SplitName.l0] at H
    by_cases c6 : x5_1 < (a0.size : Int)
    ·rw [if_pos c6] at H
     have c6b0 : decide (x5_1 < (a0.size : Int)) = true := decide_eq_true c6
     clear c6
     obtain ⟨c7, H⟩ := if_som H
     have c7b0 : decide (0 ≤ x5_1) = true := decide_eq_true c7
     clear c7
     by_cases c9 : (bt a0 x5_1) = 58
     ·rw [if_pos c9] at H
      obtain ⟨c9b0, c9b1⟩ := eqT c9
      clear c9
      have c10b0 := eq_true (odt : 0 ≤ x5_1)
      obtain ⟨c11, H⟩ := if_som H
      obtain ⟨c11b0, c11b1⟩ := fcT c11
      clear c11
      replace H := Option.bind_eq_some_iff.mp H
      obtain ⟨t276, A120, H⟩ := H
      try dsimp only at H
      have A12 := Aside0.mk A120
      clear A120
      by_cases c13 : t276 = true
      ·subst c13
       rw [if_pos rfl] at H
       obtain ⟨ji14, hji14⟩ : ∃ j_ : Int, (wrap64 (x5_1 + 1)) = j_ := ⟨_, rfl⟩
       replace H : (if 0 ≤ (ji14) then (if (ji14) ≤ (a0.size : Int) then ((spec_PlainOk.f k1 (a0.extract ((ji14) : Int).toNat a0.size)).bind fun t277 => (if t277 = true then (some (a0.extract 0 (x5_1 : Int).toNat, a0.extract ((ji14) : Int).toNat a0.size, true)) else (some ((⟨#[]⟩ : ByteArray), (⟨#[]⟩ : ByteArray), false)))) else (none)) else (none)) = some (r1, r2, r3) := by first | (rw [hji14] at H; exact H) | (simp only [hji14] at H ⊢; exact H)
       (try rw [hji14] at A12)
       have hji14w : (IntKind.i64.wrap (x5_1 + 1)) = ji14 := (i64_w _).trans hji14
       obtain ⟨c15, H⟩ := if_som H
       obtain ⟨c15b0, c15b1⟩ := fcT c15
       clear c15
       obtain ⟨c16, H⟩ := if_som H
       obtain ⟨c16b0, c16b1⟩ := fcT c16
       clear c16
       replace H := Option.bind_eq_some_iff.mp H
       obtain ⟨t277, A170, H⟩ := H
       try dsimp only at H
       have A17 := Aside0.mk A170
       clear A170
       by_cases c18 : t277 = true
       ·subst c18
        rw [if_pos rfl] at H
        have c19b0 := eq_true (odt : 0 ≤ x5_1)
        have c20b0 := eq_true (odt : x5_1 ≤ (a0.size : Int))
        have c21b0 := eq_true (odt : 0 ≤ (ji14))
        have c22b0 := eq_true (odt : (ji14) ≤ (a0.size : Int))
        simp only [Option.some.injEq, Prod.mk.injEq] at H
        obtain ⟨rfl, rfl, rfl⟩ := H
        have p8 : 0 ≤ (x5_1 : Int) := odt
        have q8 : x5_1 < (a0.size : Int) := odt
        have hx8 := bt_at a0 x5_1
        replace p8 := eq_true p8
        replace q8 := eq_true q8
        go_wp2_with (first | (go_at_call 119; (with_reducible refine (spec_PlainOk.calls k1 (a0.extract 0 (x5_1 : Int).toNat) true _ A12.out).mono ?_); rintro e w23 ⟨rfl, hb⟩; replace HB := Aside0.mk (below_step hB hb); (try clear hb); (try clear hb2); (try clear hk); (try clear hi)) | (go_at_call 119; (with_reducible refine (spec_PlainOk.calls k1 (a0.extract ((ji14) : Int).toNat a0.size) true _ A17.out).mono ?_); rintro e w24 ⟨rfl, hb⟩; replace HB := Aside0.mk (below_step hB hb); (try clear hb); (try clear hb2); (try clear hk); (try clear hi)))
        repeat (go_quiet (first | (go_at_call 119; (with_reducible refine (spec_PlainOk.calls k1 (a0.extract 0 (x5_1 : Int).toNat) true _ A12.out).mono ?_); rintro e w23 ⟨rfl, hb⟩; replace HB := Aside0.mk (below_step hB hb); (try clear hb); (try clear hb2); (try clear hk); (try clear hi)) | (go_at_call 119; (with_reducible refine (spec_PlainOk.calls k1 (a0.extract ((ji14) : Int).toNat a0.size) true _ A17.out).mono ?_); rintro e w24 ⟨rfl, hb⟩; replace HB := Aside0.mk (below_step hB hb); (try clear hb); (try clear hb2); (try clear hk); (try clear hi))); try go_wp2_with (first | (go_at_call 119; (with_reducible refine (spec_PlainOk.calls k1 (a0.extract 0 (x5_1 : Int).toNat) true _ A12.out).mono ?_); rintro e w23 ⟨rfl, hb⟩; replace HB := Aside0.mk (below_step hB hb); (try clear hb); (try clear hb2); (try clear hk); (try clear hi)) | (go_at_call 119; (with_reducible refine (spec_PlainOk.calls k1 (a0.extract ((ji14) : Int).toNat a0.size) true _ A17.out).mono ?_); rintro e w24 ⟨rfl, hb⟩; replace HB := Aside0.mk (below_step hB hb); (try clear hb); (try clear hb2); (try clear hk); (try clear hi))))
        go_ret3
        exact ⟨by first | rfl | (simp [errW_none, errW_some] <;> rfl) | (simp only [← hji14]; first | rfl | (simp [errW_none, errW_some] <;> rfl)) | (simp [*, errW_none, errW_some] <;> rfl), hB⟩
       ·replace c18 := Bool.eq_false_iff.mpr c18
        subst c18
        rw [if_neg (show ¬ (false = true) by decide)] at H
        simp only [Option.some.injEq, Prod.mk.injEq] at H
        obtain ⟨rfl, rfl, rfl⟩ := H
        have p8 : 0 ≤ (x5_1 : Int) := odt
        have q8 : x5_1 < (a0.size : Int) := odt
        have hx8 := bt_at a0 x5_1
        replace p8 := eq_true p8
        replace q8 := eq_true q8
        go_wp2_with (first | (go_at_call 119; (with_reducible refine (spec_PlainOk.calls k1 (a0.extract 0 (x5_1 : Int).toNat) true _ A12.out).mono ?_); rintro e w25 ⟨rfl, hb⟩; replace HB := Aside0.mk (below_step hB hb); (try clear hb); (try clear hb2); (try clear hk); (try clear hi)) | (go_at_call 119; (with_reducible refine (spec_PlainOk.calls k1 (a0.extract ((ji14) : Int).toNat a0.size) false _ A17.out).mono ?_); rintro e w26 ⟨rfl, hb⟩; replace HB := Aside0.mk (below_step hB hb); (try clear hb); (try clear hb2); (try clear hk); (try clear hi)))
        repeat (go_quiet (first | (go_at_call 119; (with_reducible refine (spec_PlainOk.calls k1 (a0.extract 0 (x5_1 : Int).toNat) true _ A12.out).mono ?_); rintro e w25 ⟨rfl, hb⟩; replace HB := Aside0.mk (below_step hB hb); (try clear hb); (try clear hb2); (try clear hk); (try clear hi)) | (go_at_call 119; (with_reducible refine (spec_PlainOk.calls k1 (a0.extract ((ji14) : Int).toNat a0.size) false _ A17.out).mono ?_); rintro e w26 ⟨rfl, hb⟩; replace HB := Aside0.mk (below_step hB hb); (try clear hb); (try clear hb2); (try clear hk); (try clear hi))); try go_wp2_with (first | (go_at_call 119; (with_reducible refine (spec_PlainOk.calls k1 (a0.extract 0 (x5_1 : Int).toNat) true _ A12.out).mono ?_); rintro e w25 ⟨rfl, hb⟩; replace HB := Aside0.mk (below_step hB hb); (try clear hb); (try clear hb2); (try clear hk); (try clear hi)) | (go_at_call 119; (with_reducible refine (spec_PlainOk.calls k1 (a0.extract ((ji14) : Int).toNat a0.size) false _ A17.out).mono ?_); rintro e w26 ⟨rfl, hb⟩; replace HB := Aside0.mk (below_step hB hb); (try clear hb); (try clear hb2); (try clear hk); (try clear hi))))
        go_ret3
        exact ⟨by first | rfl | (simp [errW_none, errW_some] <;> rfl) | (simp only [← hji14]; first | rfl | (simp [errW_none, errW_some] <;> rfl)) | (simp [*, errW_none, errW_some] <;> rfl), hB⟩
      ·replace c13 := Bool.eq_false_iff.mpr c13
       subst c13
       rw [if_neg (show ¬ (false = true) by decide)] at H
       simp only [Option.some.injEq, Prod.mk.injEq] at H
       obtain ⟨rfl, rfl, rfl⟩ := H
       have p8 : 0 ≤ (x5_1 : Int) := odt
       have q8 : x5_1 < (a0.size : Int) := odt
       have hx8 := bt_at a0 x5_1
       replace p8 := eq_true p8
       replace q8 := eq_true q8
       go_wp2_with (first | (go_at_call 119; (with_reducible refine (spec_PlainOk.calls k1 (a0.extract 0 (x5_1 : Int).toNat) false _ A12.out).mono ?_); rintro e w27 ⟨rfl, hb⟩; replace HB := Aside0.mk (below_step hB hb); (try clear hb); (try clear hb2); (try clear hk); (try clear hi)))
       repeat (go_quiet (first | (go_at_call 119; (with_reducible refine (spec_PlainOk.calls k1 (a0.extract 0 (x5_1 : Int).toNat) false _ A12.out).mono ?_); rintro e w27 ⟨rfl, hb⟩; replace HB := Aside0.mk (below_step hB hb); (try clear hb); (try clear hb2); (try clear hk); (try clear hi))); try go_wp2_with (first | (go_at_call 119; (with_reducible refine (spec_PlainOk.calls k1 (a0.extract 0 (x5_1 : Int).toNat) false _ A12.out).mono ?_); rintro e w27 ⟨rfl, hb⟩; replace HB := Aside0.mk (below_step hB hb); (try clear hb); (try clear hb2); (try clear hk); (try clear hi))))
       go_ret3
       exact ⟨rE, hB⟩
     ·rw [if_neg c9] at H
      obtain ⟨c9b0, c9b1⟩ := eqF c9
      have H' := Aside0.mk H
      clear H
      have p8 : 0 ≤ (x5_1 : Int) := odt
      have q8 : x5_1 < (a0.size : Int) := odt
      have hx8 := bt_at a0 x5_1
      replace p8 := eq_true p8
      replace q8 := eq_true q8
      go_wp2
      repeat (go_quiet (fail); try go_wp2)
      go_roundg k1
      case measure => have := HK1.out; omega
      case rel => exact ⟨(wrap64 (x5_1 + 1)), rG, H', ⟨by have := HK1.out; omega⟩, ⟨hB⟩⟩
    ·rw [if_neg c6] at H
     have c6b0 : decide (x5_1 < (a0.size : Int)) = false := decide_eq_false c6
     clear c6
     simp only [Option.some.injEq, Prod.mk.injEq] at H
     obtain ⟨rfl, rfl, rfl⟩ := H
     go_wp2
     repeat (go_quiet (fail); try go_wp2)
     go_ret3
     exact ⟨rE, hB⟩

/-! ### spec_JoinName: function 130 -/
def spec_JoinName.f (k : Nat) (a0 : ByteArray) (a1 : ByteArray) : Option (ByteArray) := if a0.toList = ([] : List UInt8) then ((spec_SplitName.f k a1).bind fun bt278 => (if bt278.2.2 = true then (if bt278.1.toList = a0.toList then (if bt278.2.1.toList = a1.toList then (some a1) else (some (⟨#[]⟩ : ByteArray))) else (some (⟨#[]⟩ : ByteArray))) else (some (⟨#[]⟩ : ByteArray)))) else (if a0.size + 1 ≤ 9223372036854775807 then (if (a0 ++ (⟨#[58]⟩ : ByteArray)).size + a1.size ≤ 9223372036854775807 then ((spec_SplitName.f k ((a0 ++ (⟨#[58]⟩ : ByteArray)) ++ a1)).bind fun bt281 => (if bt281.2.2 = true then (if bt281.1.toList = a0.toList then (if bt281.2.1.toList = a1.toList then (some ((a0 ++ (⟨#[58]⟩ : ByteArray)) ++ a1)) else (some (⟨#[]⟩ : ByteArray))) else (some (⟨#[]⟩ : ByteArray))) else (some (⟨#[]⟩ : ByteArray)))) else (none)) else (none))
theorem spec_JoinName.calls (k : Nat) (a0 : ByteArray) (a1 : ByteArray) (r : ByteArray) (w : World) (h : spec_JoinName.f k a0 a1 = some r) :
  Calls Tryz.prog 130 #[.string a0, .string a1] w fun e w' => e = .returned (.string r) ∧ Below w.heap.size w w' := by
 have HB := Aside0.mk (Below.refl w.heap.size w)
 have H : (if a0.toList = ([] : List UInt8) then ((spec_SplitName.f k a1).bind fun bt278 => (if bt278.2.2 = true then (if bt278.1.toList = a0.toList then (if bt278.2.1.toList = a1.toList then (some a1) else (some (⟨#[]⟩ : ByteArray))) else (some (⟨#[]⟩ : ByteArray))) else (some (⟨#[]⟩ : ByteArray)))) else (if a0.size + 1 ≤ 9223372036854775807 then (if (a0 ++ (⟨#[58]⟩ : ByteArray)).size + a1.size ≤ 9223372036854775807 then ((spec_SplitName.f k ((a0 ++ (⟨#[58]⟩ : ByteArray)) ++ a1)).bind fun bt281 => (if bt281.2.2 = true then (if bt281.1.toList = a0.toList then (if bt281.2.1.toList = a1.toList then (some ((a0 ++ (⟨#[58]⟩ : ByteArray)) ++ a1)) else (some (⟨#[]⟩ : ByteArray))) else (some (⟨#[]⟩ : ByteArray))) else (some (⟨#[]⟩ : ByteArray)))) else (none)) else (none))) = some r := h
 clear h
 by_cases c3 : a0.toList = ([] : List UInt8)
 ·rw [if_pos c3] at H
  obtain ⟨c3b0, c3b1⟩ := eqT c3
  clear c3
  replace H := Option.bind_eq_some_iff.mp H
  obtain ⟨⟨t278, t279, t280⟩, A40, H⟩ := H
  try dsimp only at H
  have A4 := Aside0.mk A40
  clear A40
  go_enter Tryz.func130, Tryz.ntmps130
  go_wp2_with (first | ((with_reducible refine gate_callee (f := 153) rfl ?_); refine goesL_ (some 18) rfl rfl Tryz.func153 (by kernel_rfl) rfl #[.string a1] rfl mA ?_; (with_reducible refine (spec_SplitName.calls k a1 t278 t279 t280 _ A4.out).mono ?_); rintro e w5 ⟨rfl, hb⟩; refine ⟨_, rfl, ?_⟩; replace HB := Aside0.mk (below_step hB hb); (try clear hb); (try clear hb2); (try clear hk); (try clear hi); refine halt_ ?_; intro q_ hq_))
  obtain ⟨rfl⟩ := hq_
  by_cases c6 : t280 = true
  ·subst c6
   rw [if_pos rfl] at H
   by_cases c7 : t278.toList = a0.toList
   ·rw [if_pos c7] at H
    obtain ⟨c7b0, c7b1⟩ := eqT c7
    clear c7
    by_cases c8 : t279.toList = a1.toList
    ·rw [if_pos c8] at H
     obtain ⟨c8b0, c8b1⟩ := eqT c8
     clear c8
     obtain rfl := Option.some.inj H
     go_wp2
     go_ret
     exact ⟨rE, hB⟩
    ·rw [if_neg c8] at H
     obtain ⟨c8b0, c8b1⟩ := eqF c8
     obtain rfl := Option.some.inj H
     go_wp2
     go_ret
     exact ⟨rE, hB⟩
   ·rw [if_neg c7] at H
    obtain ⟨c7b0, c7b1⟩ := eqF c7
    obtain rfl := Option.some.inj H
    go_wp2
    go_ret
    exact ⟨rE, hB⟩
  ·replace c6 := Bool.eq_false_iff.mpr c6
   subst c6
   rw [if_neg (show ¬ (false = true) by decide)] at H
   obtain rfl := Option.some.inj H
   go_wp2
   go_ret
   exact ⟨rE, hB⟩
 ·rw [if_neg c3] at H
  obtain ⟨c3b0, c3b1⟩ := eqF c3
  obtain ⟨c9, H⟩ := if_som H
  obtain ⟨c9b0, c9b1⟩ := fcT c9
  try have c9b2 : (9223372036854775807 < a0.size + 1) = False := eq_false (Nat.not_lt.2 c9)
  obtain ⟨c10, H⟩ := if_som H
  obtain ⟨c10b0, c10b1⟩ := fcT c10
  try have c10b2 : (9223372036854775807 < (a0 ++ (⟨#[58]⟩ : ByteArray)).size + a1.size) = False := eq_false (Nat.not_lt.2 c10)
  replace H := Option.bind_eq_some_iff.mp H
  obtain ⟨⟨t281, t282, t283⟩, A110, H⟩ := H
  try dsimp only at H
  have A11 := Aside0.mk A110
  clear A110
  go_enter Tryz.func130, Tryz.ntmps130
  go_wp2_with (first | ((with_reducible refine gate_callee (f := 153) rfl ?_); refine goesL_ (some 18) rfl rfl Tryz.func153 (by kernel_rfl) rfl #[.string ((a0 ++ (⟨#[58]⟩ : ByteArray)) ++ a1)] rfl mA ?_; (with_reducible refine (spec_SplitName.calls k ((a0 ++ (⟨#[58]⟩ : ByteArray)) ++ a1) t281 t282 t283 _ A11.out).mono ?_); rintro e w12 ⟨rfl, hb⟩; refine ⟨_, rfl, ?_⟩; replace HB := Aside0.mk (below_step hB hb); (try clear hb); (try clear hb2); (try clear hk); (try clear hi); refine halt_ ?_; intro q_ hq_))
  obtain ⟨rfl⟩ := hq_
  by_cases c13 : t283 = true
  ·subst c13
   rw [if_pos rfl] at H
   by_cases c14 : t281.toList = a0.toList
   ·rw [if_pos c14] at H
    obtain ⟨c14b0, c14b1⟩ := eqT c14
    clear c14
    by_cases c15 : t282.toList = a1.toList
    ·rw [if_pos c15] at H
     obtain ⟨c15b0, c15b1⟩ := eqT c15
     clear c15
     obtain rfl := Option.some.inj H
     go_wp2
     go_ret
     exact ⟨rE, hB⟩
    ·rw [if_neg c15] at H
     obtain ⟨c15b0, c15b1⟩ := eqF c15
     obtain rfl := Option.some.inj H
     go_wp2
     go_ret
     exact ⟨rE, hB⟩
   ·rw [if_neg c14] at H
    obtain ⟨c14b0, c14b1⟩ := eqF c14
    obtain rfl := Option.some.inj H
    go_wp2
    go_ret
    exact ⟨rE, hB⟩
  ·replace c13 := Bool.eq_false_iff.mpr c13
   subst c13
   rw [if_neg (show ¬ (false = true) by decide)] at H
   obtain rfl := Option.some.inj H
   go_wp2
   go_ret
   exact ⟨rE, hB⟩
/-! ### spec_EscAttr: function 131 -/
def spec_EscAttr.f (k : Nat) (a0 : ByteArray) : Option (ByteArray) := (spec_l3Esc.f k a0 true).bind fun t284 => (some t284)
theorem spec_EscAttr.calls (k : Nat) (a0 : ByteArray) (r : ByteArray) (w : World) (h : spec_EscAttr.f k a0 = some r) :
  Calls Tryz.prog 131 #[.string a0] w fun e w' => e = .returned (.string r) ∧ Drawn0 w w' := by
 have H : ((spec_l3Esc.f k a0 true).bind fun t284 => (some t284)) = some r := h
 clear h
 replace H := Option.bind_eq_some_iff.mp H
 obtain ⟨t284, A20, H⟩ := H
 try dsimp only at H
 have A2 := Aside0.mk A20
 clear A20
 obtain rfl := Option.some.inj H
 go_enter Tryz.func131, Tryz.ntmps131
 go_wp2_with (first | ((with_reducible refine gate_callee (f := 152) rfl ?_); refine goesL_ (some 4) rfl rfl Tryz.func152 (by kernel_rfl) rfl #[.string a0, .bool true] rfl mA ?_; (with_reducible refine (spec_l3Esc.calls k a0 true t284 _ A2.out).mono ?_); rintro e w' ⟨rfl, ⟨nd, rfl⟩⟩; refine ⟨_, rfl, ?_⟩))
 go_ret
 exact ⟨by first | rfl | (simp; done) | (simp [*]; done), by repeat (first | exact Drawn0.refl _ | apply Drawn0.step)⟩

end Go.Proofs.YtalionlkjdgciaaGreatDoor.PA
