-- Written by the session's program hprint.py, over the kit's print program. Lean checks it.
import Derived.Test.YtlfjdaoibjjakaaDoorPZx0
namespace Go.Proofs.YtlfjdaoibjjakaaDoor.PZ
open Go.RowKit Go.Proofs.YtlfjdaoibjjakaaDoorW.PrintWords Go.Proofs.YtlfjdaoibjjakaaDoorW.PrintLast Go.Proofs.YtlfjdaoibjjakaaDoorW.PrintMore
attribute [local go_sem] max2_int min2_int max_two min_two max_three min_three max_four min_four   -- for this text's walks alone
set_option linter.unusedVariables false
set_option linter.unusedSimpArgs false

/-! ### spec_l5Xml: function 81 -/
def spec_l5Xml.f (a0 : ByteArray) : Option (Bool) := if (a0.size : Int) = 3 then (if 0 < (a0.size : Int) then (if (bt a0 0) = 120 then (if 1 < (a0.size : Int) then (if (bt a0 1) = 109 then (if 2 < (a0.size : Int) then (if (bt a0 2) = 108 then (some true) else (some ((bt a0 2) == 76))) else (none)) else (if (bt a0 1) = 77 then (if 2 < (a0.size : Int) then (if (bt a0 2) = 108 then (some true) else (some ((bt a0 2) == 76))) else (none)) else (some false))) else (none)) else (if (bt a0 0) = 88 then (if 1 < (a0.size : Int) then (if (bt a0 1) = 109 then (if 2 < (a0.size : Int) then (if (bt a0 2) = 108 then (some true) else (some ((bt a0 2) == 76))) else (none)) else (if (bt a0 1) = 77 then (if 2 < (a0.size : Int) then (if (bt a0 2) = 108 then (some true) else (some ((bt a0 2) == 76))) else (none)) else (some false))) else (none)) else (some false))) else (none)) else (some false)
set_option maxHeartbeats 8000000 in
set_option maxRecDepth 100000 in
theorem spec_l5Xml.calls (a0 : ByteArray) (r : Bool) (w : World) (h : spec_l5Xml.f a0 = some r) :
  Calls Tryd.prog 81 #[.string a0] w fun e w' => e = .returned (.bool r) ∧ Drawn0 w w' := by
 have H : (if (a0.size : Int) = 3 then (if 0 < (a0.size : Int) then (if (bt a0 0) = 120 then (if 1 < (a0.size : Int) then (if (bt a0 1) = 109 then (if 2 < (a0.size : Int) then (if (bt a0 2) = 108 then (some true) else (some ((bt a0 2) == 76))) else (none)) else (if (bt a0 1) = 77 then (if 2 < (a0.size : Int) then (if (bt a0 2) = 108 then (some true) else (some ((bt a0 2) == 76))) else (none)) else (some false))) else (none)) else (if (bt a0 0) = 88 then (if 1 < (a0.size : Int) then (if (bt a0 1) = 109 then (if 2 < (a0.size : Int) then (if (bt a0 2) = 108 then (some true) else (some ((bt a0 2) == 76))) else (none)) else (if (bt a0 1) = 77 then (if 2 < (a0.size : Int) then (if (bt a0 2) = 108 then (some true) else (some ((bt a0 2) == 76))) else (none)) else (some false))) else (none)) else (some false))) else (none)) else (some false)) = some r := h
 clear h
 by_cases c2 : (a0.size : Int) = 3
 ·rw [if_pos c2] at H
  have c2b0 : ((a0.size : Int) == 3) = true := beq_iff_eq.mpr c2
  have c2b1 : ((a0.size : Int) != 3) = false := bne_eq_false_iff_eq.mpr c2
  clear c2
  by_cases c3 : 0 < (a0.size : Int)
  ·rw [if_pos c3] at H
   have c3b0 : decide (0 < (a0.size : Int)) = true := decide_eq_true c3
   have c3b1 : decide (0 < a0.size) = true := decide_eq_true (by omega)
   clear c3
   by_cases c5 : (bt a0 0) = 120
   ·rw [if_pos c5] at H
    have c5b0 : ((bt a0 0) == 120) = true := beq_iff_eq.mpr c5
    have c5b1 : ((bt a0 0) != 120) = false := bne_eq_false_iff_eq.mpr c5
    clear c5
    by_cases c6 : 1 < (a0.size : Int)
    ·rw [if_pos c6] at H
     have c6b0 : decide (1 < (a0.size : Int)) = true := decide_eq_true c6
     have c6b1 : decide (1 < a0.size) = true := decide_eq_true (by omega)
     clear c6
     by_cases c8 : (bt a0 1) = 109
     ·rw [if_pos c8] at H
      have c8b0 : ((bt a0 1) == 109) = true := beq_iff_eq.mpr c8
      have c8b1 : ((bt a0 1) != 109) = false := bne_eq_false_iff_eq.mpr c8
      clear c8
      by_cases c9 : 2 < (a0.size : Int)
      ·rw [if_pos c9] at H
       have c9b0 : decide (2 < (a0.size : Int)) = true := decide_eq_true c9
       have c9b1 : decide (2 < a0.size) = true := decide_eq_true (by omega)
       clear c9
       by_cases c11 : (bt a0 2) = 108
       ·rw [if_pos c11] at H
        have c11b0 : ((bt a0 2) == 108) = true := beq_iff_eq.mpr c11
        have c11b1 : ((bt a0 2) != 108) = false := bne_eq_false_iff_eq.mpr c11
        clear c11
        obtain rfl := Option.some.inj H
        have p4 : 0 ≤ (0 : Int) := (by omega)
        have q4 : 0 < a0.size := (by have : (0 : Int) < (a0.size : Int) := odt; omega)
        have hx4 : ∀ h : 0 < a0.size, ((a0[0]'h).toNat : Int) = bt a0 0 := bt_at a0 0
        clear p4
        have qi4 : (0 < (a0.size : Int)) = True := eq_true (odt)
        replace q4 := eq_true q4
        have p7 : 0 ≤ (1 : Int) := (by omega)
        have q7 : 1 < a0.size := (by have : (1 : Int) < (a0.size : Int) := odt; omega)
        have hx7 : ∀ h : 1 < a0.size, ((a0[1]'h).toNat : Int) = bt a0 1 := bt_at a0 1
        clear p7
        have qi7 : (1 < (a0.size : Int)) = True := eq_true (odt)
        replace q7 := eq_true q7
        have p10 : 0 ≤ (2 : Int) := (by omega)
        have q10 : 2 < a0.size := (by have : (2 : Int) < (a0.size : Int) := odt; omega)
        have hx10 : ∀ h : 2 < a0.size, ((a0[2]'h).toNat : Int) = bt a0 2 := bt_at a0 2
        clear p10
        have qi10 : (2 < (a0.size : Int)) = True := eq_true (odt)
        replace q10 := eq_true q10
        go_enter Tryd.func81, Tryd.ntmps81
        go_wp2
        go_ret
        exact ⟨by first | rfl | (simp; done) | (simp [*]; done), by repeat (first | exact Drawn0.refl _ | apply Drawn0.step)⟩
       ·rw [if_neg c11] at H
        have c11b0 : ((bt a0 2) == 108) = false := beq_eq_false_iff_ne.mpr c11
        have c11b1 : ((bt a0 2) != 108) = true := bne_iff_ne.mpr c11
        obtain rfl := Option.some.inj H
        have p4 : 0 ≤ (0 : Int) := (by omega)
        have q4 : 0 < a0.size := (by have : (0 : Int) < (a0.size : Int) := odt; omega)
        have hx4 : ∀ h : 0 < a0.size, ((a0[0]'h).toNat : Int) = bt a0 0 := bt_at a0 0
        clear p4
        have qi4 : (0 < (a0.size : Int)) = True := eq_true (odt)
        replace q4 := eq_true q4
        have p7 : 0 ≤ (1 : Int) := (by omega)
        have q7 : 1 < a0.size := (by have : (1 : Int) < (a0.size : Int) := odt; omega)
        have hx7 : ∀ h : 1 < a0.size, ((a0[1]'h).toNat : Int) = bt a0 1 := bt_at a0 1
        clear p7
        have qi7 : (1 < (a0.size : Int)) = True := eq_true (odt)
        replace q7 := eq_true q7
        have p10 : 0 ≤ (2 : Int) := (by omega)
        have q10 : 2 < a0.size := (by have : (2 : Int) < (a0.size : Int) := odt; omega)
        have hx10 : ∀ h : 2 < a0.size, ((a0[2]'h).toNat : Int) = bt a0 2 := bt_at a0 2
        clear p10
        have qi10 : (2 < (a0.size : Int)) = True := eq_true (odt)
        replace q10 := eq_true q10
        have p12 : 0 ≤ (2 : Int) := (by omega)
        have q12 : 2 < a0.size := (by have : (2 : Int) < (a0.size : Int) := odt; omega)
        have hx12 : ∀ h : 2 < a0.size, ((a0[2]'h).toNat : Int) = bt a0 2 := bt_at a0 2
        clear p12
        have qi12 : (2 < (a0.size : Int)) = True := eq_true (odt)
        replace q12 := eq_true q12
        go_enter Tryd.func81, Tryd.ntmps81
        go_wp2
        go_ret
        exact ⟨by first | rfl | (simp; done) | (simp [*]; done), by repeat (first | exact Drawn0.refl _ | apply Drawn0.step)⟩
      ·rw [if_neg c9] at H
       exact absurd H (by simp)
     ·rw [if_neg c8] at H
      have c8b0 : ((bt a0 1) == 109) = false := beq_eq_false_iff_ne.mpr c8
      have c8b1 : ((bt a0 1) != 109) = true := bne_iff_ne.mpr c8
      by_cases c14 : (bt a0 1) = 77
      ·rw [if_pos c14] at H
       have c14b0 : ((bt a0 1) == 77) = true := beq_iff_eq.mpr c14
       have c14b1 : ((bt a0 1) != 77) = false := bne_eq_false_iff_eq.mpr c14
       clear c14
       by_cases c15 : 2 < (a0.size : Int)
       ·rw [if_pos c15] at H
        have c15b0 : decide (2 < (a0.size : Int)) = true := decide_eq_true c15
        have c15b1 : decide (2 < a0.size) = true := decide_eq_true (by omega)
        clear c15
        by_cases c17 : (bt a0 2) = 108
        ·rw [if_pos c17] at H
         have c17b0 : ((bt a0 2) == 108) = true := beq_iff_eq.mpr c17
         have c17b1 : ((bt a0 2) != 108) = false := bne_eq_false_iff_eq.mpr c17
         clear c17
         obtain rfl := Option.some.inj H
         have p4 : 0 ≤ (0 : Int) := (by omega)
         have q4 : 0 < a0.size := (by have : (0 : Int) < (a0.size : Int) := odt; omega)
         have hx4 : ∀ h : 0 < a0.size, ((a0[0]'h).toNat : Int) = bt a0 0 := bt_at a0 0
         clear p4
         have qi4 : (0 < (a0.size : Int)) = True := eq_true (odt)
         replace q4 := eq_true q4
         have p7 : 0 ≤ (1 : Int) := (by omega)
         have q7 : 1 < a0.size := (by have : (1 : Int) < (a0.size : Int) := odt; omega)
         have hx7 : ∀ h : 1 < a0.size, ((a0[1]'h).toNat : Int) = bt a0 1 := bt_at a0 1
         clear p7
         have qi7 : (1 < (a0.size : Int)) = True := eq_true (odt)
         replace q7 := eq_true q7
         have p13 : 0 ≤ (1 : Int) := (by omega)
         have q13 : 1 < a0.size := (by have : (1 : Int) < (a0.size : Int) := odt; omega)
         have hx13 : ∀ h : 1 < a0.size, ((a0[1]'h).toNat : Int) = bt a0 1 := bt_at a0 1
         clear p13
         have qi13 : (1 < (a0.size : Int)) = True := eq_true (odt)
         replace q13 := eq_true q13
         have p16 : 0 ≤ (2 : Int) := (by omega)
         have q16 : 2 < a0.size := (by have : (2 : Int) < (a0.size : Int) := odt; omega)
         have hx16 : ∀ h : 2 < a0.size, ((a0[2]'h).toNat : Int) = bt a0 2 := bt_at a0 2
         clear p16
         have qi16 : (2 < (a0.size : Int)) = True := eq_true (odt)
         replace q16 := eq_true q16
         go_enter Tryd.func81, Tryd.ntmps81
         go_wp2
         go_ret
         exact ⟨by first | rfl | (simp; done) | (simp [*]; done), by repeat (first | exact Drawn0.refl _ | apply Drawn0.step)⟩
        ·rw [if_neg c17] at H
         have c17b0 : ((bt a0 2) == 108) = false := beq_eq_false_iff_ne.mpr c17
         have c17b1 : ((bt a0 2) != 108) = true := bne_iff_ne.mpr c17
         obtain rfl := Option.some.inj H
         have p4 : 0 ≤ (0 : Int) := (by omega)
         have q4 : 0 < a0.size := (by have : (0 : Int) < (a0.size : Int) := odt; omega)
         have hx4 : ∀ h : 0 < a0.size, ((a0[0]'h).toNat : Int) = bt a0 0 := bt_at a0 0
         clear p4
         have qi4 : (0 < (a0.size : Int)) = True := eq_true (odt)
         replace q4 := eq_true q4
         have p7 : 0 ≤ (1 : Int) := (by omega)
         have q7 : 1 < a0.size := (by have : (1 : Int) < (a0.size : Int) := odt; omega)
         have hx7 : ∀ h : 1 < a0.size, ((a0[1]'h).toNat : Int) = bt a0 1 := bt_at a0 1
         clear p7
         have qi7 : (1 < (a0.size : Int)) = True := eq_true (odt)
         replace q7 := eq_true q7
         have p13 : 0 ≤ (1 : Int) := (by omega)
         have q13 : 1 < a0.size := (by have : (1 : Int) < (a0.size : Int) := odt; omega)
         have hx13 : ∀ h : 1 < a0.size, ((a0[1]'h).toNat : Int) = bt a0 1 := bt_at a0 1
         clear p13
         have qi13 : (1 < (a0.size : Int)) = True := eq_true (odt)
         replace q13 := eq_true q13
         have p16 : 0 ≤ (2 : Int) := (by omega)
         have q16 : 2 < a0.size := (by have : (2 : Int) < (a0.size : Int) := odt; omega)
         have hx16 : ∀ h : 2 < a0.size, ((a0[2]'h).toNat : Int) = bt a0 2 := bt_at a0 2
         clear p16
         have qi16 : (2 < (a0.size : Int)) = True := eq_true (odt)
         replace q16 := eq_true q16
         have p18 : 0 ≤ (2 : Int) := (by omega)
         have q18 : 2 < a0.size := (by have : (2 : Int) < (a0.size : Int) := odt; omega)
         have hx18 : ∀ h : 2 < a0.size, ((a0[2]'h).toNat : Int) = bt a0 2 := bt_at a0 2
         clear p18
         have qi18 : (2 < (a0.size : Int)) = True := eq_true (odt)
         replace q18 := eq_true q18
         go_enter Tryd.func81, Tryd.ntmps81
         go_wp2
         go_ret
         exact ⟨by first | rfl | (simp; done) | (simp [*]; done), by repeat (first | exact Drawn0.refl _ | apply Drawn0.step)⟩
       ·rw [if_neg c15] at H
        exact absurd H (by simp)
      ·rw [if_neg c14] at H
       have c14b0 : ((bt a0 1) == 77) = false := beq_eq_false_iff_ne.mpr c14
       have c14b1 : ((bt a0 1) != 77) = true := bne_iff_ne.mpr c14
       obtain rfl := Option.some.inj H
       have p4 : 0 ≤ (0 : Int) := (by omega)
       have q4 : 0 < a0.size := (by have : (0 : Int) < (a0.size : Int) := odt; omega)
       have hx4 : ∀ h : 0 < a0.size, ((a0[0]'h).toNat : Int) = bt a0 0 := bt_at a0 0
       clear p4
       have qi4 : (0 < (a0.size : Int)) = True := eq_true (odt)
       replace q4 := eq_true q4
       have p7 : 0 ≤ (1 : Int) := (by omega)
       have q7 : 1 < a0.size := (by have : (1 : Int) < (a0.size : Int) := odt; omega)
       have hx7 : ∀ h : 1 < a0.size, ((a0[1]'h).toNat : Int) = bt a0 1 := bt_at a0 1
       clear p7
       have qi7 : (1 < (a0.size : Int)) = True := eq_true (odt)
       replace q7 := eq_true q7
       have p13 : 0 ≤ (1 : Int) := (by omega)
       have q13 : 1 < a0.size := (by have : (1 : Int) < (a0.size : Int) := odt; omega)
       have hx13 : ∀ h : 1 < a0.size, ((a0[1]'h).toNat : Int) = bt a0 1 := bt_at a0 1
       clear p13
       have qi13 : (1 < (a0.size : Int)) = True := eq_true (odt)
       replace q13 := eq_true q13
       go_enter Tryd.func81, Tryd.ntmps81
       go_wp2
       go_ret
       exact ⟨by first | rfl | (simp; done) | (simp [*]; done), by repeat (first | exact Drawn0.refl _ | apply Drawn0.step)⟩
    ·rw [if_neg c6] at H
     exact absurd H (by simp)
   ·rw [if_neg c5] at H
    have c5b0 : ((bt a0 0) == 120) = false := beq_eq_false_iff_ne.mpr c5
    have c5b1 : ((bt a0 0) != 120) = true := bne_iff_ne.mpr c5
    by_cases c20 : (bt a0 0) = 88
    ·rw [if_pos c20] at H
     have c20b0 : ((bt a0 0) == 88) = true := beq_iff_eq.mpr c20
     have c20b1 : ((bt a0 0) != 88) = false := bne_eq_false_iff_eq.mpr c20
     clear c20
     by_cases c21 : 1 < (a0.size : Int)
     ·rw [if_pos c21] at H
      have c21b0 : decide (1 < (a0.size : Int)) = true := decide_eq_true c21
      have c21b1 : decide (1 < a0.size) = true := decide_eq_true (by omega)
      clear c21
      by_cases c23 : (bt a0 1) = 109
      ·rw [if_pos c23] at H
       have c23b0 : ((bt a0 1) == 109) = true := beq_iff_eq.mpr c23
       have c23b1 : ((bt a0 1) != 109) = false := bne_eq_false_iff_eq.mpr c23
       clear c23
       by_cases c24 : 2 < (a0.size : Int)
       ·rw [if_pos c24] at H
        have c24b0 : decide (2 < (a0.size : Int)) = true := decide_eq_true c24
        have c24b1 : decide (2 < a0.size) = true := decide_eq_true (by omega)
        clear c24
        by_cases c26 : (bt a0 2) = 108
        ·rw [if_pos c26] at H
         have c26b0 : ((bt a0 2) == 108) = true := beq_iff_eq.mpr c26
         have c26b1 : ((bt a0 2) != 108) = false := bne_eq_false_iff_eq.mpr c26
         clear c26
         obtain rfl := Option.some.inj H
         have p4 : 0 ≤ (0 : Int) := (by omega)
         have q4 : 0 < a0.size := (by have : (0 : Int) < (a0.size : Int) := odt; omega)
         have hx4 : ∀ h : 0 < a0.size, ((a0[0]'h).toNat : Int) = bt a0 0 := bt_at a0 0
         clear p4
         have qi4 : (0 < (a0.size : Int)) = True := eq_true (odt)
         replace q4 := eq_true q4
         have p19 : 0 ≤ (0 : Int) := (by omega)
         have q19 : 0 < a0.size := (by have : (0 : Int) < (a0.size : Int) := odt; omega)
         have hx19 : ∀ h : 0 < a0.size, ((a0[0]'h).toNat : Int) = bt a0 0 := bt_at a0 0
         clear p19
         have qi19 : (0 < (a0.size : Int)) = True := eq_true (odt)
         replace q19 := eq_true q19
         have p22 : 0 ≤ (1 : Int) := (by omega)
         have q22 : 1 < a0.size := (by have : (1 : Int) < (a0.size : Int) := odt; omega)
         have hx22 : ∀ h : 1 < a0.size, ((a0[1]'h).toNat : Int) = bt a0 1 := bt_at a0 1
         clear p22
         have qi22 : (1 < (a0.size : Int)) = True := eq_true (odt)
         replace q22 := eq_true q22
         have p25 : 0 ≤ (2 : Int) := (by omega)
         have q25 : 2 < a0.size := (by have : (2 : Int) < (a0.size : Int) := odt; omega)
         have hx25 : ∀ h : 2 < a0.size, ((a0[2]'h).toNat : Int) = bt a0 2 := bt_at a0 2
         clear p25
         have qi25 : (2 < (a0.size : Int)) = True := eq_true (odt)
         replace q25 := eq_true q25
         go_enter Tryd.func81, Tryd.ntmps81
         go_wp2
         go_ret
         exact ⟨by first | rfl | (simp; done) | (simp [*]; done), by repeat (first | exact Drawn0.refl _ | apply Drawn0.step)⟩
        ·rw [if_neg c26] at H
         have c26b0 : ((bt a0 2) == 108) = false := beq_eq_false_iff_ne.mpr c26
         have c26b1 : ((bt a0 2) != 108) = true := bne_iff_ne.mpr c26
         obtain rfl := Option.some.inj H
         have p4 : 0 ≤ (0 : Int) := (by omega)
         have q4 : 0 < a0.size := (by have : (0 : Int) < (a0.size : Int) := odt; omega)
         have hx4 : ∀ h : 0 < a0.size, ((a0[0]'h).toNat : Int) = bt a0 0 := bt_at a0 0
         clear p4
         have qi4 : (0 < (a0.size : Int)) = True := eq_true (odt)
         replace q4 := eq_true q4
         have p19 : 0 ≤ (0 : Int) := (by omega)
         have q19 : 0 < a0.size := (by have : (0 : Int) < (a0.size : Int) := odt; omega)
         have hx19 : ∀ h : 0 < a0.size, ((a0[0]'h).toNat : Int) = bt a0 0 := bt_at a0 0
         clear p19
         have qi19 : (0 < (a0.size : Int)) = True := eq_true (odt)
         replace q19 := eq_true q19
         have p22 : 0 ≤ (1 : Int) := (by omega)
         have q22 : 1 < a0.size := (by have : (1 : Int) < (a0.size : Int) := odt; omega)
         have hx22 : ∀ h : 1 < a0.size, ((a0[1]'h).toNat : Int) = bt a0 1 := bt_at a0 1
         clear p22
         have qi22 : (1 < (a0.size : Int)) = True := eq_true (odt)
         replace q22 := eq_true q22
         have p25 : 0 ≤ (2 : Int) := (by omega)
         have q25 : 2 < a0.size := (by have : (2 : Int) < (a0.size : Int) := odt; omega)
         have hx25 : ∀ h : 2 < a0.size, ((a0[2]'h).toNat : Int) = bt a0 2 := bt_at a0 2
         clear p25
         have qi25 : (2 < (a0.size : Int)) = True := eq_true (odt)
         replace q25 := eq_true q25
         have p27 : 0 ≤ (2 : Int) := (by omega)
         have q27 : 2 < a0.size := (by have : (2 : Int) < (a0.size : Int) := odt; omega)
         have hx27 : ∀ h : 2 < a0.size, ((a0[2]'h).toNat : Int) = bt a0 2 := bt_at a0 2
         clear p27
         have qi27 : (2 < (a0.size : Int)) = True := eq_true (odt)
         replace q27 := eq_true q27
         go_enter Tryd.func81, Tryd.ntmps81
         go_wp2
         go_ret
         exact ⟨by first | rfl | (simp; done) | (simp [*]; done), by repeat (first | exact Drawn0.refl _ | apply Drawn0.step)⟩
       ·rw [if_neg c24] at H
        exact absurd H (by simp)
      ·rw [if_neg c23] at H
       have c23b0 : ((bt a0 1) == 109) = false := beq_eq_false_iff_ne.mpr c23
       have c23b1 : ((bt a0 1) != 109) = true := bne_iff_ne.mpr c23
       by_cases c29 : (bt a0 1) = 77
       ·rw [if_pos c29] at H
        have c29b0 : ((bt a0 1) == 77) = true := beq_iff_eq.mpr c29
        have c29b1 : ((bt a0 1) != 77) = false := bne_eq_false_iff_eq.mpr c29
        clear c29
        by_cases c30 : 2 < (a0.size : Int)
        ·rw [if_pos c30] at H
         have c30b0 : decide (2 < (a0.size : Int)) = true := decide_eq_true c30
         have c30b1 : decide (2 < a0.size) = true := decide_eq_true (by omega)
         clear c30
         by_cases c32 : (bt a0 2) = 108
         ·rw [if_pos c32] at H
          have c32b0 : ((bt a0 2) == 108) = true := beq_iff_eq.mpr c32
          have c32b1 : ((bt a0 2) != 108) = false := bne_eq_false_iff_eq.mpr c32
          clear c32
          obtain rfl := Option.some.inj H
          have p4 : 0 ≤ (0 : Int) := (by omega)
          have q4 : 0 < a0.size := (by have : (0 : Int) < (a0.size : Int) := odt; omega)
          have hx4 : ∀ h : 0 < a0.size, ((a0[0]'h).toNat : Int) = bt a0 0 := bt_at a0 0
          clear p4
          have qi4 : (0 < (a0.size : Int)) = True := eq_true (odt)
          replace q4 := eq_true q4
          have p19 : 0 ≤ (0 : Int) := (by omega)
          have q19 : 0 < a0.size := (by have : (0 : Int) < (a0.size : Int) := odt; omega)
          have hx19 : ∀ h : 0 < a0.size, ((a0[0]'h).toNat : Int) = bt a0 0 := bt_at a0 0
          clear p19
          have qi19 : (0 < (a0.size : Int)) = True := eq_true (odt)
          replace q19 := eq_true q19
          have p22 : 0 ≤ (1 : Int) := (by omega)
          have q22 : 1 < a0.size := (by have : (1 : Int) < (a0.size : Int) := odt; omega)
          have hx22 : ∀ h : 1 < a0.size, ((a0[1]'h).toNat : Int) = bt a0 1 := bt_at a0 1
          clear p22
          have qi22 : (1 < (a0.size : Int)) = True := eq_true (odt)
          replace q22 := eq_true q22
          have p28 : 0 ≤ (1 : Int) := (by omega)
          have q28 : 1 < a0.size := (by have : (1 : Int) < (a0.size : Int) := odt; omega)
          have hx28 : ∀ h : 1 < a0.size, ((a0[1]'h).toNat : Int) = bt a0 1 := bt_at a0 1
          clear p28
          have qi28 : (1 < (a0.size : Int)) = True := eq_true (odt)
          replace q28 := eq_true q28
          have p31 : 0 ≤ (2 : Int) := (by omega)
          have q31 : 2 < a0.size := (by have : (2 : Int) < (a0.size : Int) := odt; omega)
          have hx31 : ∀ h : 2 < a0.size, ((a0[2]'h).toNat : Int) = bt a0 2 := bt_at a0 2
          clear p31
          have qi31 : (2 < (a0.size : Int)) = True := eq_true (odt)
          replace q31 := eq_true q31
          go_enter Tryd.func81, Tryd.ntmps81
          go_wp2
          go_ret
          exact ⟨by first | rfl | (simp; done) | (simp [*]; done), by repeat (first | exact Drawn0.refl _ | apply Drawn0.step)⟩
         ·rw [if_neg c32] at H
          have c32b0 : ((bt a0 2) == 108) = false := beq_eq_false_iff_ne.mpr c32
          have c32b1 : ((bt a0 2) != 108) = true := bne_iff_ne.mpr c32
          obtain rfl := Option.some.inj H
          have p4 : 0 ≤ (0 : Int) := (by omega)
          have q4 : 0 < a0.size := (by have : (0 : Int) < (a0.size : Int) := odt; omega)
          have hx4 : ∀ h : 0 < a0.size, ((a0[0]'h).toNat : Int) = bt a0 0 := bt_at a0 0
          clear p4
          have qi4 : (0 < (a0.size : Int)) = True := eq_true (odt)
          replace q4 := eq_true q4
          have p19 : 0 ≤ (0 : Int) := (by omega)
          have q19 : 0 < a0.size := (by have : (0 : Int) < (a0.size : Int) := odt; omega)
          have hx19 : ∀ h : 0 < a0.size, ((a0[0]'h).toNat : Int) = bt a0 0 := bt_at a0 0
          clear p19
          have qi19 : (0 < (a0.size : Int)) = True := eq_true (odt)
          replace q19 := eq_true q19
          have p22 : 0 ≤ (1 : Int) := (by omega)
          have q22 : 1 < a0.size := (by have : (1 : Int) < (a0.size : Int) := odt; omega)
          have hx22 : ∀ h : 1 < a0.size, ((a0[1]'h).toNat : Int) = bt a0 1 := bt_at a0 1
          clear p22
          have qi22 : (1 < (a0.size : Int)) = True := eq_true (odt)
          replace q22 := eq_true q22
          have p28 : 0 ≤ (1 : Int) := (by omega)
          have q28 : 1 < a0.size := (by have : (1 : Int) < (a0.size : Int) := odt; omega)
          have hx28 : ∀ h : 1 < a0.size, ((a0[1]'h).toNat : Int) = bt a0 1 := bt_at a0 1
          clear p28
          have qi28 : (1 < (a0.size : Int)) = True := eq_true (odt)
          replace q28 := eq_true q28
          have p31 : 0 ≤ (2 : Int) := (by omega)
          have q31 : 2 < a0.size := (by have : (2 : Int) < (a0.size : Int) := odt; omega)
          have hx31 : ∀ h : 2 < a0.size, ((a0[2]'h).toNat : Int) = bt a0 2 := bt_at a0 2
          clear p31
          have qi31 : (2 < (a0.size : Int)) = True := eq_true (odt)
          replace q31 := eq_true q31
          have p33 : 0 ≤ (2 : Int) := (by omega)
          have q33 : 2 < a0.size := (by have : (2 : Int) < (a0.size : Int) := odt; omega)
          have hx33 : ∀ h : 2 < a0.size, ((a0[2]'h).toNat : Int) = bt a0 2 := bt_at a0 2
          clear p33
          have qi33 : (2 < (a0.size : Int)) = True := eq_true (odt)
          replace q33 := eq_true q33
          go_enter Tryd.func81, Tryd.ntmps81
          go_wp2
          go_ret
          exact ⟨by first | rfl | (simp; done) | (simp [*]; done), by repeat (first | exact Drawn0.refl _ | apply Drawn0.step)⟩
        ·rw [if_neg c30] at H
         exact absurd H (by simp)
       ·rw [if_neg c29] at H
        have c29b0 : ((bt a0 1) == 77) = false := beq_eq_false_iff_ne.mpr c29
        have c29b1 : ((bt a0 1) != 77) = true := bne_iff_ne.mpr c29
        obtain rfl := Option.some.inj H
        have p4 : 0 ≤ (0 : Int) := (by omega)
        have q4 : 0 < a0.size := (by have : (0 : Int) < (a0.size : Int) := odt; omega)
        have hx4 : ∀ h : 0 < a0.size, ((a0[0]'h).toNat : Int) = bt a0 0 := bt_at a0 0
        clear p4
        have qi4 : (0 < (a0.size : Int)) = True := eq_true (odt)
        replace q4 := eq_true q4
        have p19 : 0 ≤ (0 : Int) := (by omega)
        have q19 : 0 < a0.size := (by have : (0 : Int) < (a0.size : Int) := odt; omega)
        have hx19 : ∀ h : 0 < a0.size, ((a0[0]'h).toNat : Int) = bt a0 0 := bt_at a0 0
        clear p19
        have qi19 : (0 < (a0.size : Int)) = True := eq_true (odt)
        replace q19 := eq_true q19
        have p22 : 0 ≤ (1 : Int) := (by omega)
        have q22 : 1 < a0.size := (by have : (1 : Int) < (a0.size : Int) := odt; omega)
        have hx22 : ∀ h : 1 < a0.size, ((a0[1]'h).toNat : Int) = bt a0 1 := bt_at a0 1
        clear p22
        have qi22 : (1 < (a0.size : Int)) = True := eq_true (odt)
        replace q22 := eq_true q22
        have p28 : 0 ≤ (1 : Int) := (by omega)
        have q28 : 1 < a0.size := (by have : (1 : Int) < (a0.size : Int) := odt; omega)
        have hx28 : ∀ h : 1 < a0.size, ((a0[1]'h).toNat : Int) = bt a0 1 := bt_at a0 1
        clear p28
        have qi28 : (1 < (a0.size : Int)) = True := eq_true (odt)
        replace q28 := eq_true q28
        go_enter Tryd.func81, Tryd.ntmps81
        go_wp2
        go_ret
        exact ⟨by first | rfl | (simp; done) | (simp [*]; done), by repeat (first | exact Drawn0.refl _ | apply Drawn0.step)⟩
     ·rw [if_neg c21] at H
      exact absurd H (by simp)
    ·rw [if_neg c20] at H
     have c20b0 : ((bt a0 0) == 88) = false := beq_eq_false_iff_ne.mpr c20
     have c20b1 : ((bt a0 0) != 88) = true := bne_iff_ne.mpr c20
     obtain rfl := Option.some.inj H
     have p4 : 0 ≤ (0 : Int) := (by omega)
     have q4 : 0 < a0.size := (by have : (0 : Int) < (a0.size : Int) := odt; omega)
     have hx4 : ∀ h : 0 < a0.size, ((a0[0]'h).toNat : Int) = bt a0 0 := bt_at a0 0
     clear p4
     have qi4 : (0 < (a0.size : Int)) = True := eq_true (odt)
     replace q4 := eq_true q4
     have p19 : 0 ≤ (0 : Int) := (by omega)
     have q19 : 0 < a0.size := (by have : (0 : Int) < (a0.size : Int) := odt; omega)
     have hx19 : ∀ h : 0 < a0.size, ((a0[0]'h).toNat : Int) = bt a0 0 := bt_at a0 0
     clear p19
     have qi19 : (0 < (a0.size : Int)) = True := eq_true (odt)
     replace q19 := eq_true q19
     go_enter Tryd.func81, Tryd.ntmps81
     go_wp2
     go_ret
     exact ⟨by first | rfl | (simp; done) | (simp [*]; done), by repeat (first | exact Drawn0.refl _ | apply Drawn0.step)⟩
  ·rw [if_neg c3] at H
   exact absurd H (by simp)
 ·rw [if_neg c2] at H
  have c2b0 : ((a0.size : Int) == 3) = false := beq_eq_false_iff_ne.mpr c2
  have c2b1 : ((a0.size : Int) != 3) = true := bne_iff_ne.mpr c2
  obtain rfl := Option.some.inj H
  go_enter Tryd.func81, Tryd.ntmps81
  go_wp2
  go_ret
  exact ⟨by first | rfl | (simp; done) | (simp [*]; done), by repeat (first | exact Drawn0.refl _ | apply Drawn0.step)⟩

/-! ### spec_IsBlank: function 82 -/
def spec_IsBlank.f (a0 : Int) : Option (Bool) := if a0 = 9 then (some true) else (if a0 = 10 then (some true) else (if a0 = 13 then (some true) else (some (a0 == 32))))
set_option maxHeartbeats 8000000 in
set_option maxRecDepth 100000 in
theorem spec_IsBlank.calls (a0 : Int) (r : Bool) (w : World) (h : spec_IsBlank.f a0 = some r) :
  Calls Tryd.prog 82 #[.int .i64 a0] w fun e w' => e = .returned (.bool r) ∧ Drawn0 w w' := by
 have H : (if a0 = 9 then (some true) else (if a0 = 10 then (some true) else (if a0 = 13 then (some true) else (some (a0 == 32))))) = some r := h
 clear h
 by_cases c2 : a0 = 9
 ·rw [if_pos c2] at H
  have c2b0 : (a0 == 9) = true := beq_iff_eq.mpr c2
  have c2b1 : (a0 != 9) = false := bne_eq_false_iff_eq.mpr c2
  clear c2
  obtain rfl := Option.some.inj H
  go_enter Tryd.func82, Tryd.ntmps82
  go_wp2
  go_ret
  exact ⟨by first | rfl | (simp; done) | (simp [*]; done), by repeat (first | exact Drawn0.refl _ | apply Drawn0.step)⟩
 ·rw [if_neg c2] at H
  have c2b0 : (a0 == 9) = false := beq_eq_false_iff_ne.mpr c2
  have c2b1 : (a0 != 9) = true := bne_iff_ne.mpr c2
  by_cases c3 : a0 = 10
  ·rw [if_pos c3] at H
   have c3b0 : (a0 == 10) = true := beq_iff_eq.mpr c3
   have c3b1 : (a0 != 10) = false := bne_eq_false_iff_eq.mpr c3
   clear c3
   obtain rfl := Option.some.inj H
   go_enter Tryd.func82, Tryd.ntmps82
   go_wp2
   go_ret
   exact ⟨by first | rfl | (simp; done) | (simp [*]; done), by repeat (first | exact Drawn0.refl _ | apply Drawn0.step)⟩
  ·rw [if_neg c3] at H
   have c3b0 : (a0 == 10) = false := beq_eq_false_iff_ne.mpr c3
   have c3b1 : (a0 != 10) = true := bne_iff_ne.mpr c3
   by_cases c4 : a0 = 13
   ·rw [if_pos c4] at H
    have c4b0 : (a0 == 13) = true := beq_iff_eq.mpr c4
    have c4b1 : (a0 != 13) = false := bne_eq_false_iff_eq.mpr c4
    clear c4
    obtain rfl := Option.some.inj H
    go_enter Tryd.func82, Tryd.ntmps82
    go_wp2
    go_ret
    exact ⟨by first | rfl | (simp; done) | (simp [*]; done), by repeat (first | exact Drawn0.refl _ | apply Drawn0.step)⟩
   ·rw [if_neg c4] at H
    have c4b0 : (a0 == 13) = false := beq_eq_false_iff_ne.mpr c4
    have c4b1 : (a0 != 13) = true := bne_iff_ne.mpr c4
    obtain rfl := Option.some.inj H
    go_enter Tryd.func82, Tryd.ntmps82
    go_wp2
    go_ret
    exact ⟨by first | rfl | (simp; done) | (simp [*]; done), by repeat (first | exact Drawn0.refl _ | apply Drawn0.step)⟩

end Go.Proofs.YtlfjdaoibjjakaaDoor.PZ
