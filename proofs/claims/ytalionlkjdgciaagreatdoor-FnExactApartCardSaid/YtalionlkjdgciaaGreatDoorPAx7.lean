-- Written by the session's program hprint.py, over the kit's print program. Lean checks it.
import Derived.Test.YtalionlkjdgciaaGreatDoorPAx0
namespace Go.Proofs.YtalionlkjdgciaaGreatDoor.PA
open Go.RowKit Go.Proofs.YtalionlkjdgciaaGreatDoorW.PrintWords Go.Proofs.YtalionlkjdgciaaGreatDoorW.PrintLast Go.Proofs.YtalionlkjdgciaaGreatDoorW.PrintMore
attribute [local go_sem] max2_int min2_int max_two min_two max_three min_three max_four min_four   -- for this text's walks alone
set_option linter.unusedVariables false
set_option linter.unusedSimpArgs false
set_option maxHeartbeats 8000000
set_option maxRecDepth 100000

/-! ### spec_l5Xml: function 125 -/
def spec_l5Xml.v (a0 : ByteArray) : Bool := (bt a0 0 == 120 || bt a0 0 == 88) && ((bt a0 1 == 109 || bt a0 1 == 77) && (bt a0 2 == 108 || bt a0 2 == 76))
def spec_l5Xml.f (a0 : ByteArray) : Option Bool := some (decide (a0.size = 3) && spec_l5Xml.v a0)
set_option maxHeartbeats 1000000 in
set_option maxRecDepth 100000 in
theorem spec_l5Xml.calls (a0 : ByteArray) (r : Bool) (w : World) (h : spec_l5Xml.f a0 = some r) :
    Calls Tryz.prog 125 #[.string a0] w fun e w' => e = .returned (.bool r) ∧ Drawn0 w w' := by
  cases Option.some.inj h
  clear h
  by_cases h3 : a0.size = 3
  · have q0 : (0 < a0.size) = True := eq_true (by omega)
    have q1 : (1 < a0.size) = True := eq_true (by omega)
    have q2 : (2 < a0.size) = True := eq_true (by omega)
    have b0 : ∀ h : 0 < a0.size, ((a0[0]'h).toNat : Int) = bt a0 0 := bt_at a0 0
    have b1 : ∀ h : 1 < a0.size, ((a0[1]'h).toNat : Int) = bt a0 1 := bt_at a0 1
    have b2 : ∀ h : 2 < a0.size, ((a0[2]'h).toNat : Int) = bt a0 2 := bt_at a0 2
    have i0 : (0 < (a0.size : Int)) = True := eq_true (by omega)
    have i1 : (1 < (a0.size : Int)) = True := eq_true (by omega)
    have i2 : (2 < (a0.size : Int)) = True := eq_true (by omega)
    have s0 : ((a0.size : Int) == 3) = true := beq_iff_eq.mpr (by omega)
    have s1 : ((a0.size : Int) != 3) = false := bne_eq_false_iff_eq.mpr (by omega)
    rw [decide_eq_true h3, Bool.true_and]
    clear h3
    unfold spec_l5Xml.v
    generalize bt a0 0 = x at b0 ⊢
    generalize bt a0 1 = y at b1 ⊢
    generalize bt a0 2 = z at b2 ⊢
    have T : ∀ u a b : Int, (u == a) = true ∨ ((u == a) = false ∧ (u == b) = true) ∨ ((u == a) = false ∧ (u == b) = false) := fun u a b => by cases (u == a) <;> cases (u == b) <;> simp
    have X := T x 120 88
    have Y := T y 109 77
    have Z := T z 108 76
    clear T
    rcases X with e1 | ⟨e1, e2⟩ | ⟨e1, e2⟩ <;> rcases Y with f1 | ⟨f1, f2⟩ | ⟨f1, f2⟩ <;> rcases Z with g1 | ⟨g1, g2⟩ | ⟨g1, g2⟩
    all_goals
      go_enter Tryz.func125, Tryz.ntmps125
      go_wp2
      go_ret
      exact ⟨by simp [*], by repeat (first | exact Drawn0.refl _ | apply Drawn0.step)⟩
  · have s0 : ((a0.size : Int) == 3) = false := beq_eq_false_iff_ne.mpr (by omega)
    have s1 : ((a0.size : Int) != 3) = true := bne_iff_ne.mpr (by omega)
    rw [decide_eq_false h3, Bool.false_and]
    go_enter Tryz.func125, Tryz.ntmps125
    go_wp2
    go_ret
    exact ⟨rfl, by repeat (first | exact Drawn0.refl _ | apply Drawn0.step)⟩

/-! ### spec_IsBlank: function 126 -/
def spec_IsBlank.f (a0 : Int) : Option (Bool) := if a0 = 9 then (some true) else (if a0 = 10 then (some true) else (if a0 = 13 then (some true) else (some (a0 == 32))))
theorem spec_IsBlank.calls (a0 : Int) (r : Bool) (w : World) (h : spec_IsBlank.f a0 = some r) :
  Calls Tryz.prog 126 #[.int .i64 a0] w fun e w' => e = .returned (.bool r) ∧ Drawn0 w w' := by
 have H : (if a0 = 9 then (some true) else (if a0 = 10 then (some true) else (if a0 = 13 then (some true) else (some (a0 == 32))))) = some r := h
 clear h
 by_cases c2 : a0 = 9
 ·rw [if_pos c2] at H
  obtain ⟨c2b0, c2b1⟩ := eqT c2
  clear c2
  obtain rfl := Option.some.inj H
  go_enter Tryz.func126, Tryz.ntmps126
  go_wp2
  go_ret
  exact ⟨by first | rfl | (simp; done) | (simp [*]; done), by repeat (first | exact Drawn0.refl _ | apply Drawn0.step)⟩
 ·rw [if_neg c2] at H
  obtain ⟨c2b0, c2b1⟩ := eqF c2
  by_cases c3 : a0 = 10
  ·rw [if_pos c3] at H
   obtain ⟨c3b0, c3b1⟩ := eqT c3
   clear c3
   obtain rfl := Option.some.inj H
   go_enter Tryz.func126, Tryz.ntmps126
   go_wp2
   go_ret
   exact ⟨by first | rfl | (simp; done) | (simp [*]; done), by repeat (first | exact Drawn0.refl _ | apply Drawn0.step)⟩
  ·rw [if_neg c3] at H
   obtain ⟨c3b0, c3b1⟩ := eqF c3
   by_cases c4 : a0 = 13
   ·rw [if_pos c4] at H
    obtain ⟨c4b0, c4b1⟩ := eqT c4
    clear c4
    obtain rfl := Option.some.inj H
    go_enter Tryz.func126, Tryz.ntmps126
    go_wp2
    go_ret
    exact ⟨by first | rfl | (simp; done) | (simp [*]; done), by repeat (first | exact Drawn0.refl _ | apply Drawn0.step)⟩
   ·rw [if_neg c4] at H
    obtain ⟨c4b0, c4b1⟩ := eqF c4
    obtain rfl := Option.some.inj H
    go_enter Tryz.func126, Tryz.ntmps126
    go_wp2
    go_ret
    exact ⟨by first | rfl | (simp; done) | (simp [*]; done), by repeat (first | exact Drawn0.refl _ | apply Drawn0.step)⟩

end Go.Proofs.YtalionlkjdgciaaGreatDoor.PA
