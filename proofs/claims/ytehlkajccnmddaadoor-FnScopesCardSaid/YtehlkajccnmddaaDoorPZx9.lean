-- Written by the session's program hprint.py, over the kit's print program. Lean checks it.
import Derived.Test.YtehlkajccnmddaaDoorPZx0
import Derived.Test.YtehlkajccnmddaaDoorPZx1
import Derived.Test.YtehlkajccnmddaaDoorPZx2
import Derived.Test.YtehlkajccnmddaaDoorPZx3
import Derived.Test.YtehlkajccnmddaaDoorPZx5
import Derived.Test.YtehlkajccnmddaaDoorPZx8
namespace Go.Proofs.YtehlkajccnmddaaDoor.PZ
open Go.RowKit Go.Proofs.YtehlkajccnmddaaDoorW.PrintWords Go.Proofs.YtehlkajccnmddaaDoorW.PrintLast Go.Proofs.YtehlkajccnmddaaDoorW.PrintMore
attribute [local go_sem] max2_int min2_int max_two min_two max_three min_three max_four min_four   -- for this text's walks alone
set_option linter.unusedVariables false
set_option linter.unusedSimpArgs false

/-! ### laws_sameDecls: function 23 -/
def laws_sameDecls.l0 : Nat → List (S44) → List (S44) → Int → Option (Bool)
 | 0, _, _, _ => none
 | k + 1, x0, x1, x5 => if x5 < (x0.length : Int) then (if 0 ≤ x5 then (if x5 < (x1.length : Int) then (if ((rd_T44 x0 x5).f0).toList = ((rd_T44 x1 x5).f0).toList then (if ((rd_T44 x0 x5).f1).toList = ((rd_T44 x1 x5).f1).toList then (laws_sameDecls.l0 k x0 x1 (wrap64 (x5 + 1))) else (some false)) else (some false)) else (none)) else (none)) else (some true)
def laws_sameDecls.f (k : Nat) (l0 : List (S44)) (l1 : List (S44)) : Option (Bool) := if (l0.length : Int) = (l1.length : Int) then (laws_sameDecls.l0 k l0 l1 0) else (some false)
set_option maxHeartbeats 8000000 in
set_option maxRecDepth 100000 in
theorem laws_sameDecls.calls (k : Nat) (A0 : Option Addr) (c0 : Nat) (l0 : List (S44)) (A1 : Option Addr) (c1 : Nat) (l1 : List (S44)) (r : Bool) (w : World) (hr0 : Kd.C k44 w A0 l0.length l0) (hc0 : l0.length ≤ c0) (hr1 : Kd.C k44 w A1 l1.length l1) (hc1 : l1.length ≤ c1) (h : laws_sameDecls.f k l0 l1 = some r) :
  Calls Tryd.prog 23 #[.slice A0 l0.length c0, .slice A1 l1.length c1] w fun e w' => e = .returned (.bool r) ∧ Drawn0 w w' := by
 have HR0 := Aside0.mk hr0
 have HC0 := Aside0.mk hc0
 clear hr0 hc0
 have HR1 := Aside0.mk hr1
 have HC1 := Aside0.mk hc1
 clear hr1 hc1
 have H : (if (l0.length : Int) = (l1.length : Int) then (laws_sameDecls.l0 k l0 l1 0) else (some false)) = some r := h
 clear h
 by_cases c3 : (l0.length : Int) = (l1.length : Int)
 ·rw [if_pos c3] at H
  have c3b0 : ((l0.length : Int) == (l1.length : Int)) = true := beq_iff_eq.mpr c3
  have c3b1 : ((l0.length : Int) != (l1.length : Int)) = false := bne_eq_false_iff_eq.mpr c3
  have c3b2 : (l0.length == l1.length) = true := by first | simpa using c3 | (simp at c3 ⊢; omega)
  clear c3
  have H' := Aside0.mk H
  clear H
  go_enter Tryd.func23, Tryd.ntmps23
  go_wp2
  repeat (go_quiet (fail); try go_wp2)
  go_loopg [5] k (fun kq v5 w' => ∃ (x5_1 : Int), v5 = .int .i64 x5_1 ∧ Aside0 (laws_sameDecls.l0 kq l0 l1 x5_1 = some r) ∧ Aside0 (kq ≤ k) ∧ Drawn0 w w')
  case atStart => exact ⟨(0), (by first | rfl | (simp; done) | (simp [*]; done)), H', ⟨Nat.le_refl _⟩, by repeat (first | exact Drawn0.refl _ | apply Drawn0.step)⟩
  case round =>
   clear H'
   try clear c1
   try clear c2
   try clear p2
   try clear c3
   try clear c3b0
   try clear c3b1
   try clear c3b2
   obtain ⟨x5_1, rfl, HA, HK1, ⟨m1, rfl⟩⟩ := hrel
   cases gk with
   | zero => exact absurd HA.out (by simp [laws_sameDecls.l0])
   | succ k1 =>
    have H := HA.out
    clear HA
    simp only [laws_sameDecls.l0] at H
    by_cases c4 : x5_1 < (l0.length : Int)
    ·rw [if_pos c4] at H
     have c4b0 : decide (x5_1 < (l0.length : Int)) = true := decide_eq_true c4
     clear c4
     by_cases c5 : 0 ≤ x5_1
     ·rw [if_pos c5] at H
      have c5b0 : decide (0 ≤ x5_1) = true := decide_eq_true c5
      clear c5
      by_cases c6 : x5_1 < (l1.length : Int)
      ·rw [if_pos c6] at H
       have c6b0 : decide (x5_1 < (l1.length : Int)) = true := decide_eq_true c6
       clear c6
       by_cases c7 : ((rd_T44 l0 x5_1).f0).toList = ((rd_T44 l1 x5_1).f0).toList
       ·rw [if_pos c7] at H
        have c7b0 : (((rd_T44 l0 x5_1).f0).toList == ((rd_T44 l1 x5_1).f0).toList) = true := beq_iff_eq.mpr c7
        have c7b1 : (((rd_T44 l0 x5_1).f0).toList != ((rd_T44 l1 x5_1).f0).toList) = false := bne_eq_false_iff_eq.mpr c7
        clear c7
        by_cases c8 : ((rd_T44 l0 x5_1).f1).toList = ((rd_T44 l1 x5_1).f1).toList
        ·rw [if_pos c8] at H
         have c8b0 : (((rd_T44 l0 x5_1).f1).toList == ((rd_T44 l1 x5_1).f1).toList) = true := beq_iff_eq.mpr c8
         have c8b1 : (((rd_T44 l0 x5_1).f1).toList != ((rd_T44 l1 x5_1).f1).toList) = false := bne_eq_false_iff_eq.mpr c8
         clear c8
         have H' := Aside0.mk H
         clear H
         have p371 : 0 ≤ (x5_1 : Int) := of_decide_eq_true (by first | (with_reducible assumption) | assumption)
         have q371 : x5_1 < (l0.length : Int) := of_decide_eq_true (by first | (with_reducible assumption) | assumption)
         obtain ⟨ad371, e371, hx371_0, hx371_1⟩ := at_T44 HR0.out x5_1 p371 q371
         cases e371
         replace p371 := eq_true p371
         replace q371 := eq_true q371
         have p372 : 0 ≤ (x5_1 : Int) := of_decide_eq_true (by first | (with_reducible assumption) | assumption)
         have q372 : x5_1 < (l1.length : Int) := of_decide_eq_true (by first | (with_reducible assumption) | assumption)
         obtain ⟨ad372, e372, hx372_0, hx372_1⟩ := at_T44 HR1.out x5_1 p372 q372
         cases e372
         replace p372 := eq_true p372
         replace q372 := eq_true q372
         have p373 : 0 ≤ (x5_1 : Int) := of_decide_eq_true (by first | (with_reducible assumption) | assumption)
         have q373 : x5_1 < (l0.length : Int) := of_decide_eq_true (by first | (with_reducible assumption) | assumption)
         obtain ⟨ad373, e373, hx373_0, hx373_1⟩ := at_T44 HR0.out x5_1 p373 q373
         obtain rfl : ad371 = ad373 := (by injection e373)
         replace p373 := eq_true p373
         replace q373 := eq_true q373
         have p374 : 0 ≤ (x5_1 : Int) := of_decide_eq_true (by first | (with_reducible assumption) | assumption)
         have q374 : x5_1 < (l1.length : Int) := of_decide_eq_true (by first | (with_reducible assumption) | assumption)
         obtain ⟨ad374, e374, hx374_0, hx374_1⟩ := at_T44 HR1.out x5_1 p374 q374
         obtain rfl : ad372 = ad374 := (by injection e374)
         replace p374 := eq_true p374
         replace q374 := eq_true q374
         go_wp2
         repeat (go_quiet (fail); try go_wp2)
         go_roundg k1
         case measure => have := HK1.out; omega
         case rel => exact ⟨(wrap64 (x5_1 + 1)), (by first | rfl | (simp; done) | (simp [*]; done)), H', ⟨by have := HK1.out; omega⟩, by repeat (first | exact Drawn0.refl _ | apply Drawn0.step)⟩
        ·rw [if_neg c8] at H
         have c8b0 : (((rd_T44 l0 x5_1).f1).toList == ((rd_T44 l1 x5_1).f1).toList) = false := beq_eq_false_iff_ne.mpr c8
         have c8b1 : (((rd_T44 l0 x5_1).f1).toList != ((rd_T44 l1 x5_1).f1).toList) = true := bne_iff_ne.mpr c8
         obtain rfl := Option.some.inj H
         have p371 : 0 ≤ (x5_1 : Int) := of_decide_eq_true (by first | (with_reducible assumption) | assumption)
         have q371 : x5_1 < (l0.length : Int) := of_decide_eq_true (by first | (with_reducible assumption) | assumption)
         obtain ⟨ad371, e371, hx371_0, hx371_1⟩ := at_T44 HR0.out x5_1 p371 q371
         cases e371
         replace p371 := eq_true p371
         replace q371 := eq_true q371
         have p372 : 0 ≤ (x5_1 : Int) := of_decide_eq_true (by first | (with_reducible assumption) | assumption)
         have q372 : x5_1 < (l1.length : Int) := of_decide_eq_true (by first | (with_reducible assumption) | assumption)
         obtain ⟨ad372, e372, hx372_0, hx372_1⟩ := at_T44 HR1.out x5_1 p372 q372
         cases e372
         replace p372 := eq_true p372
         replace q372 := eq_true q372
         have p373 : 0 ≤ (x5_1 : Int) := of_decide_eq_true (by first | (with_reducible assumption) | assumption)
         have q373 : x5_1 < (l0.length : Int) := of_decide_eq_true (by first | (with_reducible assumption) | assumption)
         obtain ⟨ad373, e373, hx373_0, hx373_1⟩ := at_T44 HR0.out x5_1 p373 q373
         obtain rfl : ad371 = ad373 := (by injection e373)
         replace p373 := eq_true p373
         replace q373 := eq_true q373
         have p374 : 0 ≤ (x5_1 : Int) := of_decide_eq_true (by first | (with_reducible assumption) | assumption)
         have q374 : x5_1 < (l1.length : Int) := of_decide_eq_true (by first | (with_reducible assumption) | assumption)
         obtain ⟨ad374, e374, hx374_0, hx374_1⟩ := at_T44 HR1.out x5_1 p374 q374
         obtain rfl : ad372 = ad374 := (by injection e374)
         replace p374 := eq_true p374
         replace q374 := eq_true q374
         go_wp2
         repeat (go_quiet (fail); try go_wp2)
         go_ret
         exact ⟨by first | rfl | (simp; done) | (simp [*]; done), by repeat (first | exact Drawn0.refl _ | apply Drawn0.step)⟩
       ·rw [if_neg c7] at H
        have c7b0 : (((rd_T44 l0 x5_1).f0).toList == ((rd_T44 l1 x5_1).f0).toList) = false := beq_eq_false_iff_ne.mpr c7
        have c7b1 : (((rd_T44 l0 x5_1).f0).toList != ((rd_T44 l1 x5_1).f0).toList) = true := bne_iff_ne.mpr c7
        obtain rfl := Option.some.inj H
        have p371 : 0 ≤ (x5_1 : Int) := of_decide_eq_true (by first | (with_reducible assumption) | assumption)
        have q371 : x5_1 < (l0.length : Int) := of_decide_eq_true (by first | (with_reducible assumption) | assumption)
        obtain ⟨ad371, e371, hx371_0, hx371_1⟩ := at_T44 HR0.out x5_1 p371 q371
        cases e371
        replace p371 := eq_true p371
        replace q371 := eq_true q371
        have p372 : 0 ≤ (x5_1 : Int) := of_decide_eq_true (by first | (with_reducible assumption) | assumption)
        have q372 : x5_1 < (l1.length : Int) := of_decide_eq_true (by first | (with_reducible assumption) | assumption)
        obtain ⟨ad372, e372, hx372_0, hx372_1⟩ := at_T44 HR1.out x5_1 p372 q372
        cases e372
        replace p372 := eq_true p372
        replace q372 := eq_true q372
        go_wp2
        repeat (go_quiet (fail); try go_wp2)
        go_ret
        exact ⟨by first | rfl | (simp; done) | (simp [*]; done), by repeat (first | exact Drawn0.refl _ | apply Drawn0.step)⟩
      ·rw [if_neg c6] at H
       exact absurd H (by simp)
     ·rw [if_neg c5] at H
      exact absurd H (by simp)
    ·rw [if_neg c4] at H
     have c4b0 : decide (x5_1 < (l0.length : Int)) = false := decide_eq_false c4
     clear c4
     obtain rfl := Option.some.inj H
     go_wp2
     repeat (go_quiet (fail); try go_wp2)
     go_ret
     exact ⟨by first | rfl | (simp; done) | (simp [*]; done), by repeat (first | exact Drawn0.refl _ | apply Drawn0.step)⟩
 ·rw [if_neg c3] at H
  have c3b0 : ((l0.length : Int) == (l1.length : Int)) = false := beq_eq_false_iff_ne.mpr c3
  have c3b1 : ((l0.length : Int) != (l1.length : Int)) = true := bne_iff_ne.mpr c3
  have c3b2 : (l0.length == l1.length) = false := by first | simpa using c3 | (simp at c3 ⊢; omega)
  obtain rfl := Option.some.inj H
  go_enter Tryd.func23, Tryd.ntmps23
  go_wp2
  repeat (go_quiet (fail); try go_wp2)
  go_ret
  exact ⟨by first | rfl | (simp; done) | (simp [*]; done), by repeat (first | exact Drawn0.refl _ | apply Drawn0.step)⟩

/-! ### laws_FnScopes: function 4 -/
mutual
def laws_FnScopes.j0 : Nat → List (S44) → List (S44) → List (S44) → List (S44) → ByteArray → ByteArray → Bool → Bool → Option (Bool)
 | 0, _, _, _, _, _, _, _, _ => none
 | k + 1, x3, x4, x5, x10, x11, x13, x14, x110 => if x110 = true then (some false) else (if x14 = true then ((impl_SpaceOf.f x10 x13).bind fun bt407 => (if bt407.2 = true then (if bt407.1.toList = x11.toList then (laws_FnScopes.j1 k x3 x4 x5) else (some false)) else (some false))) else (laws_FnScopes.j1 k x3 x4 x5))
def laws_FnScopes.j1 : Nat → List (S44) → List (S44) → List (S44) → Option (Bool)
 | 0, _, _, _ => none
 | k + 1, x3, x4, x5 => laws_FnScopes.l0 k x3 x4 x5 0
def laws_FnScopes.l0 : Nat → List (S44) → List (S44) → List (S44) → Int → Option (Bool)
 | 0, _, _, _, _ => none
 | k + 1, x3, x4, x5, x22 => if x22 < (x4.length : Int) then (if 0 ≤ x22 then ((impl_SpaceOf.f x5 ((rd_T44 x4 x22).f0)).bind fun bt420 => ((impl_SpaceOf.f x4 ((rd_T44 x4 x22).f0)).bind fun bt423 => (if bt420.1.toList = bt423.1.toList then (if bt420.2 = true then (if bt423.2 = true then (laws_FnScopes.l0 k x3 x4 x5 (wrap64 (x22 + 1))) else (some false)) else (some false)) else (some false)))) else (none)) else (if 0 ≤ (x3.length : Int) then (if (x3.length : Int) ≤ (x5.length : Int) then ((laws_sameDecls.f k (x5.take ((x3.length : Int) : Int).toNat) x3).bind fun t413 => (if t413 = true then ((laws_sameDecls.f k (x5.drop ((x3.length : Int) : Int).toNat) x4).bind fun t418 => (some t418)) else (some false))) else (none)) else (none))
end
def laws_FnScopes.f (k : Nat) (l0 : List Int) : Option (Bool) := (laws_big.f l0).bind fun t375 => (if t375 = true then (some true) else ((spec_DrawInner.f k l0).bind fun bt376 => ((impl_Inner.f k bt376.1 bt376.2).bind fun t382 => ((spec_DrawSpaceOf.f k l0).bind fun bt385 => ((impl_SpaceOf.f bt385.1 bt385.2).bind fun bt389 => ((spec_DrawPreFor.f k l0).bind fun bt391 => ((impl_PreFor.f bt391.1 bt391.2.1 bt391.2.2).bind fun bt396 => ((spec_PreFor.f k bt391.1 bt391.2.1 bt391.2.2).bind fun bt398 => ((spec_DrawDeclsOk.f k l0).bind fun t400 => ((spec_SpaceOf.f k bt385.1 bt385.2).bind fun bt403 => (if bt389.1.toList = bt403.1.toList then (if (bt389.2 != bt403.2) = true then (laws_FnScopes.j0 k bt376.1 bt376.2 t382 bt391.1 bt391.2.1 bt396.1 bt396.2 true) else (if bt396.1.toList = bt398.1.toList then (if (bt396.2 != bt398.2) = true then (laws_FnScopes.j0 k bt376.1 bt376.2 t382 bt391.1 bt391.2.1 bt396.1 bt396.2 true) else ((impl_DeclsOk.f k t400).bind fun t405 => ((spec_DeclsOk.f k t400).bind fun t406 => (if (t405 != t406) = true then (laws_FnScopes.j0 k bt376.1 bt376.2 t382 bt391.1 bt391.2.1 bt396.1 bt396.2 true) else (laws_FnScopes.j0 k bt376.1 bt376.2 t382 bt391.1 bt391.2.1 bt396.1 bt396.2 ((t382.length : Int) != (wrap64 ((bt376.1.length : Int) + (bt376.2.length : Int))))))))) else (laws_FnScopes.j0 k bt376.1 bt376.2 t382 bt391.1 bt391.2.1 bt396.1 bt396.2 true))) else (laws_FnScopes.j0 k bt376.1 bt376.2 t382 bt391.1 bt391.2.1 bt396.1 bt396.2 true))))))))))))
set_option maxHeartbeats 8000000 in
set_option maxRecDepth 100000 in
theorem laws_FnScopes.calls (k : Nat) (A0 : Option Addr) (c0 : Nat) (l0 : List Int) (r_ : Bool) (w : World) (hr0 : Kd.C (Kd.int .u8) w A0 l0.length l0) (hc0 : l0.length ≤ c0) (hTab : Tabs w) (h : laws_FnScopes.f k l0 = some true) :
  Calls Tryd.prog 4 #[.slice A0 l0.length c0] w fun e w' => e = .returned (.bool true) ∧ Below w.heap.size w w' := by
 have HT := Aside0.mk hTab
 clear hTab
 have HR0 := Aside0.mk hr0
 have HC0 := Aside0.mk hc0
 clear hr0 hc0
 have HB := Aside0.mk (Below.refl w.heap.size w)
 have H : ((laws_big.f l0).bind fun t375 => (if t375 = true then (some true) else ((spec_DrawInner.f k l0).bind fun bt376 => ((impl_Inner.f k bt376.1 bt376.2).bind fun t382 => ((spec_DrawSpaceOf.f k l0).bind fun bt385 => ((impl_SpaceOf.f bt385.1 bt385.2).bind fun bt389 => ((spec_DrawPreFor.f k l0).bind fun bt391 => ((impl_PreFor.f bt391.1 bt391.2.1 bt391.2.2).bind fun bt396 => ((spec_PreFor.f k bt391.1 bt391.2.1 bt391.2.2).bind fun bt398 => ((spec_DrawDeclsOk.f k l0).bind fun t400 => ((spec_SpaceOf.f k bt385.1 bt385.2).bind fun bt403 => (if bt389.1.toList = bt403.1.toList then (if (bt389.2 != bt403.2) = true then (laws_FnScopes.j0 k bt376.1 bt376.2 t382 bt391.1 bt391.2.1 bt396.1 bt396.2 true) else (if bt396.1.toList = bt398.1.toList then (if (bt396.2 != bt398.2) = true then (laws_FnScopes.j0 k bt376.1 bt376.2 t382 bt391.1 bt391.2.1 bt396.1 bt396.2 true) else ((impl_DeclsOk.f k t400).bind fun t405 => ((spec_DeclsOk.f k t400).bind fun t406 => (if (t405 != t406) = true then (laws_FnScopes.j0 k bt376.1 bt376.2 t382 bt391.1 bt391.2.1 bt396.1 bt396.2 true) else (laws_FnScopes.j0 k bt376.1 bt376.2 t382 bt391.1 bt391.2.1 bt396.1 bt396.2 ((t382.length : Int) != (wrap64 ((bt376.1.length : Int) + (bt376.2.length : Int))))))))) else (laws_FnScopes.j0 k bt376.1 bt376.2 t382 bt391.1 bt391.2.1 bt396.1 bt396.2 true))) else (laws_FnScopes.j0 k bt376.1 bt376.2 t382 bt391.1 bt391.2.1 bt396.1 bt396.2 true))))))))))))) = some true := h
 clear h
 replace H := Option.bind_eq_some_iff.mp H
 obtain ⟨t375, A20, H⟩ := H
 replace H : (if t375 = true then (some true) else ((spec_DrawInner.f k l0).bind fun bt376 => ((impl_Inner.f k bt376.1 bt376.2).bind fun t382 => ((spec_DrawSpaceOf.f k l0).bind fun bt385 => ((impl_SpaceOf.f bt385.1 bt385.2).bind fun bt389 => ((spec_DrawPreFor.f k l0).bind fun bt391 => ((impl_PreFor.f bt391.1 bt391.2.1 bt391.2.2).bind fun bt396 => ((spec_PreFor.f k bt391.1 bt391.2.1 bt391.2.2).bind fun bt398 => ((spec_DrawDeclsOk.f k l0).bind fun t400 => ((spec_SpaceOf.f k bt385.1 bt385.2).bind fun bt403 => (if bt389.1.toList = bt403.1.toList then (if (bt389.2 != bt403.2) = true then (laws_FnScopes.j0 k bt376.1 bt376.2 t382 bt391.1 bt391.2.1 bt396.1 bt396.2 true) else (if bt396.1.toList = bt398.1.toList then (if (bt396.2 != bt398.2) = true then (laws_FnScopes.j0 k bt376.1 bt376.2 t382 bt391.1 bt391.2.1 bt396.1 bt396.2 true) else ((impl_DeclsOk.f k t400).bind fun t405 => ((spec_DeclsOk.f k t400).bind fun t406 => (if (t405 != t406) = true then (laws_FnScopes.j0 k bt376.1 bt376.2 t382 bt391.1 bt391.2.1 bt396.1 bt396.2 true) else (laws_FnScopes.j0 k bt376.1 bt376.2 t382 bt391.1 bt391.2.1 bt396.1 bt396.2 ((t382.length : Int) != (wrap64 ((bt376.1.length : Int) + (bt376.2.length : Int))))))))) else (laws_FnScopes.j0 k bt376.1 bt376.2 t382 bt391.1 bt391.2.1 bt396.1 bt396.2 true))) else (laws_FnScopes.j0 k bt376.1 bt376.2 t382 bt391.1 bt391.2.1 bt396.1 bt396.2 true)))))))))))) = some true := H
 have A2 := Aside0.mk A20
 clear A20
 by_cases c3 : t375 = true
 ·subst c3
  have H1 : (some true) = some true := rfl
  clear H
  have H := H1
  clear H1
  first | obtain rfl := Option.some.inj H | clear H
  go_enter Tryd.func4, Tryd.ntmps4
  go_wp2_with (first | ((with_reducible refine gate_callee (f := 5) rfl ?_); refine goesL_ (some 28) rfl rfl Tryd.func5 (by kernel_rfl) rfl #[.slice A0 l0.length c0] rfl (by (try simp only [List.map_toArray, List.map_cons, List.map_nil]); first | done | rfl | (simp only [List.length_drop, List.length_take]; rfl)) ?_; (with_reducible refine (laws_big.calls _ _ l0 true _ ?side1 ?side2 A2.out).mono ?_); (case side1 => repeat (first | exact HR0.out | (with_reducible refine Kd.C_alloc ?_ _) | (with_reducible refine Kd.C_drewN ?_ _) | (with_reducible refine Kd.C_drew ?_))); (case side2 => exact HC0.out); rintro e w' ⟨rfl, ⟨nd, rfl⟩⟩; refine ⟨_, rfl, ?_⟩))
  go_ret
  exact ⟨by first | rfl | (simp [errW_none, errW_some] <;> rfl) | (simp [*, errW_none, errW_some] <;> rfl), by repeat (first|(with_reducible first|exact HB.out|apply zA|apply zN|apply zD) | exact HB.out)⟩
 ·replace c3 := Bool.eq_false_iff.mpr c3
  subst c3
  have H1 : ((spec_DrawInner.f k l0).bind fun bt376 => ((impl_Inner.f k bt376.1 bt376.2).bind fun t382 => ((spec_DrawSpaceOf.f k l0).bind fun bt385 => ((impl_SpaceOf.f bt385.1 bt385.2).bind fun bt389 => ((spec_DrawPreFor.f k l0).bind fun bt391 => ((impl_PreFor.f bt391.1 bt391.2.1 bt391.2.2).bind fun bt396 => ((spec_PreFor.f k bt391.1 bt391.2.1 bt391.2.2).bind fun bt398 => ((spec_DrawDeclsOk.f k l0).bind fun t400 => ((spec_SpaceOf.f k bt385.1 bt385.2).bind fun bt403 => (if bt389.1.toList = bt403.1.toList then (if (bt389.2 != bt403.2) = true then (laws_FnScopes.j0 k bt376.1 bt376.2 t382 bt391.1 bt391.2.1 bt396.1 bt396.2 true) else (if bt396.1.toList = bt398.1.toList then (if (bt396.2 != bt398.2) = true then (laws_FnScopes.j0 k bt376.1 bt376.2 t382 bt391.1 bt391.2.1 bt396.1 bt396.2 true) else ((impl_DeclsOk.f k t400).bind fun t405 => ((spec_DeclsOk.f k t400).bind fun t406 => (if (t405 != t406) = true then (laws_FnScopes.j0 k bt376.1 bt376.2 t382 bt391.1 bt391.2.1 bt396.1 bt396.2 true) else (laws_FnScopes.j0 k bt376.1 bt376.2 t382 bt391.1 bt391.2.1 bt396.1 bt396.2 ((t382.length : Int) != (wrap64 ((bt376.1.length : Int) + (bt376.2.length : Int))))))))) else (laws_FnScopes.j0 k bt376.1 bt376.2 t382 bt391.1 bt391.2.1 bt396.1 bt396.2 true))) else (laws_FnScopes.j0 k bt376.1 bt376.2 t382 bt391.1 bt391.2.1 bt396.1 bt396.2 true))))))))))) = some true := by rw [if_neg (show ¬ (false = true) by decide)] at H; exact H
  clear H
  have H := H1
  clear H1
  replace H := Option.bind_eq_some_iff.mp H
  obtain ⟨⟨t376, t377⟩, A40, H⟩ := H
  replace H : ((impl_Inner.f k t376 t377).bind fun t382 => ((spec_DrawSpaceOf.f k l0).bind fun bt385 => ((impl_SpaceOf.f bt385.1 bt385.2).bind fun bt389 => ((spec_DrawPreFor.f k l0).bind fun bt391 => ((impl_PreFor.f bt391.1 bt391.2.1 bt391.2.2).bind fun bt396 => ((spec_PreFor.f k bt391.1 bt391.2.1 bt391.2.2).bind fun bt398 => ((spec_DrawDeclsOk.f k l0).bind fun t400 => ((spec_SpaceOf.f k bt385.1 bt385.2).bind fun bt403 => (if bt389.1.toList = bt403.1.toList then (if (bt389.2 != bt403.2) = true then (laws_FnScopes.j0 k t376 t377 t382 bt391.1 bt391.2.1 bt396.1 bt396.2 true) else (if bt396.1.toList = bt398.1.toList then (if (bt396.2 != bt398.2) = true then (laws_FnScopes.j0 k t376 t377 t382 bt391.1 bt391.2.1 bt396.1 bt396.2 true) else ((impl_DeclsOk.f k t400).bind fun t405 => ((spec_DeclsOk.f k t400).bind fun t406 => (if (t405 != t406) = true then (laws_FnScopes.j0 k t376 t377 t382 bt391.1 bt391.2.1 bt396.1 bt396.2 true) else (laws_FnScopes.j0 k t376 t377 t382 bt391.1 bt391.2.1 bt396.1 bt396.2 ((t382.length : Int) != (wrap64 ((t376.length : Int) + (t377.length : Int))))))))) else (laws_FnScopes.j0 k t376 t377 t382 bt391.1 bt391.2.1 bt396.1 bt396.2 true))) else (laws_FnScopes.j0 k t376 t377 t382 bt391.1 bt391.2.1 bt396.1 bt396.2 true)))))))))) = some true := H
  have A4 := Aside0.mk A40
  clear A40
  replace H := Option.bind_eq_some_iff.mp H
  obtain ⟨t382, A50, H⟩ := H
  replace H : ((spec_DrawSpaceOf.f k l0).bind fun bt385 => ((impl_SpaceOf.f bt385.1 bt385.2).bind fun bt389 => ((spec_DrawPreFor.f k l0).bind fun bt391 => ((impl_PreFor.f bt391.1 bt391.2.1 bt391.2.2).bind fun bt396 => ((spec_PreFor.f k bt391.1 bt391.2.1 bt391.2.2).bind fun bt398 => ((spec_DrawDeclsOk.f k l0).bind fun t400 => ((spec_SpaceOf.f k bt385.1 bt385.2).bind fun bt403 => (if bt389.1.toList = bt403.1.toList then (if (bt389.2 != bt403.2) = true then (laws_FnScopes.j0 k t376 t377 t382 bt391.1 bt391.2.1 bt396.1 bt396.2 true) else (if bt396.1.toList = bt398.1.toList then (if (bt396.2 != bt398.2) = true then (laws_FnScopes.j0 k t376 t377 t382 bt391.1 bt391.2.1 bt396.1 bt396.2 true) else ((impl_DeclsOk.f k t400).bind fun t405 => ((spec_DeclsOk.f k t400).bind fun t406 => (if (t405 != t406) = true then (laws_FnScopes.j0 k t376 t377 t382 bt391.1 bt391.2.1 bt396.1 bt396.2 true) else (laws_FnScopes.j0 k t376 t377 t382 bt391.1 bt391.2.1 bt396.1 bt396.2 ((t382.length : Int) != (wrap64 ((t376.length : Int) + (t377.length : Int))))))))) else (laws_FnScopes.j0 k t376 t377 t382 bt391.1 bt391.2.1 bt396.1 bt396.2 true))) else (laws_FnScopes.j0 k t376 t377 t382 bt391.1 bt391.2.1 bt396.1 bt396.2 true))))))))) = some true := H
  have A5 := Aside0.mk A50
  clear A50
  replace H := Option.bind_eq_some_iff.mp H
  obtain ⟨⟨t385, t386⟩, A60, H⟩ := H
  replace H : ((impl_SpaceOf.f t385 t386).bind fun bt389 => ((spec_DrawPreFor.f k l0).bind fun bt391 => ((impl_PreFor.f bt391.1 bt391.2.1 bt391.2.2).bind fun bt396 => ((spec_PreFor.f k bt391.1 bt391.2.1 bt391.2.2).bind fun bt398 => ((spec_DrawDeclsOk.f k l0).bind fun t400 => ((spec_SpaceOf.f k t385 t386).bind fun bt403 => (if bt389.1.toList = bt403.1.toList then (if (bt389.2 != bt403.2) = true then (laws_FnScopes.j0 k t376 t377 t382 bt391.1 bt391.2.1 bt396.1 bt396.2 true) else (if bt396.1.toList = bt398.1.toList then (if (bt396.2 != bt398.2) = true then (laws_FnScopes.j0 k t376 t377 t382 bt391.1 bt391.2.1 bt396.1 bt396.2 true) else ((impl_DeclsOk.f k t400).bind fun t405 => ((spec_DeclsOk.f k t400).bind fun t406 => (if (t405 != t406) = true then (laws_FnScopes.j0 k t376 t377 t382 bt391.1 bt391.2.1 bt396.1 bt396.2 true) else (laws_FnScopes.j0 k t376 t377 t382 bt391.1 bt391.2.1 bt396.1 bt396.2 ((t382.length : Int) != (wrap64 ((t376.length : Int) + (t377.length : Int))))))))) else (laws_FnScopes.j0 k t376 t377 t382 bt391.1 bt391.2.1 bt396.1 bt396.2 true))) else (laws_FnScopes.j0 k t376 t377 t382 bt391.1 bt391.2.1 bt396.1 bt396.2 true)))))))) = some true := H
  have A6 := Aside0.mk A60
  clear A60
  replace H := Option.bind_eq_some_iff.mp H
  obtain ⟨⟨t389, t390⟩, A70, H⟩ := H
  replace H : ((spec_DrawPreFor.f k l0).bind fun bt391 => ((impl_PreFor.f bt391.1 bt391.2.1 bt391.2.2).bind fun bt396 => ((spec_PreFor.f k bt391.1 bt391.2.1 bt391.2.2).bind fun bt398 => ((spec_DrawDeclsOk.f k l0).bind fun t400 => ((spec_SpaceOf.f k t385 t386).bind fun bt403 => (if t389.toList = bt403.1.toList then (if (t390 != bt403.2) = true then (laws_FnScopes.j0 k t376 t377 t382 bt391.1 bt391.2.1 bt396.1 bt396.2 true) else (if bt396.1.toList = bt398.1.toList then (if (bt396.2 != bt398.2) = true then (laws_FnScopes.j0 k t376 t377 t382 bt391.1 bt391.2.1 bt396.1 bt396.2 true) else ((impl_DeclsOk.f k t400).bind fun t405 => ((spec_DeclsOk.f k t400).bind fun t406 => (if (t405 != t406) = true then (laws_FnScopes.j0 k t376 t377 t382 bt391.1 bt391.2.1 bt396.1 bt396.2 true) else (laws_FnScopes.j0 k t376 t377 t382 bt391.1 bt391.2.1 bt396.1 bt396.2 ((t382.length : Int) != (wrap64 ((t376.length : Int) + (t377.length : Int))))))))) else (laws_FnScopes.j0 k t376 t377 t382 bt391.1 bt391.2.1 bt396.1 bt396.2 true))) else (laws_FnScopes.j0 k t376 t377 t382 bt391.1 bt391.2.1 bt396.1 bt396.2 true))))))) = some true := H
  have A7 := Aside0.mk A70
  clear A70
  replace H := Option.bind_eq_some_iff.mp H
  obtain ⟨⟨t391, t392, t393⟩, A80, H⟩ := H
  replace H : ((impl_PreFor.f t391 t392 t393).bind fun bt396 => ((spec_PreFor.f k t391 t392 t393).bind fun bt398 => ((spec_DrawDeclsOk.f k l0).bind fun t400 => ((spec_SpaceOf.f k t385 t386).bind fun bt403 => (if t389.toList = bt403.1.toList then (if (t390 != bt403.2) = true then (laws_FnScopes.j0 k t376 t377 t382 t391 t392 bt396.1 bt396.2 true) else (if bt396.1.toList = bt398.1.toList then (if (bt396.2 != bt398.2) = true then (laws_FnScopes.j0 k t376 t377 t382 t391 t392 bt396.1 bt396.2 true) else ((impl_DeclsOk.f k t400).bind fun t405 => ((spec_DeclsOk.f k t400).bind fun t406 => (if (t405 != t406) = true then (laws_FnScopes.j0 k t376 t377 t382 t391 t392 bt396.1 bt396.2 true) else (laws_FnScopes.j0 k t376 t377 t382 t391 t392 bt396.1 bt396.2 ((t382.length : Int) != (wrap64 ((t376.length : Int) + (t377.length : Int))))))))) else (laws_FnScopes.j0 k t376 t377 t382 t391 t392 bt396.1 bt396.2 true))) else (laws_FnScopes.j0 k t376 t377 t382 t391 t392 bt396.1 bt396.2 true)))))) = some true := H
  have A8 := Aside0.mk A80
  clear A80
  replace H := Option.bind_eq_some_iff.mp H
  obtain ⟨⟨t396, t397⟩, A90, H⟩ := H
  replace H : ((spec_PreFor.f k t391 t392 t393).bind fun bt398 => ((spec_DrawDeclsOk.f k l0).bind fun t400 => ((spec_SpaceOf.f k t385 t386).bind fun bt403 => (if t389.toList = bt403.1.toList then (if (t390 != bt403.2) = true then (laws_FnScopes.j0 k t376 t377 t382 t391 t392 t396 t397 true) else (if t396.toList = bt398.1.toList then (if (t397 != bt398.2) = true then (laws_FnScopes.j0 k t376 t377 t382 t391 t392 t396 t397 true) else ((impl_DeclsOk.f k t400).bind fun t405 => ((spec_DeclsOk.f k t400).bind fun t406 => (if (t405 != t406) = true then (laws_FnScopes.j0 k t376 t377 t382 t391 t392 t396 t397 true) else (laws_FnScopes.j0 k t376 t377 t382 t391 t392 t396 t397 ((t382.length : Int) != (wrap64 ((t376.length : Int) + (t377.length : Int))))))))) else (laws_FnScopes.j0 k t376 t377 t382 t391 t392 t396 t397 true))) else (laws_FnScopes.j0 k t376 t377 t382 t391 t392 t396 t397 true))))) = some true := H
  have A9 := Aside0.mk A90
  clear A90
  replace H := Option.bind_eq_some_iff.mp H
  obtain ⟨⟨t398, t399⟩, A100, H⟩ := H
  replace H : ((spec_DrawDeclsOk.f k l0).bind fun t400 => ((spec_SpaceOf.f k t385 t386).bind fun bt403 => (if t389.toList = bt403.1.toList then (if (t390 != bt403.2) = true then (laws_FnScopes.j0 k t376 t377 t382 t391 t392 t396 t397 true) else (if t396.toList = t398.toList then (if (t397 != t399) = true then (laws_FnScopes.j0 k t376 t377 t382 t391 t392 t396 t397 true) else ((impl_DeclsOk.f k t400).bind fun t405 => ((spec_DeclsOk.f k t400).bind fun t406 => (if (t405 != t406) = true then (laws_FnScopes.j0 k t376 t377 t382 t391 t392 t396 t397 true) else (laws_FnScopes.j0 k t376 t377 t382 t391 t392 t396 t397 ((t382.length : Int) != (wrap64 ((t376.length : Int) + (t377.length : Int))))))))) else (laws_FnScopes.j0 k t376 t377 t382 t391 t392 t396 t397 true))) else (laws_FnScopes.j0 k t376 t377 t382 t391 t392 t396 t397 true)))) = some true := H
  have A10 := Aside0.mk A100
  clear A100
  replace H := Option.bind_eq_some_iff.mp H
  obtain ⟨t400, A110, H⟩ := H
  replace H : ((spec_SpaceOf.f k t385 t386).bind fun bt403 => (if t389.toList = bt403.1.toList then (if (t390 != bt403.2) = true then (laws_FnScopes.j0 k t376 t377 t382 t391 t392 t396 t397 true) else (if t396.toList = t398.toList then (if (t397 != t399) = true then (laws_FnScopes.j0 k t376 t377 t382 t391 t392 t396 t397 true) else ((impl_DeclsOk.f k t400).bind fun t405 => ((spec_DeclsOk.f k t400).bind fun t406 => (if (t405 != t406) = true then (laws_FnScopes.j0 k t376 t377 t382 t391 t392 t396 t397 true) else (laws_FnScopes.j0 k t376 t377 t382 t391 t392 t396 t397 ((t382.length : Int) != (wrap64 ((t376.length : Int) + (t377.length : Int))))))))) else (laws_FnScopes.j0 k t376 t377 t382 t391 t392 t396 t397 true))) else (laws_FnScopes.j0 k t376 t377 t382 t391 t392 t396 t397 true))) = some true := H
  have A11 := Aside0.mk A110
  clear A110
  replace H := Option.bind_eq_some_iff.mp H
  obtain ⟨⟨t403, t404⟩, A120, H⟩ := H
  replace H : (if t389.toList = t403.toList then (if (t390 != t404) = true then (laws_FnScopes.j0 k t376 t377 t382 t391 t392 t396 t397 true) else (if t396.toList = t398.toList then (if (t397 != t399) = true then (laws_FnScopes.j0 k t376 t377 t382 t391 t392 t396 t397 true) else ((impl_DeclsOk.f k t400).bind fun t405 => ((spec_DeclsOk.f k t400).bind fun t406 => (if (t405 != t406) = true then (laws_FnScopes.j0 k t376 t377 t382 t391 t392 t396 t397 true) else (laws_FnScopes.j0 k t376 t377 t382 t391 t392 t396 t397 ((t382.length : Int) != (wrap64 ((t376.length : Int) + (t377.length : Int))))))))) else (laws_FnScopes.j0 k t376 t377 t382 t391 t392 t396 t397 true))) else (laws_FnScopes.j0 k t376 t377 t382 t391 t392 t396 t397 true)) = some true := H
  have A12 := Aside0.mk A120
  clear A120
  have HC13 := Aside0.mk H
  clear H
  go_enter Tryd.func4, Tryd.ntmps4
  go_upto_region 12 with (first | ((with_reducible refine gate_callee (f := 5) rfl ?_); refine goesL_ (some 28) rfl rfl Tryd.func5 (by kernel_rfl) rfl #[.slice A0 l0.length c0] rfl (by (try simp only [List.map_toArray, List.map_cons, List.map_nil]); first | done | rfl | (simp only [List.length_drop, List.length_take]; rfl)) ?_; (with_reducible refine (laws_big.calls _ _ l0 false _ ?side1 ?side2 A2.out).mono ?_); (case side1 => repeat (first | exact HR0.out | (with_reducible refine Kd.C_alloc ?_ _) | (with_reducible refine Kd.C_drewN ?_ _) | (with_reducible refine Kd.C_drew ?_))); (case side2 => exact HC0.out); rintro e w' ⟨rfl, ⟨nd, rfl⟩⟩; refine ⟨_, rfl, ?_⟩) | ((with_reducible refine gate_callee (f := 12) rfl ?_); refine goesL_ (some 31) rfl rfl Tryd.func12 (by kernel_rfl) rfl #[.slice A0 l0.length c0] rfl (by (try simp only [List.map_toArray, List.map_cons, List.map_nil]); first | done | rfl | (simp only [List.length_drop, List.length_take]; rfl)) ?_; (with_reducible refine (spec_DrawInner.calls k _ _ l0 t376 t377 _ ?side1 ?side2 A4.out).mono ?_); (case side1 => repeat (first | exact HR0.out | (with_reducible refine Kd.C_alloc ?_ _) | (with_reducible refine Kd.C_drewN ?_ _) | (with_reducible refine Kd.C_drew ?_))); (case side2 => exact HC0.out); rintro e w14 ⟨v378, v380, rfl, ho0, ho1, hb⟩; refine ⟨_, rfl, ?_⟩; have n0_ := Aside0.mk (Kd.R_lower ho0 (below_size (by repeat (first|(with_reducible first|exact HB.out|apply zA|apply zN|apply zD) | exact HB.out)))); have n1_ := Aside0.mk (Kd.R_lower ho1 (below_size (by repeat (first|(with_reducible first|exact HB.out|apply zA|apply zN|apply zD) | exact HB.out)))); have n2_ := Aside0.mk (below_step (by repeat (first|(with_reducible first|exact HB.out|apply zA|apply zN|apply zD) | exact HB.out)) hb); clear HB; have HO379 := n0_; have HO381 := n1_; have HB := n2_; clear n0_ n1_ n2_; (try clear hb); (try clear hb2); (try clear hk); (try clear hi); (try clear ho0); (try clear ho1); obtain ⟨Ao15, co15, eo15⟩ := Kd.R_slice HO379.out; subst eo15; obtain ⟨Ao16, co16, eo16⟩ := Kd.R_slice HO381.out; subst eo16) | ((with_reducible refine gate_callee (f := 13) rfl ?_); refine goesL_ (some 36) rfl rfl Tryd.func13 (by kernel_rfl) rfl #[.slice Ao15 t376.length co15, .slice Ao16 t377.length co16] rfl (by (try simp only [List.map_toArray, List.map_cons, List.map_nil]); first | done | rfl | (simp only [List.length_drop, List.length_take]; rfl)) ?_; (with_reducible refine (impl_Inner.calls k (fun k_ => some k_ = (.slice Ao15 t376.length co15 : Value).ownBlock) _ _ t376 (fun k_ => some k_ = (.slice Ao16 t377.length co16 : Value).ownBlock) _ _ t377 t382 _ ?side1 ?side2 A5.out).mono ?_); (case side1 => exact Kd.R_V (Kd.R_tight rfl (HO379.out))); (case side2 => exact Kd.R_V (Kd.R_tight rfl (HO381.out))); rintro e w17 ⟨v383, rfl, ho0, hb⟩; refine ⟨_, rfl, ?_⟩; have n0_ := Aside0.mk (Kd.R_elder' (by (with_reducible repeat (first|apply rA|apply rN|apply rD)); exact HO379.out) (Kd.R_base ho0) hb); have n1_ := Aside0.mk (Kd.R_elder' (by (with_reducible repeat (first|apply rA|apply rN|apply rD)); exact HO381.out) (Kd.R_base ho0) hb); have n2_ := Aside0.mk (Kd.R_lower (Kd.R_new' (Kd.R_new' (Kd.R_mono (ok' := fun k_ => True) ho0 (fun _ hk_ => trivial)) (Kd.R_lt (by (with_reducible repeat (first|apply rA|apply rN|apply rD)); exact HO379.out))) (Kd.R_lt (by (with_reducible repeat (first|apply rA|apply rN|apply rD)); exact HO381.out))) (below_size (by repeat (first|(with_reducible first|exact HB.out|apply zA|apply zN|apply zD) | exact HB.out)))); have n3_ := Aside0.mk (below_step (by repeat (first|(with_reducible first|exact HB.out|apply zA|apply zN|apply zD) | exact HB.out)) hb); clear HO379; clear HO381; clear HB; have HO379 := n0_; have HO381 := n1_; have HO384 := n2_; have HB := n3_; clear n0_ n1_ n2_ n3_; (try clear hb); (try clear hb2); (try clear hk); (try clear hi); (try clear ho0)) | ((with_reducible refine gate_callee (f := 14) rfl ?_); refine goesL_ (some 39) rfl rfl Tryd.func14 (by kernel_rfl) rfl #[.slice A0 l0.length c0] rfl (by (try simp only [List.map_toArray, List.map_cons, List.map_nil]); first | done | rfl | (simp only [List.length_drop, List.length_take]; rfl)) ?_; (with_reducible refine (spec_DrawSpaceOf.calls k _ _ l0 t385 t386 _ ?side1 ?side2 A6.out).mono ?_); (case side1 => repeat (first | exact (Kd.C_below HR0.out HB.out) | (with_reducible refine Kd.C_alloc ?_ _) | (with_reducible refine Kd.C_drewN ?_ _) | (with_reducible refine Kd.C_drew ?_))); (case side2 => exact HC0.out); rintro e w18 ⟨v387, rfl, ho0, hb⟩; refine ⟨_, rfl, ?_⟩; have n0_ := Aside0.mk (Kd.R_elder' (by (with_reducible repeat (first|apply rA|apply rN|apply rD)); exact HO379.out) (Kd.R_base ho0) hb); have n1_ := Aside0.mk (Kd.R_elder' (by (with_reducible repeat (first|apply rA|apply rN|apply rD)); exact HO381.out) (Kd.R_base ho0) hb); have n2_ := Aside0.mk (Kd.R_elder' (by (with_reducible repeat (first|apply rA|apply rN|apply rD)); exact HO384.out) (Kd.R_base ho0) hb); have n3_ := Aside0.mk (Kd.R_lower (Kd.R_new' (Kd.R_new' (Kd.R_new' ho0 (Kd.R_lt (by (with_reducible repeat (first|apply rA|apply rN|apply rD)); exact HO379.out))) (Kd.R_lt (by (with_reducible repeat (first|apply rA|apply rN|apply rD)); exact HO381.out))) (Kd.R_lt (by (with_reducible repeat (first|apply rA|apply rN|apply rD)); exact HO384.out))) (below_size (by repeat (first|(with_reducible first|exact HB.out|apply zA|apply zN|apply zD) | exact HB.out)))); have n4_ := Aside0.mk (below_step (by repeat (first|(with_reducible first|exact HB.out|apply zA|apply zN|apply zD) | exact HB.out)) hb); clear HO379; clear HO381; clear HO384; clear HB; have HO379 := n0_; have HO381 := n1_; have HO384 := n2_; have HO388 := n3_; have HB := n4_; clear n0_ n1_ n2_ n3_ n4_; (try clear hb); (try clear hb2); (try clear hk); (try clear hi); (try clear ho0); obtain ⟨Ao19, co19, eo19⟩ := Kd.R_slice HO388.out; subst eo19) | ((with_reducible refine gate_callee (f := 15) rfl ?_); refine goesL_ (some 45) rfl rfl Tryd.func15 (by kernel_rfl) rfl #[.slice Ao19 t385.length co19, .string t386] rfl (by (try simp only [List.map_toArray, List.map_cons, List.map_nil]); first | done | rfl | (simp only [List.length_drop, List.length_take]; rfl)) ?_; (with_reducible refine (impl_SpaceOf.calls _ _ t385 t386 t389 t390 _ ?side1 ?side2 A7.out).mono ?_); (case side1 => repeat (first | exact (Kd.R_reads' HO388.out).2.2 | (with_reducible refine Kd.C_alloc ?_ _) | (with_reducible refine Kd.C_drewN ?_ _) | (with_reducible refine Kd.C_drew ?_))); (case side2 => exact (Kd.R_reads' HO388.out).2.1); rintro e w20 ⟨rfl, hb⟩; refine ⟨_, rfl, ?_⟩; have n0_ := Aside0.mk (Kd.R_below (by (with_reducible repeat (first|apply rA|apply rN|apply rD)); exact HO379.out) hb); have n1_ := Aside0.mk (Kd.R_below (by (with_reducible repeat (first|apply rA|apply rN|apply rD)); exact HO381.out) hb); have n2_ := Aside0.mk (Kd.R_below (by (with_reducible repeat (first|apply rA|apply rN|apply rD)); exact HO384.out) hb); have n3_ := Aside0.mk (Kd.R_below (by (with_reducible repeat (first|apply rA|apply rN|apply rD)); exact HO388.out) hb); have n4_ := Aside0.mk (below_step (by repeat (first|(with_reducible first|exact HB.out|apply zA|apply zN|apply zD) | exact HB.out)) hb); clear HO379; clear HO381; clear HO384; clear HO388; clear HB; have HO379 := n0_; have HO381 := n1_; have HO384 := n2_; have HO388 := n3_; have HB := n4_; clear n0_ n1_ n2_ n3_ n4_; (try clear hb); (try clear hb2); (try clear hk); (try clear hi)) | ((with_reducible refine gate_callee (f := 16) rfl ?_); refine goesL_ (some 50) rfl rfl Tryd.func16 (by kernel_rfl) rfl #[.slice A0 l0.length c0] rfl (by (try simp only [List.map_toArray, List.map_cons, List.map_nil]); first | done | rfl | (simp only [List.length_drop, List.length_take]; rfl)) ?_; (with_reducible refine (spec_DrawPreFor.calls k _ _ l0 t391 t392 t393 _ ?side1 ?side2 A8.out).mono ?_); (case side1 => repeat (first | exact (Kd.C_below HR0.out HB.out) | (with_reducible refine Kd.C_alloc ?_ _) | (with_reducible refine Kd.C_drewN ?_ _) | (with_reducible refine Kd.C_drew ?_))); (case side2 => exact HC0.out); rintro e w21 ⟨v394, rfl, ho0, hb⟩; refine ⟨_, rfl, ?_⟩; have n0_ := Aside0.mk (Kd.R_elder' (by (with_reducible repeat (first|apply rA|apply rN|apply rD)); exact HO379.out) (Kd.R_base ho0) hb); have n1_ := Aside0.mk (Kd.R_elder' (by (with_reducible repeat (first|apply rA|apply rN|apply rD)); exact HO381.out) (Kd.R_base ho0) hb); have n2_ := Aside0.mk (Kd.R_elder' (by (with_reducible repeat (first|apply rA|apply rN|apply rD)); exact HO384.out) (Kd.R_base ho0) hb); have n3_ := Aside0.mk (Kd.R_elder' (by (with_reducible repeat (first|apply rA|apply rN|apply rD)); exact HO388.out) (Kd.R_base ho0) hb); have n4_ := Aside0.mk (Kd.R_lower (Kd.R_new' (Kd.R_new' (Kd.R_new' (Kd.R_new' ho0 (Kd.R_lt (by (with_reducible repeat (first|apply rA|apply rN|apply rD)); exact HO379.out))) (Kd.R_lt (by (with_reducible repeat (first|apply rA|apply rN|apply rD)); exact HO381.out))) (Kd.R_lt (by (with_reducible repeat (first|apply rA|apply rN|apply rD)); exact HO384.out))) (Kd.R_lt (by (with_reducible repeat (first|apply rA|apply rN|apply rD)); exact HO388.out))) (below_size (by repeat (first|(with_reducible first|exact HB.out|apply zA|apply zN|apply zD) | exact HB.out)))); have n5_ := Aside0.mk (below_step (by repeat (first|(with_reducible first|exact HB.out|apply zA|apply zN|apply zD) | exact HB.out)) hb); clear HO379; clear HO381; clear HO384; clear HO388; clear HB; have HO379 := n0_; have HO381 := n1_; have HO384 := n2_; have HO388 := n3_; have HO395 := n4_; have HB := n5_; clear n0_ n1_ n2_ n3_ n4_ n5_; (try clear hb); (try clear hb2); (try clear hk); (try clear hi); (try clear ho0); obtain ⟨Ao22, co22, eo22⟩ := Kd.R_slice HO395.out; subst eo22) | ((with_reducible refine gate_callee (f := 17) rfl ?_); refine goesL_ (some 58) rfl rfl Tryd.func17 (by kernel_rfl) rfl #[.slice Ao22 t391.length co22, .string t392, .bool t393] rfl (by (try simp only [List.map_toArray, List.map_cons, List.map_nil]); first | done | rfl | (simp only [List.length_drop, List.length_take]; rfl)) ?_; (with_reducible refine (impl_PreFor.calls _ _ t391 t392 t393 t396 t397 _ ?side1 ?side2 A9.out).mono ?_); (case side1 => repeat (first | exact (Kd.R_reads' HO395.out).2.2 | (with_reducible refine Kd.C_alloc ?_ _) | (with_reducible refine Kd.C_drewN ?_ _) | (with_reducible refine Kd.C_drew ?_))); (case side2 => exact (Kd.R_reads' HO395.out).2.1); rintro e w23 ⟨rfl, hb⟩; refine ⟨_, rfl, ?_⟩; have n0_ := Aside0.mk (Kd.R_below (by (with_reducible repeat (first|apply rA|apply rN|apply rD)); exact HO379.out) hb); have n1_ := Aside0.mk (Kd.R_below (by (with_reducible repeat (first|apply rA|apply rN|apply rD)); exact HO381.out) hb); have n2_ := Aside0.mk (Kd.R_below (by (with_reducible repeat (first|apply rA|apply rN|apply rD)); exact HO384.out) hb); have n3_ := Aside0.mk (Kd.R_below (by (with_reducible repeat (first|apply rA|apply rN|apply rD)); exact HO388.out) hb); have n4_ := Aside0.mk (Kd.R_below (by (with_reducible repeat (first|apply rA|apply rN|apply rD)); exact HO395.out) hb); have n5_ := Aside0.mk (below_step (by repeat (first|(with_reducible first|exact HB.out|apply zA|apply zN|apply zD) | exact HB.out)) hb); clear HO379; clear HO381; clear HO384; clear HO388; clear HO395; clear HB; have HO379 := n0_; have HO381 := n1_; have HO384 := n2_; have HO388 := n3_; have HO395 := n4_; have HB := n5_; clear n0_ n1_ n2_ n3_ n4_ n5_; (try clear hb); (try clear hb2); (try clear hk); (try clear hi)) | ((with_reducible refine gate_callee (f := 18) rfl ?_); refine goesL_ (some 65) rfl rfl Tryd.func18 (by kernel_rfl) rfl #[.slice Ao22 t391.length co22, .string t392, .bool t393] rfl (by (try simp only [List.map_toArray, List.map_cons, List.map_nil]); first | done | rfl | (simp only [List.length_drop, List.length_take]; rfl)) ?_; (with_reducible refine (spec_PreFor.calls k _ _ t391 t392 t393 t398 t399 _ ?side1 ?side2 A10.out).mono ?_); (case side1 => repeat (first | exact (Kd.R_reads' HO395.out).2.2 | (with_reducible refine Kd.C_alloc ?_ _) | (with_reducible refine Kd.C_drewN ?_ _) | (with_reducible refine Kd.C_drew ?_))); (case side2 => exact (Kd.R_reads' HO395.out).2.1); rintro e w' ⟨rfl, ⟨nd, rfl⟩⟩; refine ⟨_, rfl, ?_⟩) | ((with_reducible refine gate_callee (f := 19) rfl ?_); refine goesL_ (some 69) rfl rfl Tryd.func19 (by kernel_rfl) rfl #[.slice A0 l0.length c0] rfl (by (try simp only [List.map_toArray, List.map_cons, List.map_nil]); first | done | rfl | (simp only [List.length_drop, List.length_take]; rfl)) ?_; (with_reducible refine (spec_DrawDeclsOk.calls k _ _ l0 t400 _ ?side1 ?side2 A11.out).mono ?_); (case side1 => repeat (first | exact (Kd.C_below HR0.out (by repeat (first|(with_reducible first|exact HB.out|apply zA|apply zN|apply zD) | exact HB.out))) | (with_reducible refine Kd.C_alloc ?_ _) | (with_reducible refine Kd.C_drewN ?_ _) | (with_reducible refine Kd.C_drew ?_))); (case side2 => exact HC0.out); rintro e w24 ⟨v401, rfl, ho0, hb⟩; refine ⟨_, rfl, ?_⟩; have n0_ := Aside0.mk (Kd.R_elder' (by (with_reducible repeat (first|apply rA|apply rN|apply rD)); exact HO379.out) (Kd.R_base ho0) hb); have n1_ := Aside0.mk (Kd.R_elder' (by (with_reducible repeat (first|apply rA|apply rN|apply rD)); exact HO381.out) (Kd.R_base ho0) hb); have n2_ := Aside0.mk (Kd.R_elder' (by (with_reducible repeat (first|apply rA|apply rN|apply rD)); exact HO384.out) (Kd.R_base ho0) hb); have n3_ := Aside0.mk (Kd.R_elder' (by (with_reducible repeat (first|apply rA|apply rN|apply rD)); exact HO388.out) (Kd.R_base ho0) hb); have n4_ := Aside0.mk (Kd.R_elder' (by (with_reducible repeat (first|apply rA|apply rN|apply rD)); exact HO395.out) (Kd.R_base ho0) hb); have n5_ := Aside0.mk (Kd.R_lower (Kd.R_new' (Kd.R_new' (Kd.R_new' (Kd.R_new' (Kd.R_new' ho0 (Kd.R_lt (by (with_reducible repeat (first|apply rA|apply rN|apply rD)); exact HO379.out))) (Kd.R_lt (by (with_reducible repeat (first|apply rA|apply rN|apply rD)); exact HO381.out))) (Kd.R_lt (by (with_reducible repeat (first|apply rA|apply rN|apply rD)); exact HO384.out))) (Kd.R_lt (by (with_reducible repeat (first|apply rA|apply rN|apply rD)); exact HO388.out))) (Kd.R_lt (by (with_reducible repeat (first|apply rA|apply rN|apply rD)); exact HO395.out))) (below_size (by repeat (first|(with_reducible first|exact HB.out|apply zA|apply zN|apply zD) | exact HB.out)))); have n6_ := Aside0.mk (below_step (by repeat (first|(with_reducible first|exact HB.out|apply zA|apply zN|apply zD) | exact HB.out)) hb); clear HO379; clear HO381; clear HO384; clear HO388; clear HO395; clear HB; have HO379 := n0_; have HO381 := n1_; have HO384 := n2_; have HO388 := n3_; have HO395 := n4_; have HO402 := n5_; have HB := n6_; clear n0_ n1_ n2_ n3_ n4_ n5_ n6_; (try clear hb); (try clear hb2); (try clear hk); (try clear hi); (try clear ho0)) | ((with_reducible refine gate_callee (f := 20) rfl ?_); refine goesL_ (some 73) rfl rfl Tryd.func20 (by kernel_rfl) rfl #[.slice Ao19 t385.length co19, .string t386] rfl (by (try simp only [List.map_toArray, List.map_cons, List.map_nil]); first | done | rfl | (simp only [List.length_drop, List.length_take]; rfl)) ?_; (with_reducible refine (spec_SpaceOf.calls k _ _ t385 t386 t403 t404 _ ?side1 ?side2 A12.out).mono ?_); (case side1 => repeat (first | exact (Kd.R_reads' HO388.out).2.2 | (with_reducible refine Kd.C_alloc ?_ _) | (with_reducible refine Kd.C_drewN ?_ _) | (with_reducible refine Kd.C_drew ?_))); (case side2 => exact (Kd.R_reads' HO388.out).2.1); rintro e w' ⟨rfl, ⟨nd, rfl⟩⟩; refine ⟨_, rfl, ?_⟩))
  (try simp only [Act.put, List.setIfInBounds_toArray, List.set_cons_zero, List.set_cons_succ])
  go_cut [110] (fun v110 wc => ∃ (kq : Nat) (x110_12 : Bool), v110 = .bool x110_12 ∧ Aside0 (laws_FnScopes.j0 kq t376 t377 t382 t391 t392 t396 t397 x110_12 = some true) ∧ Aside0 (kq ≤ k) ∧ Aside0 (Kd.R k44 44 wc w.heap.size (fun k_ => some k_ ≠ ((.slice Ao16 t377.length co16) : Value).ownBlock ∧ some k_ ≠ (v383 : Value).ownBlock ∧ some k_ ≠ ((.slice Ao22 t391.length co22) : Value).ownBlock) (.slice Ao15 t376.length co15) t376) ∧ Aside0 (Kd.R k44 44 wc w.heap.size (fun k_ => some k_ ≠ ((.slice Ao15 t376.length co15) : Value).ownBlock ∧ some k_ ≠ (v383 : Value).ownBlock ∧ some k_ ≠ ((.slice Ao22 t391.length co22) : Value).ownBlock) (.slice Ao16 t377.length co16) t377) ∧ Aside0 (Kd.R k44 44 wc w.heap.size (fun k_ => some k_ ≠ ((.slice Ao15 t376.length co15) : Value).ownBlock ∧ some k_ ≠ ((.slice Ao16 t377.length co16) : Value).ownBlock ∧ some k_ ≠ ((.slice Ao22 t391.length co22) : Value).ownBlock) v383 t382) ∧ Aside0 (Kd.R k44 44 wc w.heap.size (fun k_ => some k_ ≠ ((.slice Ao15 t376.length co15) : Value).ownBlock ∧ some k_ ≠ ((.slice Ao16 t377.length co16) : Value).ownBlock ∧ some k_ ≠ (v383 : Value).ownBlock) (.slice Ao22 t391.length co22) t391) ∧ Aside0 (Below w.heap.size w wc))
  case first =>
   have H := HC13.out
   clear HC13
   by_cases c25 : t389.toList = t403.toList
   ·rw [if_pos c25] at H
    have c25b0 : (t389.toList == t403.toList) = true := beq_iff_eq.mpr c25
    have c25b1 : (t389.toList != t403.toList) = false := bne_eq_false_iff_eq.mpr c25
    clear c25
    (first | rw [c25b0] | (simp only [i64_w, i32_w]; rw [c25b0]) | skip)
    by_cases c26 : (t390 != t404) = true
    ·rw [if_pos c26] at H
     have c26b0 : (t390 != t404) = true := c26
     (try (have c26b1 : decide (t390 = t404) = false := by simpa using c26))
     (try (have c26b2 : (t390 == t404) = false := by simpa using c26))
     (try (have c26b3 : ¬ (t390 = t404) := by simpa using c26))
     clear c26
     have H' := Aside0.mk H
     clear H
     go_wp2
     go_meet
     case rel => exact ⟨_, (true), (by first | rfl | (simp; done) | (simp [*]; done)), H', ⟨by first | omega | exact Nat.le_refl _⟩, ⟨by (with_reducible repeat (first|apply rA|apply rN|apply rD)); exact Kd.R_mono HO379.out (fun _ hk => ⟨hk.1.1.1.1, ⟨hk.1.1.1.2, hk.1.2⟩⟩)⟩, ⟨by (with_reducible repeat (first|apply rA|apply rN|apply rD)); exact Kd.R_mono HO381.out (fun _ hk => ⟨hk.1.1.1.1, ⟨hk.1.1.1.2, hk.1.2⟩⟩)⟩, ⟨by (with_reducible repeat (first|apply rA|apply rN|apply rD)); exact Kd.R_mono HO384.out (fun _ hk => ⟨hk.1.1.1.1.2, ⟨hk.1.1.1.2, hk.1.2⟩⟩)⟩, ⟨by (with_reducible repeat (first|apply rA|apply rN|apply rD)); exact Kd.R_mono HO395.out (fun _ hk => ⟨hk.1.1.1.1.2, ⟨hk.1.1.1.2, hk.1.1.2⟩⟩)⟩, ⟨by repeat (first|(with_reducible first|exact HB.out|apply zA|apply zN|apply zD) | exact HB.out)⟩⟩
    ·rw [if_neg c26] at H
     have c26b0 : (t390 != t404) = false := by simpa using c26
     (try (have c26b1 : decide (t390 = t404) = true := by simpa using c26))
     (try (have c26b2 : (t390 == t404) = true := by simpa using c26))
     clear c26
     by_cases c27 : t396.toList = t398.toList
     ·rw [if_pos c27] at H
      have c27b0 : (t396.toList == t398.toList) = true := beq_iff_eq.mpr c27
      have c27b1 : (t396.toList != t398.toList) = false := bne_eq_false_iff_eq.mpr c27
      clear c27
      by_cases c28 : (t397 != t399) = true
      ·rw [if_pos c28] at H
       have c28b0 : (t397 != t399) = true := c28
       (try (have c28b1 : decide (t397 = t399) = false := by simpa using c28))
       (try (have c28b2 : (t397 == t399) = false := by simpa using c28))
       (try (have c28b3 : ¬ (t397 = t399) := by simpa using c28))
       clear c28
       have H' := Aside0.mk H
       clear H
       go_wp2
       go_meet
       case rel => exact ⟨_, (true), (by first | rfl | (simp; done) | (simp [*]; done)), H', ⟨by first | omega | exact Nat.le_refl _⟩, ⟨by (with_reducible repeat (first|apply rA|apply rN|apply rD)); exact Kd.R_mono HO379.out (fun _ hk => ⟨hk.1.1.1.1, ⟨hk.1.1.1.2, hk.1.2⟩⟩)⟩, ⟨by (with_reducible repeat (first|apply rA|apply rN|apply rD)); exact Kd.R_mono HO381.out (fun _ hk => ⟨hk.1.1.1.1, ⟨hk.1.1.1.2, hk.1.2⟩⟩)⟩, ⟨by (with_reducible repeat (first|apply rA|apply rN|apply rD)); exact Kd.R_mono HO384.out (fun _ hk => ⟨hk.1.1.1.1.2, ⟨hk.1.1.1.2, hk.1.2⟩⟩)⟩, ⟨by (with_reducible repeat (first|apply rA|apply rN|apply rD)); exact Kd.R_mono HO395.out (fun _ hk => ⟨hk.1.1.1.1.2, ⟨hk.1.1.1.2, hk.1.1.2⟩⟩)⟩, ⟨by repeat (first|(with_reducible first|exact HB.out|apply zA|apply zN|apply zD) | exact HB.out)⟩⟩
      ·rw [if_neg c28] at H
       have c28b0 : (t397 != t399) = false := by simpa using c28
       (try (have c28b1 : decide (t397 = t399) = true := by simpa using c28))
       (try (have c28b2 : (t397 == t399) = true := by simpa using c28))
       clear c28
       replace H := Option.bind_eq_some_iff.mp H
       obtain ⟨t405, A290, H⟩ := H
       replace H : ((spec_DeclsOk.f k t400).bind fun t406 => (if (t405 != t406) = true then (laws_FnScopes.j0 k t376 t377 t382 t391 t392 t396 t397 true) else (laws_FnScopes.j0 k t376 t377 t382 t391 t392 t396 t397 ((t382.length : Int) != (wrap64 ((t376.length : Int) + (t377.length : Int))))))) = some true := H
       have A29 := Aside0.mk A290
       clear A290
       replace H := Option.bind_eq_some_iff.mp H
       obtain ⟨t406, A300, H⟩ := H
       replace H : (if (t405 != t406) = true then (laws_FnScopes.j0 k t376 t377 t382 t391 t392 t396 t397 true) else (laws_FnScopes.j0 k t376 t377 t382 t391 t392 t396 t397 ((t382.length : Int) != (wrap64 ((t376.length : Int) + (t377.length : Int)))))) = some true := H
       have A30 := Aside0.mk A300
       clear A300
       by_cases c31 : (t405 != t406) = true
       ·rw [if_pos c31] at H
        have c31b0 : (t405 != t406) = true := c31
        (try (have c31b1 : decide (t405 = t406) = false := by simpa using c31))
        (try (have c31b2 : (t405 == t406) = false := by simpa using c31))
        (try (have c31b3 : ¬ (t405 = t406) := by simpa using c31))
        clear c31
        have H' := Aside0.mk H
        clear H
        obtain ⟨Ao32, co32, eo32⟩ := Kd.R_slice HO402.out
        subst eo32
        go_wp2_with (first | (go_at_call 21; (with_reducible refine (impl_DeclsOk.calls k _ _ t400 t405 _ ?side1 ?side2 ?tabs A29.out).mono ?_); (case tabs => first | exact Tabs.below HT.out (by repeat (first|(with_reducible first|exact HB.out|apply zA|apply zN|apply zD) | exact HB.out)) | (repeat (first | exact HT.out | (with_reducible refine Tabs.drewN ?_ _) | (with_reducible refine Tabs.drew ?_) | (with_reducible refine Tabs.alloc ?_ _)))); (case side1 => repeat (first | exact (Kd.R_reads' HO402.out).2.2 | (with_reducible refine Kd.C_alloc ?_ _) | (with_reducible refine Kd.C_drewN ?_ _) | (with_reducible refine Kd.C_drew ?_))); (case side2 => exact (Kd.R_reads' HO402.out).2.1); rintro e w33 ⟨rfl, hb⟩; have n0_ := Aside0.mk (Kd.R_below (by (with_reducible repeat (first|apply rA|apply rN|apply rD)); exact HO379.out) hb); have n1_ := Aside0.mk (Kd.R_below (by (with_reducible repeat (first|apply rA|apply rN|apply rD)); exact HO381.out) hb); have n2_ := Aside0.mk (Kd.R_below (by (with_reducible repeat (first|apply rA|apply rN|apply rD)); exact HO384.out) hb); have n3_ := Aside0.mk (Kd.R_below (by (with_reducible repeat (first|apply rA|apply rN|apply rD)); exact HO388.out) hb); have n4_ := Aside0.mk (Kd.R_below (by (with_reducible repeat (first|apply rA|apply rN|apply rD)); exact HO395.out) hb); have n5_ := Aside0.mk (Kd.R_below (by (with_reducible repeat (first|apply rA|apply rN|apply rD)); exact HO402.out) hb); have n6_ := Aside0.mk (below_step (by repeat (first|(with_reducible first|exact HB.out|apply zA|apply zN|apply zD) | exact HB.out)) hb); clear HO379; clear HO381; clear HO384; clear HO388; clear HO395; clear HO402; clear HB; have HO379 := n0_; have HO381 := n1_; have HO384 := n2_; have HO388 := n3_; have HO395 := n4_; have HO402 := n5_; have HB := n6_; clear n0_ n1_ n2_ n3_ n4_ n5_ n6_; (try clear hb); (try clear hb2); (try clear hk); (try clear hi)) | (go_at_call 22; (with_reducible refine (spec_DeclsOk.calls k _ _ t400 t406 _ ?side1 ?side2 A30.out).mono ?_); (case side1 => repeat (first | exact (Kd.R_reads' HO402.out).2.2 | (with_reducible refine Kd.C_alloc ?_ _) | (with_reducible refine Kd.C_drewN ?_ _) | (with_reducible refine Kd.C_drew ?_))); (case side2 => exact (Kd.R_reads' HO402.out).2.1); rintro e w34 ⟨rfl, hb⟩; have n0_ := Aside0.mk (Kd.R_below (by (with_reducible repeat (first|apply rA|apply rN|apply rD)); exact HO379.out) hb); have n1_ := Aside0.mk (Kd.R_below (by (with_reducible repeat (first|apply rA|apply rN|apply rD)); exact HO381.out) hb); have n2_ := Aside0.mk (Kd.R_below (by (with_reducible repeat (first|apply rA|apply rN|apply rD)); exact HO384.out) hb); have n3_ := Aside0.mk (Kd.R_below (by (with_reducible repeat (first|apply rA|apply rN|apply rD)); exact HO388.out) hb); have n4_ := Aside0.mk (Kd.R_below (by (with_reducible repeat (first|apply rA|apply rN|apply rD)); exact HO395.out) hb); have n5_ := Aside0.mk (Kd.R_below (by (with_reducible repeat (first|apply rA|apply rN|apply rD)); exact HO402.out) hb); have n6_ := Aside0.mk (below_step (by repeat (first|(with_reducible first|exact HB.out|apply zA|apply zN|apply zD) | exact HB.out)) hb); clear HO379; clear HO381; clear HO384; clear HO388; clear HO395; clear HO402; clear HB; have HO379 := n0_; have HO381 := n1_; have HO384 := n2_; have HO388 := n3_; have HO395 := n4_; have HO402 := n5_; have HB := n6_; clear n0_ n1_ n2_ n3_ n4_ n5_ n6_; (try clear hb); (try clear hb2); (try clear hk); (try clear hi)))
        go_meet
        case rel => exact ⟨_, (true), (by first | rfl | (simp; done) | (simp [*]; done)), H', ⟨by first | omega | exact Nat.le_refl _⟩, ⟨by (with_reducible repeat (first|apply rA|apply rN|apply rD)); exact Kd.R_mono HO379.out (fun _ hk => ⟨hk.1.1.1.1, ⟨hk.1.1.1.2, hk.1.2⟩⟩)⟩, ⟨by (with_reducible repeat (first|apply rA|apply rN|apply rD)); exact Kd.R_mono HO381.out (fun _ hk => ⟨hk.1.1.1.1, ⟨hk.1.1.1.2, hk.1.2⟩⟩)⟩, ⟨by (with_reducible repeat (first|apply rA|apply rN|apply rD)); exact Kd.R_mono HO384.out (fun _ hk => ⟨hk.1.1.1.1.2, ⟨hk.1.1.1.2, hk.1.2⟩⟩)⟩, ⟨by (with_reducible repeat (first|apply rA|apply rN|apply rD)); exact Kd.R_mono HO395.out (fun _ hk => ⟨hk.1.1.1.1.2, ⟨hk.1.1.1.2, hk.1.1.2⟩⟩)⟩, ⟨by repeat (first|(with_reducible first|exact HB.out|apply zA|apply zN|apply zD) | exact HB.out)⟩⟩
       ·rw [if_neg c31] at H
        have c31b0 : (t405 != t406) = false := by simpa using c31
        (try (have c31b1 : decide (t405 = t406) = true := by simpa using c31))
        (try (have c31b2 : (t405 == t406) = true := by simpa using c31))
        clear c31
        have H' := Aside0.mk H
        clear H
        obtain ⟨Ao35, co35, eo35⟩ := Kd.R_slice HO402.out
        subst eo35
        go_wp2_with (first | (go_at_call 21; (with_reducible refine (impl_DeclsOk.calls k _ _ t400 t405 _ ?side1 ?side2 ?tabs A29.out).mono ?_); (case tabs => first | exact Tabs.below HT.out (by repeat (first|(with_reducible first|exact HB.out|apply zA|apply zN|apply zD) | exact HB.out)) | (repeat (first | exact HT.out | (with_reducible refine Tabs.drewN ?_ _) | (with_reducible refine Tabs.drew ?_) | (with_reducible refine Tabs.alloc ?_ _)))); (case side1 => repeat (first | exact (Kd.R_reads' HO402.out).2.2 | (with_reducible refine Kd.C_alloc ?_ _) | (with_reducible refine Kd.C_drewN ?_ _) | (with_reducible refine Kd.C_drew ?_))); (case side2 => exact (Kd.R_reads' HO402.out).2.1); rintro e w36 ⟨rfl, hb⟩; have n0_ := Aside0.mk (Kd.R_below (by (with_reducible repeat (first|apply rA|apply rN|apply rD)); exact HO379.out) hb); have n1_ := Aside0.mk (Kd.R_below (by (with_reducible repeat (first|apply rA|apply rN|apply rD)); exact HO381.out) hb); have n2_ := Aside0.mk (Kd.R_below (by (with_reducible repeat (first|apply rA|apply rN|apply rD)); exact HO384.out) hb); have n3_ := Aside0.mk (Kd.R_below (by (with_reducible repeat (first|apply rA|apply rN|apply rD)); exact HO388.out) hb); have n4_ := Aside0.mk (Kd.R_below (by (with_reducible repeat (first|apply rA|apply rN|apply rD)); exact HO395.out) hb); have n5_ := Aside0.mk (Kd.R_below (by (with_reducible repeat (first|apply rA|apply rN|apply rD)); exact HO402.out) hb); have n6_ := Aside0.mk (below_step (by repeat (first|(with_reducible first|exact HB.out|apply zA|apply zN|apply zD) | exact HB.out)) hb); clear HO379; clear HO381; clear HO384; clear HO388; clear HO395; clear HO402; clear HB; have HO379 := n0_; have HO381 := n1_; have HO384 := n2_; have HO388 := n3_; have HO395 := n4_; have HO402 := n5_; have HB := n6_; clear n0_ n1_ n2_ n3_ n4_ n5_ n6_; (try clear hb); (try clear hb2); (try clear hk); (try clear hi)) | (go_at_call 22; (with_reducible refine (spec_DeclsOk.calls k _ _ t400 t406 _ ?side1 ?side2 A30.out).mono ?_); (case side1 => repeat (first | exact (Kd.R_reads' HO402.out).2.2 | (with_reducible refine Kd.C_alloc ?_ _) | (with_reducible refine Kd.C_drewN ?_ _) | (with_reducible refine Kd.C_drew ?_))); (case side2 => exact (Kd.R_reads' HO402.out).2.1); rintro e w37 ⟨rfl, hb⟩; have n0_ := Aside0.mk (Kd.R_below (by (with_reducible repeat (first|apply rA|apply rN|apply rD)); exact HO379.out) hb); have n1_ := Aside0.mk (Kd.R_below (by (with_reducible repeat (first|apply rA|apply rN|apply rD)); exact HO381.out) hb); have n2_ := Aside0.mk (Kd.R_below (by (with_reducible repeat (first|apply rA|apply rN|apply rD)); exact HO384.out) hb); have n3_ := Aside0.mk (Kd.R_below (by (with_reducible repeat (first|apply rA|apply rN|apply rD)); exact HO388.out) hb); have n4_ := Aside0.mk (Kd.R_below (by (with_reducible repeat (first|apply rA|apply rN|apply rD)); exact HO395.out) hb); have n5_ := Aside0.mk (Kd.R_below (by (with_reducible repeat (first|apply rA|apply rN|apply rD)); exact HO402.out) hb); have n6_ := Aside0.mk (below_step (by repeat (first|(with_reducible first|exact HB.out|apply zA|apply zN|apply zD) | exact HB.out)) hb); clear HO379; clear HO381; clear HO384; clear HO388; clear HO395; clear HO402; clear HB; have HO379 := n0_; have HO381 := n1_; have HO384 := n2_; have HO388 := n3_; have HO395 := n4_; have HO402 := n5_; have HB := n6_; clear n0_ n1_ n2_ n3_ n4_ n5_ n6_; (try clear hb); (try clear hb2); (try clear hk); (try clear hi); obtain ⟨Ao38, co38, eo38⟩ := Kd.R_slice HO384.out; subst eo38))
        go_meet
        case rel => exact ⟨_, (((t382.length : Int) != (wrap64 ((t376.length : Int) + (t377.length : Int))))), (by first | rfl | (simp; done) | (simp [*]; done)), H', ⟨by first | omega | exact Nat.le_refl _⟩, ⟨by (with_reducible repeat (first|apply rA|apply rN|apply rD)); exact Kd.R_mono HO379.out (fun _ hk => ⟨hk.1.1.1.1, ⟨hk.1.1.1.2, hk.1.2⟩⟩)⟩, ⟨by (with_reducible repeat (first|apply rA|apply rN|apply rD)); exact Kd.R_mono HO381.out (fun _ hk => ⟨hk.1.1.1.1, ⟨hk.1.1.1.2, hk.1.2⟩⟩)⟩, ⟨by (with_reducible repeat (first|apply rA|apply rN|apply rD)); exact Kd.R_mono HO384.out (fun _ hk => ⟨hk.1.1.1.1.2, ⟨hk.1.1.1.2, hk.1.2⟩⟩)⟩, ⟨by (with_reducible repeat (first|apply rA|apply rN|apply rD)); exact Kd.R_mono HO395.out (fun _ hk => ⟨hk.1.1.1.1.2, ⟨hk.1.1.1.2, hk.1.1.2⟩⟩)⟩, ⟨by repeat (first|(with_reducible first|exact HB.out|apply zA|apply zN|apply zD) | exact HB.out)⟩⟩
     ·rw [if_neg c27] at H
      have c27b0 : (t396.toList == t398.toList) = false := beq_eq_false_iff_ne.mpr c27
      have c27b1 : (t396.toList != t398.toList) = true := bne_iff_ne.mpr c27
      have H' := Aside0.mk H
      clear H
      go_wp2
      go_meet
      case rel => exact ⟨_, (true), (by first | rfl | (simp; done) | (simp [*]; done)), H', ⟨by first | omega | exact Nat.le_refl _⟩, ⟨by (with_reducible repeat (first|apply rA|apply rN|apply rD)); exact Kd.R_mono HO379.out (fun _ hk => ⟨hk.1.1.1.1, ⟨hk.1.1.1.2, hk.1.2⟩⟩)⟩, ⟨by (with_reducible repeat (first|apply rA|apply rN|apply rD)); exact Kd.R_mono HO381.out (fun _ hk => ⟨hk.1.1.1.1, ⟨hk.1.1.1.2, hk.1.2⟩⟩)⟩, ⟨by (with_reducible repeat (first|apply rA|apply rN|apply rD)); exact Kd.R_mono HO384.out (fun _ hk => ⟨hk.1.1.1.1.2, ⟨hk.1.1.1.2, hk.1.2⟩⟩)⟩, ⟨by (with_reducible repeat (first|apply rA|apply rN|apply rD)); exact Kd.R_mono HO395.out (fun _ hk => ⟨hk.1.1.1.1.2, ⟨hk.1.1.1.2, hk.1.1.2⟩⟩)⟩, ⟨by repeat (first|(with_reducible first|exact HB.out|apply zA|apply zN|apply zD) | exact HB.out)⟩⟩
   ·rw [if_neg c25] at H
    have c25b0 : (t389.toList == t403.toList) = false := beq_eq_false_iff_ne.mpr c25
    have c25b1 : (t389.toList != t403.toList) = true := bne_iff_ne.mpr c25
    (first | rw [c25b0] | (simp only [i64_w, i32_w]; rw [c25b0]) | skip)
    have H' := Aside0.mk H
    clear H
    go_wp2
    go_meet
    case rel => exact ⟨_, (true), (by first | rfl | (simp; done) | (simp [*]; done)), H', ⟨by first | omega | exact Nat.le_refl _⟩, ⟨by (with_reducible repeat (first|apply rA|apply rN|apply rD)); exact Kd.R_mono HO379.out (fun _ hk => ⟨hk.1.1.1.1, ⟨hk.1.1.1.2, hk.1.2⟩⟩)⟩, ⟨by (with_reducible repeat (first|apply rA|apply rN|apply rD)); exact Kd.R_mono HO381.out (fun _ hk => ⟨hk.1.1.1.1, ⟨hk.1.1.1.2, hk.1.2⟩⟩)⟩, ⟨by (with_reducible repeat (first|apply rA|apply rN|apply rD)); exact Kd.R_mono HO384.out (fun _ hk => ⟨hk.1.1.1.1.2, ⟨hk.1.1.1.2, hk.1.2⟩⟩)⟩, ⟨by (with_reducible repeat (first|apply rA|apply rN|apply rD)); exact Kd.R_mono HO395.out (fun _ hk => ⟨hk.1.1.1.1.2, ⟨hk.1.1.1.2, hk.1.1.2⟩⟩)⟩, ⟨by repeat (first|(with_reducible first|exact HB.out|apply zA|apply zN|apply zD) | exact HB.out)⟩⟩
  case rest =>
   clear HC13
   try clear c1
   try clear c2
   try clear p2
   try clear c3
   try clear c4
   try clear c5
   try clear p6
   try clear c12
   try clear c13
   try clear c14
   try clear c15
   try clear c16
   try clear c17
   try clear c18
   try clear c19
   try clear c20
   try clear c25
   try clear c25b0
   try clear c25b1
   try clear c26
   try clear c26b0
   try clear c26b1
   try clear c26b2
   try clear c27
   try clear c27b0
   try clear c27b1
   try clear c28
   try clear c28b0
   try clear c28b1
   try clear c28b2
   try clear c31
   try clear c31b0
   try clear c31b1
   try clear c31b2
   obtain ⟨kq, x110_12, rfl, HA, HJ12, HO_3, HO_4, HO_5, HO_10, HB⟩ := hcut
   cases kq with
   | zero => exact absurd HA.out (by simp [laws_FnScopes.j0])
   | succ kj12 =>
    have H := HA.out
    clear HA
    simp only [laws_FnScopes.j0] at H
    by_cases c39 : x110_12 = true
    ·subst c39
     exact absurd (show some false = some true from by rw [if_pos rfl] at H; exact H) (by simp)
    ·replace c39 := Bool.eq_false_iff.mpr c39
     subst c39
     have H1 : (if t397 = true then ((impl_SpaceOf.f t391 t396).bind fun bt407 => (if bt407.2 = true then (if bt407.1.toList = t392.toList then (laws_FnScopes.j1 kj12 t376 t377 t382) else (some false)) else (some false))) else (laws_FnScopes.j1 kj12 t376 t377 t382)) = some true := by rw [if_neg (show ¬ (false = true) by decide)] at H; exact H
     clear H
     have H := H1
     clear H1
     have HC40 := Aside0.mk H
     clear H
     go_upto_if 111 with (fail)
     go_cut [] (fun wc => ∃ (kq : Nat), Aside0 (laws_FnScopes.j1 kq t376 t377 t382 = some true) ∧ Aside0 (kq ≤ kj12) ∧ Aside0 (Kd.R k44 44 wc w.heap.size (fun k_ => some k_ ≠ ((.slice Ao16 t377.length co16) : Value).ownBlock ∧ some k_ ≠ (v383 : Value).ownBlock) (.slice Ao15 t376.length co15) t376) ∧ Aside0 (Kd.R k44 44 wc w.heap.size (fun k_ => some k_ ≠ ((.slice Ao15 t376.length co15) : Value).ownBlock ∧ some k_ ≠ (v383 : Value).ownBlock) (.slice Ao16 t377.length co16) t377) ∧ Aside0 (Kd.R k44 44 wc w.heap.size (fun k_ => some k_ ≠ ((.slice Ao15 t376.length co15) : Value).ownBlock ∧ some k_ ≠ ((.slice Ao16 t377.length co16) : Value).ownBlock) v383 t382) ∧ Aside0 (Below w.heap.size w wc))
     case first =>
      have H := HC40.out
      clear HC40
      by_cases c41 : t397 = true
      ·subst c41
       have H1 : ((impl_SpaceOf.f t391 t396).bind fun bt407 => (if bt407.2 = true then (if bt407.1.toList = t392.toList then (laws_FnScopes.j1 kj12 t376 t377 t382) else (some false)) else (some false))) = some true := by rw [if_pos rfl] at H; exact H
       clear H
       have H := H1
       clear H1
       replace H := Option.bind_eq_some_iff.mp H
       obtain ⟨⟨t407, t408⟩, A420, H⟩ := H
       replace H : (if t408 = true then (if t407.toList = t392.toList then (laws_FnScopes.j1 kj12 t376 t377 t382) else (some false)) else (some false)) = some true := H
       have A42 := Aside0.mk A420
       clear A420
       by_cases c43 : t408 = true
       ·subst c43
        have H1 : (if t407.toList = t392.toList then (laws_FnScopes.j1 kj12 t376 t377 t382) else (some false)) = some true := by rw [if_pos rfl] at H; exact H
        clear H
        have H := H1
        clear H1
        by_cases c44 : t407.toList = t392.toList
        ·rw [if_pos c44] at H
         have c44b0 : (t407.toList == t392.toList) = true := beq_iff_eq.mpr c44
         have c44b1 : (t407.toList != t392.toList) = false := bne_eq_false_iff_eq.mpr c44
         clear c44
         (first | rw [c44b0] | (simp only [i64_w, i32_w]; rw [c44b0]) | skip)
         have H' := Aside0.mk H
         clear H
         go_wp2_with (first | ((with_reducible refine gate_callee (f := 15) rfl ?_); refine goesL_ (some 115) rfl rfl Tryd.func15 (by kernel_rfl) rfl #[.slice Ao22 t391.length co22, .string t396] rfl (by (try simp only [List.map_toArray, List.map_cons, List.map_nil]); first | done | rfl | (simp only [List.length_drop, List.length_take]; rfl)) ?_; (with_reducible refine (impl_SpaceOf.calls _ _ t391 t396 t407 true _ ?side1 ?side2 A42.out).mono ?_); (case side1 => repeat (first | exact (Kd.R_reads' HO_10.out).2.2 | (with_reducible refine Kd.C_alloc ?_ _) | (with_reducible refine Kd.C_drewN ?_ _) | (with_reducible refine Kd.C_drew ?_))); (case side2 => exact (Kd.R_reads' HO_10.out).2.1); rintro e w45 ⟨rfl, hb⟩; refine ⟨_, rfl, ?_⟩; have n0_ := Aside0.mk (Kd.R_below (by (with_reducible repeat (first|apply rA|apply rN|apply rD)); exact HO_3.out) hb); have n1_ := Aside0.mk (Kd.R_below (by (with_reducible repeat (first|apply rA|apply rN|apply rD)); exact HO_4.out) hb); have n2_ := Aside0.mk (Kd.R_below (by (with_reducible repeat (first|apply rA|apply rN|apply rD)); exact HO_5.out) hb); have n3_ := Aside0.mk (Kd.R_below (by (with_reducible repeat (first|apply rA|apply rN|apply rD)); exact HO_10.out) hb); have n4_ := Aside0.mk (below_step (by repeat (first|(with_reducible first|exact HB.out|apply zA|apply zN|apply zD) | exact HB.out)) hb); clear HO_3; clear HO_4; clear HO_5; clear HO_10; clear HB; have HO_3 := n0_; have HO_4 := n1_; have HO_5 := n2_; have HO_10 := n3_; have HB := n4_; clear n0_ n1_ n2_ n3_ n4_; (try clear hb); (try clear hb2); (try clear hk); (try clear hi)))
         go_meet
         case rel => exact ⟨_, H', ⟨by have := HJ12.out; first | omega | exact Nat.le_refl _⟩, ⟨by (with_reducible repeat (first|apply rA|apply rN|apply rD)); exact Kd.R_mono HO_3.out (fun _ hk => ⟨hk.1, hk.2.1⟩)⟩, ⟨by (with_reducible repeat (first|apply rA|apply rN|apply rD)); exact Kd.R_mono HO_4.out (fun _ hk => ⟨hk.1, hk.2.1⟩)⟩, ⟨by (with_reducible repeat (first|apply rA|apply rN|apply rD)); exact Kd.R_mono HO_5.out (fun _ hk => ⟨hk.1, hk.2.1⟩)⟩, ⟨by repeat (first|(with_reducible first|exact HB.out|apply zA|apply zN|apply zD) | exact HB.out)⟩⟩
        ·rw [if_neg c44] at H
         exact absurd H (by simp)
       ·rw [if_neg c43] at H
        exact absurd H (by simp)
      ·replace c41 := Bool.eq_false_iff.mpr c41
       subst c41
       have H1 : (laws_FnScopes.j1 kj12 t376 t377 t382) = some true := by rw [if_neg (show ¬ (false = true) by decide)] at H; exact H
       clear H
       have H := H1
       clear H1
       have H' := Aside0.mk H
       clear H
       go_wp2
       go_meet
       case rel => exact ⟨_, H', ⟨by have := HJ12.out; first | omega | exact Nat.le_refl _⟩, ⟨by (with_reducible repeat (first|apply rA|apply rN|apply rD)); exact Kd.R_mono HO_3.out (fun _ hk => ⟨hk.1, hk.2.1⟩)⟩, ⟨by (with_reducible repeat (first|apply rA|apply rN|apply rD)); exact Kd.R_mono HO_4.out (fun _ hk => ⟨hk.1, hk.2.1⟩)⟩, ⟨by (with_reducible repeat (first|apply rA|apply rN|apply rD)); exact Kd.R_mono HO_5.out (fun _ hk => ⟨hk.1, hk.2.1⟩)⟩, ⟨by repeat (first|(with_reducible first|exact HB.out|apply zA|apply zN|apply zD) | exact HB.out)⟩⟩
     case rest =>
      clear HC40
      try clear c1
      try clear c2
      try clear p2
      try clear c3
      try clear c4
      try clear c5
      try clear p6
      try clear c12
      try clear c13
      try clear c14
      try clear c15
      try clear c16
      try clear c17
      try clear c18
      try clear c19
      try clear c20
      try clear c25
      try clear c25b0
      try clear c25b1
      try clear c26
      try clear c26b0
      try clear c26b1
      try clear c26b2
      try clear c27
      try clear c27b0
      try clear c27b1
      try clear c28
      try clear c28b0
      try clear c28b1
      try clear c28b2
      try clear c31
      try clear c31b0
      try clear c31b1
      try clear c31b2
      try clear c39
      try clear c41
      try clear c43
      try clear c44
      try clear c44b0
      try clear c44b1
      try clear p2
      try clear p6
      obtain ⟨kq, HA, HJ39, HO_3, HO_4, HO_5, HB⟩ := hcut
      cases kq with
      | zero => exact absurd HA.out (by simp [laws_FnScopes.j1])
      | succ kj39 =>
       have H := HA.out
       clear HA
       simp only [laws_FnScopes.j1] at H
       have H' := Aside0.mk H
       clear H
       go_wp2
       go_loopg [22] kj39 (fun kq v22 w' => ∃ (x22_3 : Int), v22 = .int .i64 x22_3 ∧ Aside0 (laws_FnScopes.l0 kq t376 t377 t382 x22_3 = some true) ∧ Aside0 (kq ≤ kj39) ∧ Aside0 (Kd.R k44 44 w' w.heap.size (fun k_ => some k_ ≠ ((.slice Ao16 t377.length co16) : Value).ownBlock ∧ some k_ ≠ (v383 : Value).ownBlock) (.slice Ao15 t376.length co15) t376) ∧ Aside0 (Kd.R k44 44 w' w.heap.size (fun k_ => some k_ ≠ ((.slice Ao15 t376.length co15) : Value).ownBlock ∧ some k_ ≠ (v383 : Value).ownBlock) (.slice Ao16 t377.length co16) t377) ∧ Aside0 (Kd.R k44 44 w' w.heap.size (fun k_ => some k_ ≠ ((.slice Ao15 t376.length co15) : Value).ownBlock ∧ some k_ ≠ ((.slice Ao16 t377.length co16) : Value).ownBlock) v383 t382) ∧ Aside0 (Below w.heap.size w w'))
       case atStart => exact ⟨(0), (by first | rfl | (simp; done) | (simp [*]; done)), H', ⟨Nat.le_refl _⟩, ⟨by (with_reducible repeat (first|apply rA|apply rN|apply rD)); exact HO_3.out⟩, ⟨by (with_reducible repeat (first|apply rA|apply rN|apply rD)); exact HO_4.out⟩, ⟨by (with_reducible repeat (first|apply rA|apply rN|apply rD)); exact HO_5.out⟩, ⟨by repeat (first|(with_reducible first|exact HB.out|apply zA|apply zN|apply zD) | exact HB.out)⟩⟩
       case round =>
        clear H'
        try clear c1
        try clear c2
        try clear p2
        try clear c3
        try clear c4
        try clear c5
        try clear p6
        try clear c12
        try clear c13
        try clear c14
        try clear c15
        try clear c16
        try clear c17
        try clear c18
        try clear c19
        try clear c20
        try clear c25
        try clear c25b0
        try clear c25b1
        try clear c26
        try clear c26b0
        try clear c26b1
        try clear c26b2
        try clear c27
        try clear c27b0
        try clear c27b1
        try clear c28
        try clear c28b0
        try clear c28b1
        try clear c28b2
        try clear c31
        try clear c31b0
        try clear c31b1
        try clear c31b2
        try clear c39
        try clear c41
        try clear c43
        try clear c44
        try clear c44b0
        try clear c44b1
        try clear p2
        try clear p6
        obtain ⟨x22_3, rfl, HA, HK3, HO_3, HO_4, HO_5, HB⟩ := hrel
        cases gk with
        | zero => exact absurd HA.out (by simp [laws_FnScopes.l0])
        | succ k3 =>
         have H := HA.out
         clear HA
         simp only [laws_FnScopes.l0] at H
         by_cases c48 : x22_3 < (t377.length : Int)
         ·rw [if_pos c48] at H
          have c48b0 : decide (x22_3 < (t377.length : Int)) = true := decide_eq_true c48
          clear c48
          by_cases c49 : 0 ≤ x22_3
          ·rw [if_pos c49] at H
           have c49b0 : decide (0 ≤ x22_3) = true := decide_eq_true c49
           clear c49
           replace H := Option.bind_eq_some_iff.mp H
           obtain ⟨⟨t420, t421⟩, A500, H⟩ := H
           replace H : ((impl_SpaceOf.f t377 ((rd_T44 t377 x22_3).f0)).bind fun bt423 => (if t420.toList = bt423.1.toList then (if t421 = true then (if bt423.2 = true then (laws_FnScopes.l0 k3 t376 t377 t382 (wrap64 (x22_3 + 1))) else (some false)) else (some false)) else (some false))) = some true := H
           have A50 := Aside0.mk A500
           clear A500
           replace H := Option.bind_eq_some_iff.mp H
           obtain ⟨⟨t423, t424⟩, A510, H⟩ := H
           replace H : (if t420.toList = t423.toList then (if t421 = true then (if t424 = true then (laws_FnScopes.l0 k3 t376 t377 t382 (wrap64 (x22_3 + 1))) else (some false)) else (some false)) else (some false)) = some true := H
           have A51 := Aside0.mk A510
           clear A510
           by_cases c52 : t420.toList = t423.toList
           ·rw [if_pos c52] at H
            have c52b0 : (t420.toList == t423.toList) = true := beq_iff_eq.mpr c52
            have c52b1 : (t420.toList != t423.toList) = false := bne_eq_false_iff_eq.mpr c52
            clear c52
            by_cases c53 : t421 = true
            ·subst c53
             have H1 : (if t424 = true then (laws_FnScopes.l0 k3 t376 t377 t382 (wrap64 (x22_3 + 1))) else (some false)) = some true := by rw [if_pos rfl] at H; exact H
             clear H
             have H := H1
             clear H1
             by_cases c54 : t424 = true
             ·subst c54
              have H1 : (laws_FnScopes.l0 k3 t376 t377 t382 (wrap64 (x22_3 + 1))) = some true := by rw [if_pos rfl] at H; exact H
              clear H
              have H := H1
              clear H1
              have H' := Aside0.mk H
              clear H
              have p419 : 0 ≤ (x22_3 : Int) := of_decide_eq_true (by first | (with_reducible assumption) | assumption)
              have q419 : x22_3 < (t377.length : Int) := of_decide_eq_true (by first | (with_reducible assumption) | assumption)
              obtain ⟨ad419, e419, hx419_0, hx419_1⟩ := at_T44 (Kd.R_reads' HO_4.out).2.2 x22_3 p419 q419
              cases e419
              replace p419 := eq_true p419
              replace q419 := eq_true q419
              obtain ⟨Ao55, co55, eo55⟩ := Kd.R_slice HO_5.out
              subst eo55
              go_wp2_with (first | ((with_reducible refine gate_callee (f := 15) rfl ?_); refine goesL_ (some 138) rfl rfl Tryd.func15 (by kernel_rfl) rfl #[.slice Ao55 t382.length co55, .string ((rd_T44 t377 x22_3).f0)] rfl (by (try simp only [List.map_toArray, List.map_cons, List.map_nil]); first | done | rfl | (simp only [List.length_drop, List.length_take]; rfl)) ?_; (with_reducible refine (impl_SpaceOf.calls _ _ t382 ((rd_T44 t377 x22_3).f0) t420 true _ ?side1 ?side2 A50.out).mono ?_); (case side1 => repeat (first | exact (Kd.R_reads' HO_5.out).2.2 | (with_reducible refine Kd.C_alloc ?_ _) | (with_reducible refine Kd.C_drewN ?_ _) | (with_reducible refine Kd.C_drew ?_))); (case side2 => exact (Kd.R_reads' HO_5.out).2.1); rintro e w56 ⟨rfl, hb⟩; refine ⟨_, rfl, ?_⟩; have n0_ := Aside0.mk (Kd.R_below (by (with_reducible repeat (first|apply rA|apply rN|apply rD)); exact HO_3.out) hb); have n1_ := Aside0.mk (Kd.R_below (by (with_reducible repeat (first|apply rA|apply rN|apply rD)); exact HO_4.out) hb); have n2_ := Aside0.mk (Kd.R_below (by (with_reducible repeat (first|apply rA|apply rN|apply rD)); exact HO_5.out) hb); have n3_ := Aside0.mk (below_step (by repeat (first|(with_reducible first|exact HB.out|apply zA|apply zN|apply zD) | exact HB.out)) hb); clear HO_3; clear HO_4; clear HO_5; clear HB; have HO_3 := n0_; have HO_4 := n1_; have HO_5 := n2_; have HB := n3_; clear n0_ n1_ n2_ n3_; (try clear hb); (try clear hb2); (try clear hk); (try clear hi); have p422 : 0 ≤ (x22_3 : Int) := of_decide_eq_true (by first | (with_reducible assumption) | assumption); have q422 : x22_3 < (t377.length : Int) := of_decide_eq_true (by first | (with_reducible assumption) | assumption); obtain ⟨ad422, e422, hx422_0, hx422_1⟩ := at_T44 (Kd.R_reads' HO_4.out).2.2 x22_3 p422 q422; obtain rfl : ad419 = ad422 := (by injection e422); replace p422 := eq_true p422; replace q422 := eq_true q422) | ((with_reducible refine gate_callee (f := 15) rfl ?_); refine goesL_ (some 148) rfl rfl Tryd.func15 (by kernel_rfl) rfl #[.slice (some ad419) t377.length co16, .string ((rd_T44 t377 x22_3).f0)] rfl (by (try simp only [List.map_toArray, List.map_cons, List.map_nil]); first | done | rfl | (simp only [List.length_drop, List.length_take]; rfl)) ?_; (with_reducible refine (impl_SpaceOf.calls _ _ t377 ((rd_T44 t377 x22_3).f0) t423 true _ ?side1 ?side2 A51.out).mono ?_); (case side1 => repeat (first | exact (Kd.R_reads' HO_4.out).2.2 | (with_reducible refine Kd.C_alloc ?_ _) | (with_reducible refine Kd.C_drewN ?_ _) | (with_reducible refine Kd.C_drew ?_))); (case side2 => exact (Kd.R_reads' HO_4.out).2.1); rintro e w57 ⟨rfl, hb⟩; refine ⟨_, rfl, ?_⟩; have n0_ := Aside0.mk (Kd.R_below (by (with_reducible repeat (first|apply rA|apply rN|apply rD)); exact HO_3.out) hb); have n1_ := Aside0.mk (Kd.R_below (by (with_reducible repeat (first|apply rA|apply rN|apply rD)); exact HO_4.out) hb); have n2_ := Aside0.mk (Kd.R_below (by (with_reducible repeat (first|apply rA|apply rN|apply rD)); exact HO_5.out) hb); have n3_ := Aside0.mk (below_step (by repeat (first|(with_reducible first|exact HB.out|apply zA|apply zN|apply zD) | exact HB.out)) hb); clear HO_3; clear HO_4; clear HO_5; clear HB; have HO_3 := n0_; have HO_4 := n1_; have HO_5 := n2_; have HB := n3_; clear n0_ n1_ n2_ n3_; (try clear hb); (try clear hb2); (try clear hk); (try clear hi)))
              go_roundg k3
              case measure => have := HJ12.out; have := HJ39.out; have := HK3.out; omega
              case rel => exact ⟨(wrap64 (x22_3 + 1)), (by first | rfl | (simp; done) | (simp [*]; done)), H', ⟨by have := HJ12.out; have := HJ39.out; have := HK3.out; omega⟩, ⟨by (with_reducible repeat (first|apply rA|apply rN|apply rD)); exact HO_3.out⟩, ⟨by (with_reducible repeat (first|apply rA|apply rN|apply rD)); exact HO_4.out⟩, ⟨by (with_reducible repeat (first|apply rA|apply rN|apply rD)); exact HO_5.out⟩, ⟨by repeat (first|(with_reducible first|exact HB.out|apply zA|apply zN|apply zD) | exact HB.out)⟩⟩
             ·rw [if_neg c54] at H
              exact absurd H (by simp)
            ·rw [if_neg c53] at H
             exact absurd H (by simp)
           ·rw [if_neg c52] at H
            exact absurd H (by simp)
          ·rw [if_neg c49] at H
           exact absurd H (by simp)
         ·rw [if_neg c48] at H
          have c48b0 : decide (x22_3 < (t377.length : Int)) = false := decide_eq_false c48
          clear c48
          by_cases c67 : 0 ≤ (t376.length : Int)
          ·rw [if_pos c67] at H
           have c67b0 := eq_true c67
           have c67b1 : decide (0 ≤ (t376.length : Int)) = true := decide_eq_true c67
           clear c67
           by_cases c68 : (t376.length : Int) ≤ (t382.length : Int)
           ·rw [if_pos c68] at H
            have c68b0 := eq_true c68
            have c68b1 : decide ((t376.length : Int) ≤ (t382.length : Int)) = true := decide_eq_true c68
            clear c68
            obtain ⟨y409, hy409⟩ : ∃ y_ : List (S44), y_ = (t382.take ((t376.length : Int) : Int).toNat) := ⟨_, rfl⟩
            replace H : ((laws_sameDecls.f k3 y409 t376).bind fun t413 => (if t413 = true then ((laws_sameDecls.f k3 (t382.drop ((t376.length : Int) : Int).toNat) t377).bind fun t418 => (some t418)) else (some false))) = some true := by first | (rw [hy409]; with_reducible exact H) | (have H2_ := (Option.bind_some _ _).symm.trans H; rw [hy409]; with_reducible exact H2_) | (have H2_ := (Option.bind_some _ _).symm.trans H; with_reducible exact H2_) | with_reducible exact H | (rw [hy409]; exact H) | exact H
            have Ny409 := Aside0.mk hy409
            clear hy409
            replace H := Option.bind_eq_some_iff.mp H
            obtain ⟨t413, A690, H⟩ := H
            replace H : (if t413 = true then ((laws_sameDecls.f k3 (t382.drop ((t376.length : Int) : Int).toNat) t377).bind fun t418 => (some t418)) else (some false)) = some true := H
            have A69 := Aside0.mk A690
            clear A690
            by_cases c70 : t413 = true
            ·subst c70
             have H1 : ((laws_sameDecls.f k3 (t382.drop ((t376.length : Int) : Int).toNat) t377).bind fun t418 => (some t418)) = some true := by rw [if_pos rfl] at H; exact H
             clear H
             have H := H1
             clear H1
             have c71b0 := eq_true (of_decide_eq_true (by first | (with_reducible assumption) | assumption) : 0 ≤ (t376.length : Int))
             have c72b0 := eq_true (of_decide_eq_true (by first | (with_reducible assumption) | assumption) : (t376.length : Int) ≤ (t382.length : Int))
             obtain ⟨y414, hy414⟩ : ∃ y_ : List (S44), y_ = (t382.drop ((t376.length : Int) : Int).toNat) := ⟨_, rfl⟩
             replace H : ((laws_sameDecls.f k3 y414 t377).bind fun t418 => (some t418)) = some true := by first | (rw [hy414]; with_reducible exact H) | (have H2_ := (Option.bind_some _ _).symm.trans H; rw [hy414]; with_reducible exact H2_) | (have H2_ := (Option.bind_some _ _).symm.trans H; with_reducible exact H2_) | with_reducible exact H | (rw [hy414]; exact H) | exact H
             have Ny414 := Aside0.mk hy414
             clear hy414
             replace H := Option.bind_eq_some_iff.mp H
             obtain ⟨t418, A730, H⟩ := H
             replace H : (some t418) = some true := H
             have A73 := Aside0.mk A730
             clear A730
             have hr_ := Option.some.inj H
             obtain ⟨Ao75, co75, eo75⟩ := Kd.R_slice HO_5.out
             subst eo75
             have q74 : ((t376.length : Int) : Int) ≤ ((t382.length : Int) : Int) := of_decide_eq_true (by first | (with_reducible assumption) | assumption)
             obtain ⟨i074, hi074, _, hsz74, _⟩ := info_parts info44
             have hroom74 : t382.length ≤ co75 := (Kd.R_reads' HO_5.out).2.1
             have hC74 : Kd.C k44 _ Ao75 t382.length t382 := (Kd.R_reads' HO_5.out).2.2
             have hcut74 := cut_to (P := Tryd.prog) 30 44 .i64 Tryd.underlying30 hi074 Ao75 t382.length co75 (t376.length : Int) (of_decide_eq_true (by first | (with_reducible assumption) | assumption)) q74 hroom74
             have hr74 := Kd.C_take (m := ((t376.length : Int) : Int).toNat) hC74 (by omega)
             have hy74 : y409.length = ((t376.length : Int) : Int).toNat := (by rw [Ny409.out, List.length_take]; omega)
             rw [← Ny409.out] at hr74
             rw [← hy74] at hcut74
             have HR412 := Aside0.mk hr74
             have HC412 := Aside0.mk (show y409.length ≤ co75 from by omega)
             clear hr74 hC74 hroom74 hi074 hsz74
             have KY74 := Aside0.mk hy74
             clear hy74
             have KL74 := Aside0.mk (show ((t376.length : Int) : Int).toNat ≤ t382.length from by omega)
             replace q74 := eq_true q74
             go_wp2_with (first | ((with_reducible refine gate_callee (f := 23) rfl ?_); refine goesL_ (some 167) rfl rfl Tryd.func23 (by kernel_rfl) rfl #[.slice Ao75 y409.length co75, .slice Ao15 t376.length co15] rfl (by (try simp only [List.map_toArray, List.map_cons, List.map_nil]); first | done | rfl | (simp only [List.length_drop, List.length_take]; rfl)) ?_; (with_reducible refine (laws_sameDecls.calls k3 _ _ y409 _ _ t376 true _ ?side1 ?side2 ?side3 ?side4 A69.out).mono ?_); (case side1 => repeat (first | exact (by repeat (first | (with_reducible exact HR412.out) | (with_reducible refine Kd.C_alloc ?_ _) | (with_reducible refine Kd.C_drewN ?_ _) | (with_reducible refine Kd.C_drew ?_) | exact HR412.out)) | (with_reducible refine Kd.C_alloc ?_ _) | (with_reducible refine Kd.C_drewN ?_ _) | (with_reducible refine Kd.C_drew ?_))); (case side2 => exact HC412.out); (case side3 => repeat (first | exact (Kd.R_reads' HO_3.out).2.2 | (with_reducible refine Kd.C_alloc ?_ _) | (with_reducible refine Kd.C_drewN ?_ _) | (with_reducible refine Kd.C_drew ?_))); (case side4 => exact (Kd.R_reads' HO_3.out).2.1); rintro e w' ⟨rfl, ⟨nd, rfl⟩⟩; refine ⟨_, rfl, ?_⟩; have q76 : ((t376.length : Int) : Int) ≤ ((t382.length : Int) : Int) := of_decide_eq_true (by first | (with_reducible assumption) | assumption); obtain ⟨i076, hi076, _, hsz76, _⟩ := info_parts info44; have hroom76 : t382.length ≤ co75 := (Kd.R_reads' HO_5.out).2.1; have hC76 : Kd.C k44 _ Ao75 t382.length t382 := (Kd.R_reads' HO_5.out).2.2; have q076 : (0 : Int) ≤ ((t376.length : Int) : Int) := of_decide_eq_true (by first | (with_reducible assumption) | assumption); have hcut76 := cut_from (P := Tryd.prog) 30 44 .i64 Tryd.underlying30 hi076 2 hsz76 Ao75 t382.length co75 (t376.length : Int) q076 q76; have hr76 := Kd.C_drop (m := ((t376.length : Int) : Int).toNat) (c := co75) hC76 (by omega) hroom76; obtain ⟨A76, hA76⟩ : ∃ A1, A1 = (if co75 = ((t376.length : Int) : Int).toNat then Ao75 else (Ao75 : Option Addr).map (·.add (((t376.length : Int) : Int).toNat * 2))) := ⟨_, rfl⟩; obtain ⟨c76, hc76⟩ : ∃ c1, c1 = co75 - ((t376.length : Int) : Int).toNat := ⟨_, rfl⟩; have hy76 : y414.length = t382.length - ((t376.length : Int) : Int).toNat := (by rw [Ny414.out, List.length_drop] <;> omega); rw [show (t382).drop ((t376.length : Int) : Int).toNat = y414 from Ny414.out.symm] at hr76; replace hr76 : Kd.C k44 _ A76 y414.length y414 := (by rw [hA76]; exact hr76); rw [← hy76, ← hA76, ← hc76] at hcut76; have HR417 := Aside0.mk hr76; have HC417 := Aside0.mk (show y414.length ≤ c76 from by rw [hy76, hc76]; exact Nat.sub_le_sub_right hroom76 _); clear hr76 hC76 hroom76 hi076 hsz76 hc76; have KY76 := Aside0.mk hy76; have KA76 := Aside0.mk hA76; clear hy76 hA76; have KL76 := Aside0.mk (show ((t376.length : Int) : Int).toNat ≤ t382.length from by omega); replace q76 := eq_true q76) | (go_at_call 23; (with_reducible refine (laws_sameDecls.calls k3 _ _ y414 _ _ t377 t418 _ ?side1 ?side2 ?side3 ?side4 A73.out).mono ?_); (case side1 => repeat (first | exact (by repeat (first | (with_reducible exact HR417.out) | (with_reducible refine Kd.C_alloc ?_ _) | (with_reducible refine Kd.C_drewN ?_ _) | (with_reducible refine Kd.C_drew ?_) | exact HR417.out)) | (with_reducible refine Kd.C_alloc ?_ _) | (with_reducible refine Kd.C_drewN ?_ _) | (with_reducible refine Kd.C_drew ?_))); (case side2 => exact HC417.out); (case side3 => repeat (first | exact (Kd.R_reads' HO_4.out).2.2 | (with_reducible refine Kd.C_alloc ?_ _) | (with_reducible refine Kd.C_drewN ?_ _) | (with_reducible refine Kd.C_drew ?_))); (case side4 => exact (Kd.R_reads' HO_4.out).2.1); rintro e w' ⟨rfl, ⟨nd, rfl⟩⟩))
             go_ret
             exact ⟨by first | rfl | (simp [errW_none, errW_some] <;> rfl) | (simp [*, errW_none, errW_some] <;> rfl), by repeat (first|(with_reducible first|exact HB.out|apply zA|apply zN|apply zD) | exact HB.out)⟩
            ·rw [if_neg c70] at H
             exact absurd H (by simp)
           ·rw [if_neg c68] at H
            exact absurd H (by simp)
          ·rw [if_neg c67] at H
           exact absurd H (by simp)

end Go.Proofs.YtehlkajccnmddaaDoor.PZ
