-- Written by the session's program hprint.py, over the kit's print program. Lean checks it.
import Derived.Test.YtalionlkjdgciaaGreatDoorPLx0
import Derived.Test.YtalionlkjdgciaaGreatDoorPLx12
namespace Go.Proofs.YtalionlkjdgciaaGreatDoor.PL
open Go.RowKit Go.Proofs.YtalionlkjdgciaaGreatDoorW.PrintWords Go.Proofs.YtalionlkjdgciaaGreatDoorW.PrintLast Go.Proofs.YtalionlkjdgciaaGreatDoorW.PrintMore
attribute [local go_sem] max2_int min2_int max_two min_two max_three min_three max_four min_four   -- for this text's walks alone
set_option linter.unusedVariables false
set_option linter.unusedSimpArgs false
set_option maxHeartbeats 8000000
set_option maxRecDepth 100000

/-! ### impl_toldOk: function 109 -/
def impl_toldOk.f (k : Nat) (a0 : ByteArray) (a1 : ByteArray) : Option (Bool) := (impl_PlainOk.f k a0).bind fun t309 => (if t309 = true then ((strings_EqualFold.f a0 (⟨#[120, 109, 108]⟩ : ByteArray)).bind fun t310 => (if t310 = true then (some false) else ((impl_TextOk.f k a1).bind fun t311 => (if t311 = true then ((strings_Contains.f a1 (⟨#[63, 62]⟩ : ByteArray)).bind fun t312 => (if t312 = true then (some false) else ((strings_Contains.f a1 (⟨#[13]⟩ : ByteArray)).bind fun t313 => (if t313 = true then (some false) else (if a1.toList = ([] : List UInt8) then (some true) else (if 0 < (a1.size : Int) then ((impl_IsBlank.f (wrap64 (bt a1 0))).bind fun t314 => (some (!t314))) else (none))))))) else (some false))))) else (some false))
theorem impl_toldOk.mono : ∀ a0 a1 k, LeO (impl_toldOk.f k a0 a1) (impl_toldOk.f (k + 1) a0 a1) := by
 intro a0 a1 k
 unfold impl_toldOk.f
 repeat' first
   | (with_reducible exact impl_PlainOk.mono _ _)
   | (with_reducible exact impl_TextOk.mono _ _)
   | (with_reducible exact LeO.refl _)
   | (with_reducible exact LeO.none _)
   | (with_reducible refine LeO.ite ?_ ?_)
   | (with_reducible refine LeO.bind ?_ (fun _ => ?_))
   | exact impl_PlainOk.mono _ _
   | exact impl_TextOk.mono _ _
   | exact LeO.none _
   | refine LeO.ite ?_ ?_
   | refine LeO.bind ?_ (fun _ => ?_)
theorem impl_toldOk.calls (k : Nat) (a0 : ByteArray) (a1 : ByteArray) (r : Bool) (w : World) (hTab : Tabs w) (h : impl_toldOk.f k a0 a1 = some r) :
  Calls Tryz.prog 109 #[.string a0, .string a1] w fun e w' => e = .returned (.bool r) ∧ Below w.heap.size w w' := by
 have HT := Aside0.mk hTab
 clear hTab
 have HB := Aside0.mk (Below.refl w.heap.size w)
 have H : ((impl_PlainOk.f k a0).bind fun t309 => (if t309 = true then ((strings_EqualFold.f a0 (⟨#[120, 109, 108]⟩ : ByteArray)).bind fun t310 => (if t310 = true then (some false) else ((impl_TextOk.f k a1).bind fun t311 => (if t311 = true then ((strings_Contains.f a1 (⟨#[63, 62]⟩ : ByteArray)).bind fun t312 => (if t312 = true then (some false) else ((strings_Contains.f a1 (⟨#[13]⟩ : ByteArray)).bind fun t313 => (if t313 = true then (some false) else (if a1.toList = ([] : List UInt8) then (some true) else (if 0 < (a1.size : Int) then ((impl_IsBlank.f (wrap64 (bt a1 0))).bind fun t314 => (some (!t314))) else (none))))))) else (some false))))) else (some false))) = some r := h
 clear h
 replace H := Option.bind_eq_some_iff.mp H
 obtain ⟨t309, A30, H⟩ := H
 try dsimp only at H
 have A3 := Aside0.mk A30
 clear A30
 go_enter Tryz.func109, Tryz.ntmps109
 go_wp2_with (first | ((with_reducible refine gate_callee (f := 81) rfl ?_); refine goesL_ (some 6) rfl rfl Tryz.func81 (by kernel_rfl) rfl #[.string a0] rfl mA ?_; (with_reducible refine (impl_PlainOk.calls k a0 t309 _ ?tabs A3.out).mono ?_); (case tabs => first | exact Tabs.below HT.out hB | (repeat (first | exact HT.out | (with_reducible refine Tabs.drewN ?_ _) | (with_reducible refine Tabs.drew ?_) | (with_reducible refine Tabs.alloc ?_ _)))); rintro e w4 ⟨rfl, hb⟩; refine ⟨_, rfl, ?_⟩; replace HB := Aside0.mk (below_step hB hb); (try clear hb); (try clear hb2); (try clear hk); (try clear hi); refine halt_ ?_; intro q_ hq_))
 obtain ⟨rfl⟩ := hq_
 by_cases c5 : t309 = true
 ·subst c5
  rw [if_pos rfl] at H
  replace H := Option.bind_eq_some_iff.mp H
  obtain ⟨t310, A60, H⟩ := H
  try dsimp only at H
  have A6 := Aside0.mk A60
  clear A60
  go_wp2_with (first | (go_at_call 139; (with_reducible refine (strings_EqualFold.calls a0 (⟨#[120, 109, 108]⟩ : ByteArray) t310 _ ?tabs A6.out).mono ?_); (case tabs => first | exact Tabs.below HT.out hB | (repeat (first | exact HT.out | (with_reducible refine Tabs.drewN ?_ _) | (with_reducible refine Tabs.drew ?_) | (with_reducible refine Tabs.alloc ?_ _)))); rintro e w7 ⟨rfl, hb⟩; replace HB := Aside0.mk (below_step hB hb); (try clear hb); (try clear hb2); (try clear hk); (try clear hi); refine halt_ ?_; intro q_ hq_))
  obtain ⟨rfl⟩ := hq_
  by_cases c8 : t310 = true
  ·subst c8
   rw [if_pos rfl] at H
   obtain rfl := Option.some.inj H
   go_wp2
   go_ret
   exact ⟨rE, hB⟩
  ·replace c8 := Bool.eq_false_iff.mpr c8
   subst c8
   rw [if_neg (show ¬ (false = true) by decide)] at H
   replace H := Option.bind_eq_some_iff.mp H
   obtain ⟨t311, A90, H⟩ := H
   try dsimp only at H
   have A9 := Aside0.mk A90
   clear A90
   go_wp2_with (first | (go_at_call 107; (with_reducible refine (impl_TextOk.calls k a1 t311 _ ?tabs A9.out).mono ?_); (case tabs => first | exact Tabs.below HT.out hB | (repeat (first | exact HT.out | (with_reducible refine Tabs.drewN ?_ _) | (with_reducible refine Tabs.drew ?_) | (with_reducible refine Tabs.alloc ?_ _)))); rintro e w10 ⟨rfl, hb⟩; replace HB := Aside0.mk (below_step hB hb); (try clear hb); (try clear hb2); (try clear hk); (try clear hi); refine halt_ ?_; intro q_ hq_))
   obtain ⟨rfl⟩ := hq_
   by_cases c11 : t311 = true
   ·subst c11
    rw [if_pos rfl] at H
    replace H := Option.bind_eq_some_iff.mp H
    obtain ⟨t312, A120, H⟩ := H
    try dsimp only at H
    have A12 := Aside0.mk A120
    clear A120
    go_wp2_with (first | (go_at_call 137; (with_reducible refine (strings_Contains.calls a1 (⟨#[63, 62]⟩ : ByteArray) t312 _ ?tabs A12.out).mono ?_); (case tabs => first | exact Tabs.below HT.out hB | (repeat (first | exact HT.out | (with_reducible refine Tabs.drewN ?_ _) | (with_reducible refine Tabs.drew ?_) | (with_reducible refine Tabs.alloc ?_ _)))); rintro e w13 ⟨rfl, hb⟩; replace HB := Aside0.mk (below_step hB hb); (try clear hb); (try clear hb2); (try clear hk); (try clear hi); refine halt_ ?_; intro q_ hq_))
    obtain ⟨rfl⟩ := hq_
    by_cases c14 : t312 = true
    ·subst c14
     rw [if_pos rfl] at H
     obtain rfl := Option.some.inj H
     go_wp2
     go_ret
     exact ⟨rE, hB⟩
    ·replace c14 := Bool.eq_false_iff.mpr c14
     subst c14
     rw [if_neg (show ¬ (false = true) by decide)] at H
     replace H := Option.bind_eq_some_iff.mp H
     obtain ⟨t313, A150, H⟩ := H
     try dsimp only at H
     have A15 := Aside0.mk A150
     clear A150
     go_wp2_with (first | (go_at_call 137; (with_reducible refine (strings_Contains.calls a1 (⟨#[13]⟩ : ByteArray) t313 _ ?tabs A15.out).mono ?_); (case tabs => first | exact Tabs.below HT.out hB | (repeat (first | exact HT.out | (with_reducible refine Tabs.drewN ?_ _) | (with_reducible refine Tabs.drew ?_) | (with_reducible refine Tabs.alloc ?_ _)))); rintro e w16 ⟨rfl, hb⟩; replace HB := Aside0.mk (below_step hB hb); (try clear hb); (try clear hb2); (try clear hk); (try clear hi); refine halt_ ?_; intro q_ hq_))
     obtain ⟨rfl⟩ := hq_
     by_cases c17 : t313 = true
     ·subst c17
      rw [if_pos rfl] at H
      obtain rfl := Option.some.inj H
      go_wp2
      go_ret
      exact ⟨rE, hB⟩
     ·replace c17 := Bool.eq_false_iff.mpr c17
      subst c17
      rw [if_neg (show ¬ (false = true) by decide)] at H
      by_cases c18 : a1.toList = ([] : List UInt8)
      ·rw [if_pos c18] at H
       obtain ⟨c18b0, c18b1⟩ := eqT c18
       clear c18
       obtain rfl := Option.some.inj H
       go_wp2
       go_ret
       exact ⟨rE, hB⟩
      ·rw [if_neg c18] at H
       obtain ⟨c18b0, c18b1⟩ := eqF c18
       obtain ⟨c19, H⟩ := if_som H
       have c19b0 : decide (0 < (a1.size : Int)) = true := decide_eq_true c19
       have c19b1 : decide (0 < a1.size) = true := decide_eq_true (by omega)
       clear c19
       replace H := Option.bind_eq_some_iff.mp H
       obtain ⟨t314, A210, H⟩ := H
       try dsimp only at H
       have A21 := Aside0.mk A210
       clear A210
       obtain rfl := Option.some.inj H
       have p20 : 0 ≤ (0 : Int) := (by omega)
       have q20 : 0 < a1.size := (by have : (0 : Int) < (a1.size : Int) := odt; omega)
       have hx20 : ∀ h : 0 < a1.size, ((a1[0]'h).toNat : Int) = bt a1 0 := bt_at a1 0
       clear p20
       have qi20 : (0 < (a1.size : Int)) = True := eq_true (odt)
       replace q20 := eq_true q20
       go_wp2_with (first | (go_at_call 140; (with_reducible refine (impl_IsBlank.calls (wrap64 (bt a1 0)) t314 _ A21.out).mono ?_); rintro e w' ⟨rfl, ⟨nd, rfl⟩⟩))
       go_ret
       exact ⟨rE, hB⟩
   ·replace c11 := Bool.eq_false_iff.mpr c11
    subst c11
    rw [if_neg (show ¬ (false = true) by decide)] at H
    obtain rfl := Option.some.inj H
    go_wp2
    go_ret
    exact ⟨rE, hB⟩
 ·replace c5 := Bool.eq_false_iff.mpr c5
  subst c5
  rw [if_neg (show ¬ (false = true) by decide)] at H
  obtain rfl := Option.some.inj H
  go_wp2
  go_ret
  exact ⟨rE, hB⟩

/-! ### impl_leafOk: function 78 -/
def impl_leafOk.j0 : Nat → Bool → Int → ByteArray → ByteArray → ByteArray → List (S73) → List (S68) → List (S28) → ByteArray → Option (Bool)
 | 0, _, _, _, _, _, _, _, _, _ => none
 | k + 1, x38, x316000, x316001, x316002, x316003, x316004, x316005, x316006, x316007 => if x38 = true then (some false) else (if x316000 = 2 then (if x316007.toList = ([] : List UInt8) then (some false) else ((impl_TextOk.f k x316007).bind fun t316 => (some t316))) else (if x316000 = 3 then ((impl_noteOk.f k x316007).bind fun t317 => (some t317)) else (if x316000 = 4 then ((impl_toldOk.f k x316002 x316007).bind fun t318 => (some t318)) else (some false))))
def impl_leafOk.f (k : Nat) (a0_0 : Int) (a0_1 : ByteArray) (a0_2 : ByteArray) (a0_3 : ByteArray) (l0_4 : List (S73)) (l0_5 : List (S68)) (l0_6 : List (S28)) (a0_7 : ByteArray) : Option (Bool) := if a0_1.toList = ([] : List UInt8) then (if a0_3.toList = ([] : List UInt8) then (if (l0_4.length : Int) > 0 then (impl_leafOk.j0 k true a0_0 a0_1 a0_2 a0_3 l0_4 l0_5 l0_6 a0_7) else (if (l0_5.length : Int) > 0 then (impl_leafOk.j0 k true a0_0 a0_1 a0_2 a0_3 l0_4 l0_5 l0_6 a0_7) else (if (l0_6.length : Int) > 0 then (impl_leafOk.j0 k true a0_0 a0_1 a0_2 a0_3 l0_4 l0_5 l0_6 a0_7) else (if a0_2.toList = ([] : List UInt8) then (impl_leafOk.j0 k false a0_0 a0_1 a0_2 a0_3 l0_4 l0_5 l0_6 a0_7) else (impl_leafOk.j0 k (a0_0 != 4) a0_0 a0_1 a0_2 a0_3 l0_4 l0_5 l0_6 a0_7))))) else (impl_leafOk.j0 k true a0_0 a0_1 a0_2 a0_3 l0_4 l0_5 l0_6 a0_7)) else (impl_leafOk.j0 k true a0_0 a0_1 a0_2 a0_3 l0_4 l0_5 l0_6 a0_7)
theorem impl_leafOk.mono_l : ∀ k, (∀ y0 y1 y2 y3 y4 y5 y6 y7 y8, LeO (impl_leafOk.j0 k y0 y1 y2 y3 y4 y5 y6 y7 y8) (impl_leafOk.j0 (k + 1) y0 y1 y2 y3 y4 y5 y6 y7 y8))
 | 0 => fun _ _ _ _ _ _ _ _ _ r h => by simp [impl_leafOk.j0] at h
 | k + 1 => by
  have ih0 := impl_leafOk.mono_l k
  ·intro y0 y1 y2 y3 y4 y5 y6 y7 y8
   unfold impl_leafOk.j0
   repeat' first
   | (with_reducible exact ih0 _ _ _ _ _ _ _ _ _)
   | (with_reducible exact impl_TextOk.mono _ _)
   | (with_reducible exact impl_noteOk.mono _ _)
   | (with_reducible exact impl_toldOk.mono _ _ _)
   | (with_reducible exact LeO.refl _)
   | (with_reducible exact LeO.none _)
   | (with_reducible refine LeO.ite ?_ ?_)
   | (with_reducible refine LeO.bind ?_ (fun _ => ?_))
   | exact ih0 _ _ _ _ _ _ _ _ _
   | exact impl_TextOk.mono _ _
   | exact impl_noteOk.mono _ _
   | exact impl_toldOk.mono _ _ _
   | exact LeO.none _
   | refine LeO.ite ?_ ?_
   | refine LeO.bind ?_ (fun _ => ?_)
theorem impl_leafOk.mono : ∀ a0 a1 a2 a3 a4 a5 a6 a7 k, LeO (impl_leafOk.f k a0 a1 a2 a3 a4 a5 a6 a7) (impl_leafOk.f (k + 1) a0 a1 a2 a3 a4 a5 a6 a7) := by
 intro a0 a1 a2 a3 a4 a5 a6 a7 k
 have ih0 := impl_leafOk.mono_l k
 unfold impl_leafOk.f
 repeat' first
   | (with_reducible exact ih0 _ _ _ _ _ _ _ _ _)
   | (with_reducible exact impl_TextOk.mono _ _)
   | (with_reducible exact impl_noteOk.mono _ _)
   | (with_reducible exact impl_toldOk.mono _ _ _)
   | (with_reducible exact LeO.refl _)
   | (with_reducible exact LeO.none _)
   | (with_reducible refine LeO.ite ?_ ?_)
   | (with_reducible refine LeO.bind ?_ (fun _ => ?_))
   | exact ih0 _ _ _ _ _ _ _ _ _
   | exact impl_TextOk.mono _ _
   | exact impl_noteOk.mono _ _
   | exact impl_toldOk.mono _ _ _
   | exact LeO.none _
   | refine LeO.ite ?_ ?_
   | refine LeO.bind ?_ (fun _ => ?_)
theorem impl_leafOk.calls (k : Nat) (a0_0 : Int) (a0_1 : ByteArray) (a0_2 : ByteArray) (a0_3 : ByteArray) (A0_4 : Option Addr) (c0_4 : Nat) (l0_4 : List (S73)) (A0_5 : Option Addr) (c0_5 : Nat) (l0_5 : List (S68)) (A0_6 : Option Addr) (c0_6 : Nat) (l0_6 : List (S28)) (a0_7 : ByteArray) (r : Bool) (w : World) (hr0_4 : Kd.C k73 w A0_4 l0_4.length l0_4) (hc0_4 : l0_4.length ≤ c0_4) (hr0_5 : Kd.C k68 w A0_5 l0_5.length l0_5) (hc0_5 : l0_5.length ≤ c0_5) (hr0_6 : Kd.C k28 w A0_6 l0_6.length l0_6) (hc0_6 : l0_6.length ≤ c0_6) (hTab : Tabs w) (h : impl_leafOk.f k a0_0 a0_1 a0_2 a0_3 l0_4 l0_5 l0_6 a0_7 = some r) :
  Calls Tryz.prog 78 #[.agg #[.int .i64 a0_0, .string a0_1, .string a0_2, .string a0_3, .slice A0_4 l0_4.length c0_4, .slice A0_5 l0_5.length c0_5, .slice A0_6 l0_6.length c0_6, .string a0_7]] w fun e w' => e = .returned (.bool r) ∧ Below w.heap.size w w' := by
 have HT := Aside0.mk hTab
 clear hTab
 have hu28 := Tryz.underlying28
 have HR0_4 := Aside0.mk hr0_4
 have HC0_4 := Aside0.mk hc0_4
 clear hr0_4 hc0_4
 have HR0_5 := Aside0.mk hr0_5
 have HC0_5 := Aside0.mk hc0_5
 clear hr0_5 hc0_5
 have HR0_6 := Aside0.mk hr0_6
 have HC0_6 := Aside0.mk hc0_6
 clear hr0_6 hc0_6
 have HB := Aside0.mk (Below.refl w.heap.size w)
 have H : (if a0_1.toList = ([] : List UInt8) then (if a0_3.toList = ([] : List UInt8) then (if (l0_4.length : Int) > 0 then (impl_leafOk.j0 k true a0_0 a0_1 a0_2 a0_3 l0_4 l0_5 l0_6 a0_7) else (if (l0_5.length : Int) > 0 then (impl_leafOk.j0 k true a0_0 a0_1 a0_2 a0_3 l0_4 l0_5 l0_6 a0_7) else (if (l0_6.length : Int) > 0 then (impl_leafOk.j0 k true a0_0 a0_1 a0_2 a0_3 l0_4 l0_5 l0_6 a0_7) else (if a0_2.toList = ([] : List UInt8) then (impl_leafOk.j0 k false a0_0 a0_1 a0_2 a0_3 l0_4 l0_5 l0_6 a0_7) else (impl_leafOk.j0 k (a0_0 != 4) a0_0 a0_1 a0_2 a0_3 l0_4 l0_5 l0_6 a0_7))))) else (impl_leafOk.j0 k true a0_0 a0_1 a0_2 a0_3 l0_4 l0_5 l0_6 a0_7)) else (impl_leafOk.j0 k true a0_0 a0_1 a0_2 a0_3 l0_4 l0_5 l0_6 a0_7)) = some r := h
 clear h
 have HC2 := Aside0.mk H
 clear H
 go_enter Tryz.func78, Tryz.ntmps78
 go_upto_region 1 with (first | ((with_reducible refine gate_dst (N := 1) rfl ?_); (try (refine gate_guard (by rfl) ?_; dsimp only)); refine box_event ?hg (N := 1) ?hd (cs := #[.int .i64 a0_0, .string a0_1, .string a0_2, .string a0_3, .slice A0_4 l0_4.length c0_4, .slice A0_5 l0_5.length c0_5, .slice A0_6 l0_6.length c0_6, .string a0_7]) (t := 28) ?hr ?_; (case hd => rfl); (case hg => rfl); (case hr => first | (go_simp; done) | (go_simp; rfl)); intro gb315 hg w3 hbox hb; have BK315 := Aside0.mk (hbox); have GW315 := Aside0.mk ((by rw [hg]; exact (below_size hB) : w.heap.size ≤ gb315)); have GE315 := Aside0.mk ((by rw [hg]; exact (below_size hB) : w.heap.size ≤ gb315)); replace HB := Aside0.mk (below_step hB hb); clear hb hbox hg))
 (try simp only [Act.put, sT, sZ, sS])
 go_cut [38] (fun v38 wc => ∃ (kq : Nat) (x38_1 : Bool), v38 = .bool x38_1 ∧ Aside0 (impl_leafOk.j0 kq x38_1 a0_0 a0_1 a0_2 a0_3 l0_4 l0_5 l0_6 a0_7 = some r) ∧ Aside0 (kq ≤ k) ∧ Aside0 (wc.heap[gb315]? = some (.cells #[.int .i64 a0_0, .string a0_1, .string a0_2, .string a0_3, (.slice A0_4 l0_4.length c0_4), (.slice A0_5 l0_5.length c0_5), (.slice A0_6 l0_6.length c0_6), .string a0_7] 28 (0, 0))) ∧ Aside0 (Below w.heap.size w wc))
 case first =>
  have H := HC2.out
  clear HC2
  by_cases c4 : a0_1.toList = ([] : List UInt8)
  ·rw [if_pos c4] at H
   obtain ⟨c4b0, c4b1⟩ := eqT c4
   clear c4
   (first | rw [c4b0] | (simp only [i64_w, i32_w]; rw [c4b0]) | skip)
   by_cases c5 : a0_3.toList = ([] : List UInt8)
   ·rw [if_pos c5] at H
    obtain ⟨c5b0, c5b1⟩ := eqT c5
    clear c5
    by_cases c6 : (l0_4.length : Int) > 0
    ·rw [if_pos c6] at H
     have c6b0 : decide (0 < (l0_4.length : Int)) = true := decide_eq_true c6
     have c6b1 : decide (0 < l0_4.length) = true := decide_eq_true (by omega)
     clear c6
     have H' := Aside0.mk H
     clear H
     obtain ⟨hcz7_0, hcz7_1, hcz7_2, hcz7_3, hcz7_4, hcz7_5, hcz7_6, hcz7_7⟩ := bc8 BK315.out
     go_wp2
     go_meet
     case rel => exact ⟨_, (true), rG, H', ⟨by first | omega | exact Nat.le_refl _⟩, ⟨by (with_reducible repeat (first | refine bN ?_ _|refine bD ?_|refine bA ?_ _)); exact BK315.out⟩, ⟨hB⟩⟩
    ·rw [if_neg c6] at H
     have c6b0 : decide (0 < (l0_4.length : Int)) = false := decide_eq_false c6
     have c6b1 : decide (0 < l0_4.length) = false := decide_eq_false (by omega)
     clear c6
     by_cases c8 : (l0_5.length : Int) > 0
     ·rw [if_pos c8] at H
      have c8b0 : decide (0 < (l0_5.length : Int)) = true := decide_eq_true c8
      have c8b1 : decide (0 < l0_5.length) = true := decide_eq_true (by omega)
      clear c8
      have H' := Aside0.mk H
      clear H
      obtain ⟨hcz9_0, hcz9_1, hcz9_2, hcz9_3, hcz9_4, hcz9_5, hcz9_6, hcz9_7⟩ := bc8 BK315.out
      go_wp2
      go_meet
      case rel => exact ⟨_, (true), rG, H', ⟨by first | omega | exact Nat.le_refl _⟩, ⟨by (with_reducible repeat (first | refine bN ?_ _|refine bD ?_|refine bA ?_ _)); exact BK315.out⟩, ⟨hB⟩⟩
     ·rw [if_neg c8] at H
      have c8b0 : decide (0 < (l0_5.length : Int)) = false := decide_eq_false c8
      have c8b1 : decide (0 < l0_5.length) = false := decide_eq_false (by omega)
      clear c8
      by_cases c10 : (l0_6.length : Int) > 0
      ·rw [if_pos c10] at H
       have c10b0 : decide (0 < (l0_6.length : Int)) = true := decide_eq_true c10
       have c10b1 : decide (0 < l0_6.length) = true := decide_eq_true (by omega)
       clear c10
       have H' := Aside0.mk H
       clear H
       obtain ⟨hcz11_0, hcz11_1, hcz11_2, hcz11_3, hcz11_4, hcz11_5, hcz11_6, hcz11_7⟩ := bc8 BK315.out
       go_wp2
       go_meet
       case rel => exact ⟨_, (true), rG, H', ⟨by first | omega | exact Nat.le_refl _⟩, ⟨by (with_reducible repeat (first | refine bN ?_ _|refine bD ?_|refine bA ?_ _)); exact BK315.out⟩, ⟨hB⟩⟩
      ·rw [if_neg c10] at H
       have c10b0 : decide (0 < (l0_6.length : Int)) = false := decide_eq_false c10
       have c10b1 : decide (0 < l0_6.length) = false := decide_eq_false (by omega)
       clear c10
       by_cases c12 : a0_2.toList = ([] : List UInt8)
       ·rw [if_pos c12] at H
        obtain ⟨c12b0, c12b1⟩ := eqT c12
        clear c12
        have H' := Aside0.mk H
        clear H
        obtain ⟨hcz13_0, hcz13_1, hcz13_2, hcz13_3, hcz13_4, hcz13_5, hcz13_6, hcz13_7⟩ := bc8 BK315.out
        go_wp2
        go_meet
        case rel => exact ⟨_, (false), rG, H', ⟨by first | omega | exact Nat.le_refl _⟩, ⟨by (with_reducible repeat (first | refine bN ?_ _|refine bD ?_|refine bA ?_ _)); exact BK315.out⟩, ⟨hB⟩⟩
       ·rw [if_neg c12] at H
        obtain ⟨c12b0, c12b1⟩ := eqF c12
        have H' := Aside0.mk H
        clear H
        obtain ⟨hcz14_0, hcz14_1, hcz14_2, hcz14_3, hcz14_4, hcz14_5, hcz14_6, hcz14_7⟩ := bc8 BK315.out
        go_wp2
        go_meet
        case rel => exact ⟨_, ((a0_0 != 4)), rG, H', ⟨by first | omega | exact Nat.le_refl _⟩, ⟨by (with_reducible repeat (first | refine bN ?_ _|refine bD ?_|refine bA ?_ _)); exact BK315.out⟩, ⟨hB⟩⟩
   ·rw [if_neg c5] at H
    obtain ⟨c5b0, c5b1⟩ := eqF c5
    have H' := Aside0.mk H
    clear H
    obtain ⟨hcz15_0, hcz15_1, hcz15_2, hcz15_3, hcz15_4, hcz15_5, hcz15_6, hcz15_7⟩ := bc8 BK315.out
    go_wp2
    go_meet
    case rel => exact ⟨_, (true), rG, H', ⟨by first | omega | exact Nat.le_refl _⟩, ⟨by (with_reducible repeat (first | refine bN ?_ _|refine bD ?_|refine bA ?_ _)); exact BK315.out⟩, ⟨hB⟩⟩
  ·rw [if_neg c4] at H
   obtain ⟨c4b0, c4b1⟩ := eqF c4
   (first | rw [c4b0] | (simp only [i64_w, i32_w]; rw [c4b0]) | skip)
   have H' := Aside0.mk H
   clear H
   obtain ⟨hcz16_0, hcz16_1, hcz16_2, hcz16_3, hcz16_4, hcz16_5, hcz16_6, hcz16_7⟩ := bc8 BK315.out
   go_wp2
   go_meet
   case rel => exact ⟨_, (true), rG, H', ⟨by first | omega | exact Nat.le_refl _⟩, ⟨by (with_reducible repeat (first | refine bN ?_ _|refine bD ?_|refine bA ?_ _)); exact BK315.out⟩, ⟨hB⟩⟩
 case rest =>
  clear HC2
  obtain ⟨kq, x38_1, rfl, HA, HJ1, BK315, HB⟩ := hcut
  cases kq with
  | zero => exact absurd HA.out (by simp [impl_leafOk.j0])
  | succ kj1 =>
   have H := HA.out
   clear HA
   simp only [impl_leafOk.j0] at H
   by_cases c17 : x38_1 = true
   ·subst c17
    rw [if_pos rfl] at H
    obtain rfl := Option.some.inj H
    go_wp2
    go_ret
    exact ⟨rE, hB⟩
   ·replace c17 := Bool.eq_false_iff.mpr c17
    subst c17
    rw [if_neg (show ¬ (false = true) by decide)] at H
    by_cases c18 : a0_0 = 2
    ·rw [if_pos c18] at H
     obtain ⟨c18b0, c18b1⟩ := eqT c18
     clear c18
     by_cases c19 : a0_7.toList = ([] : List UInt8)
     ·rw [if_pos c19] at H
      obtain ⟨c19b0, c19b1⟩ := eqT c19
      clear c19
      obtain rfl := Option.some.inj H
      obtain ⟨hcz20_0, hcz20_1, hcz20_2, hcz20_3, hcz20_4, hcz20_5, hcz20_6, hcz20_7⟩ := bc8 BK315.out
      go_wp2
      go_ret
      exact ⟨rE, hB⟩
     ·rw [if_neg c19] at H
      obtain ⟨c19b0, c19b1⟩ := eqF c19
      replace H := Option.bind_eq_some_iff.mp H
      obtain ⟨t316, A210, H⟩ := H
      try dsimp only at H
      have A21 := Aside0.mk A210
      clear A210
      obtain rfl := Option.some.inj H
      obtain ⟨hcz22_0, hcz22_1, hcz22_2, hcz22_3, hcz22_4, hcz22_5, hcz22_6, hcz22_7⟩ := bc8 BK315.out
      go_wp2_with (first | (go_at_call 107; (with_reducible refine (impl_TextOk.calls kj1 a0_7 t316 _ ?tabs A21.out).mono ?_); (case tabs => first | exact Tabs.below HT.out hB | (repeat (first | exact HT.out | (with_reducible refine Tabs.drewN ?_ _) | (with_reducible refine Tabs.drew ?_) | (with_reducible refine Tabs.alloc ?_ _)))); rintro e w23 ⟨rfl, hb⟩; replace BK315 := Aside0.mk (blk_below (g := gb315) (by (with_reducible repeat (first | refine bN ?_ _|refine bD ?_|refine bA ?_ _)); exact BK315.out) hb); replace HB := Aside0.mk (below_step hB hb); (try clear hb); (try clear hb2); (try clear hk); (try clear hi)))
      go_ret
      exact ⟨rE, hB⟩
    ·rw [if_neg c18] at H
     obtain ⟨c18b0, c18b1⟩ := eqF c18
     by_cases c24 : a0_0 = 3
     ·rw [if_pos c24] at H
      obtain ⟨c24b0, c24b1⟩ := eqT c24
      clear c24
      replace H := Option.bind_eq_some_iff.mp H
      obtain ⟨t317, A250, H⟩ := H
      try dsimp only at H
      have A25 := Aside0.mk A250
      clear A250
      obtain rfl := Option.some.inj H
      obtain ⟨hcz26_0, hcz26_1, hcz26_2, hcz26_3, hcz26_4, hcz26_5, hcz26_6, hcz26_7⟩ := bc8 BK315.out
      go_wp2_with (first | ((with_reducible refine gate_callee (f := 108) rfl ?_); refine goesL_ (some 55) rfl rfl Tryz.func108 (by kernel_rfl) rfl #[.string a0_7] rfl mA ?_; (with_reducible refine (impl_noteOk.calls kj1 a0_7 t317 _ ?tabs A25.out).mono ?_); (case tabs => first | exact Tabs.below HT.out hB | (repeat (first | exact HT.out | (with_reducible refine Tabs.drewN ?_ _) | (with_reducible refine Tabs.drew ?_) | (with_reducible refine Tabs.alloc ?_ _)))); rintro e w27 ⟨rfl, hb⟩; refine ⟨_, rfl, ?_⟩; replace BK315 := Aside0.mk (blk_below (g := gb315) (by (with_reducible repeat (first | refine bN ?_ _|refine bD ?_|refine bA ?_ _)); exact BK315.out) hb); replace HB := Aside0.mk (below_step hB hb); (try clear hb); (try clear hb2); (try clear hk); (try clear hi)))
      go_ret
      exact ⟨rE, hB⟩
     ·rw [if_neg c24] at H
      obtain ⟨c24b0, c24b1⟩ := eqF c24
      by_cases c28 : a0_0 = 4
      ·rw [if_pos c28] at H
       obtain ⟨c28b0, c28b1⟩ := eqT c28
       clear c28
       replace H := Option.bind_eq_some_iff.mp H
       obtain ⟨t318, A290, H⟩ := H
       try dsimp only at H
       have A29 := Aside0.mk A290
       clear A290
       obtain rfl := Option.some.inj H
       obtain ⟨hcz30_0, hcz30_1, hcz30_2, hcz30_3, hcz30_4, hcz30_5, hcz30_6, hcz30_7⟩ := bc8 BK315.out
       go_wp2_with (first | ((with_reducible refine gate_callee (f := 109) rfl ?_); refine goesL_ (some 62) rfl rfl Tryz.func109 (by kernel_rfl) rfl #[.string a0_2, .string a0_7] rfl mA ?_; (with_reducible refine (impl_toldOk.calls kj1 a0_2 a0_7 t318 _ ?tabs A29.out).mono ?_); (case tabs => first | exact Tabs.below HT.out hB | (repeat (first | exact HT.out | (with_reducible refine Tabs.drewN ?_ _) | (with_reducible refine Tabs.drew ?_) | (with_reducible refine Tabs.alloc ?_ _)))); rintro e w31 ⟨rfl, hb⟩; refine ⟨_, rfl, ?_⟩; replace BK315 := Aside0.mk (blk_below (g := gb315) (by (with_reducible repeat (first | refine bN ?_ _|refine bD ?_|refine bA ?_ _)); exact BK315.out) hb); replace HB := Aside0.mk (below_step hB hb); (try clear hb); (try clear hb2); (try clear hk); (try clear hi)))
       go_ret
       exact ⟨rE, hB⟩
      ·rw [if_neg c28] at H
       obtain ⟨c28b0, c28b1⟩ := eqF c28
       obtain rfl := Option.some.inj H
       obtain ⟨hcz32_0, hcz32_1, hcz32_2, hcz32_3, hcz32_4, hcz32_5, hcz32_6, hcz32_7⟩ := bc8 BK315.out
       go_wp2
       go_ret
       exact ⟨rE, hB⟩

/-! ### strings_HasPrefix: function 110 -/
def strings_HasPrefix.f (a0 a1 : ByteArray) : Option Bool := some (Lib.hasPrefix a0.data.toList a1.data.toList)
theorem strings_HasPrefix.calls (a0 a1 : ByteArray) (r : Bool) (w : World) (h : strings_HasPrefix.f a0 a1 = some r) :
    Calls Tryz.prog 110 #[.string a0, .string a1] w fun e w' => e = .returned (.bool r) ∧ Drawn0 w w' := by
  obtain rfl := Option.some.inj h
  exact (Tryz.strings_HasPrefix a0 a1 w).mono fun e w' ⟨he, hw⟩ => ⟨he, by subst hw; exact Drawn0.refl _⟩

/-! ### impl_preOk: function 79 -/
def impl_preOk.f (k : Nat) (a0 : ByteArray) : Option (Bool) := if a0.toList = ([] : List UInt8) then (some true) else ((impl_PlainOk.f k a0).bind fun t319 => (if t319 = true then ((strings_HasPrefix.f a0 (⟨#[120, 109, 108]⟩ : ByteArray)).bind fun t320 => (some (!t320))) else (some false)))
theorem impl_preOk.mono : ∀ a0 k, LeO (impl_preOk.f k a0) (impl_preOk.f (k + 1) a0) := by
 intro a0 k
 unfold impl_preOk.f
 repeat' first
   | (with_reducible exact impl_PlainOk.mono _ _)
   | (with_reducible exact LeO.refl _)
   | (with_reducible exact LeO.none _)
   | (with_reducible refine LeO.ite ?_ ?_)
   | (with_reducible refine LeO.bind ?_ (fun _ => ?_))
   | exact impl_PlainOk.mono _ _
   | exact LeO.none _
   | refine LeO.ite ?_ ?_
   | refine LeO.bind ?_ (fun _ => ?_)
theorem impl_preOk.calls (k : Nat) (a0 : ByteArray) (r : Bool) (w : World) (hTab : Tabs w) (h : impl_preOk.f k a0 = some r) :
  Calls Tryz.prog 79 #[.string a0] w fun e w' => e = .returned (.bool r) ∧ Below w.heap.size w w' := by
 have HT := Aside0.mk hTab
 clear hTab
 have HB := Aside0.mk (Below.refl w.heap.size w)
 have H : (if a0.toList = ([] : List UInt8) then (some true) else ((impl_PlainOk.f k a0).bind fun t319 => (if t319 = true then ((strings_HasPrefix.f a0 (⟨#[120, 109, 108]⟩ : ByteArray)).bind fun t320 => (some (!t320))) else (some false)))) = some r := h
 clear h
 by_cases c2 : a0.toList = ([] : List UInt8)
 ·rw [if_pos c2] at H
  obtain ⟨c2b0, c2b1⟩ := eqT c2
  clear c2
  obtain rfl := Option.some.inj H
  go_enter Tryz.func79, Tryz.ntmps79
  go_wp2
  go_ret
  exact ⟨rE, hB⟩
 ·rw [if_neg c2] at H
  obtain ⟨c2b0, c2b1⟩ := eqF c2
  replace H := Option.bind_eq_some_iff.mp H
  obtain ⟨t319, A30, H⟩ := H
  try dsimp only at H
  have A3 := Aside0.mk A30
  clear A30
  go_enter Tryz.func79, Tryz.ntmps79
  go_wp2_with (first | (go_at_call 81; (with_reducible refine (impl_PlainOk.calls k a0 t319 _ ?tabs A3.out).mono ?_); (case tabs => first | exact Tabs.below HT.out hB | (repeat (first | exact HT.out | (with_reducible refine Tabs.drewN ?_ _) | (with_reducible refine Tabs.drew ?_) | (with_reducible refine Tabs.alloc ?_ _)))); rintro e w4 ⟨rfl, hb⟩; replace HB := Aside0.mk (below_step hB hb); (try clear hb); (try clear hb2); (try clear hk); (try clear hi); refine halt_ ?_; intro q_ hq_))
  obtain ⟨rfl⟩ := hq_
  by_cases c5 : t319 = true
  ·subst c5
   rw [if_pos rfl] at H
   replace H := Option.bind_eq_some_iff.mp H
   obtain ⟨t320, A60, H⟩ := H
   try dsimp only at H
   have A6 := Aside0.mk A60
   clear A60
   obtain rfl := Option.some.inj H
   go_wp2_with (first | (go_at_call 110; (with_reducible refine (strings_HasPrefix.calls a0 (⟨#[120, 109, 108]⟩ : ByteArray) t320 _ A6.out).mono ?_); rintro e w' ⟨rfl, ⟨nd, rfl⟩⟩))
   go_ret
   exact ⟨rE, hB⟩
  ·replace c5 := Bool.eq_false_iff.mpr c5
   subst c5
   rw [if_neg (show ¬ (false = true) by decide)] at H
   obtain rfl := Option.some.inj H
   go_wp2
   go_ret
   exact ⟨rE, hB⟩

/-! ### impl_uriOk: function 80 -/
def impl_uriOk.f (k : Nat) (a0 : ByteArray) (a1 : ByteArray) : Option (Bool) := (impl_TextOk.f k a0).bind fun t321 => (if t321 = true then (if (a0.size : Int) ≤ 40 then (if a0.toList = ([] : List UInt8) then (some (a1.toList == ([] : List UInt8))) else (some true)) else (some false)) else (some false))
theorem impl_uriOk.mono : ∀ a0 a1 k, LeO (impl_uriOk.f k a0 a1) (impl_uriOk.f (k + 1) a0 a1) := by
 intro a0 a1 k
 unfold impl_uriOk.f
 repeat' first
   | (with_reducible exact impl_TextOk.mono _ _)
   | (with_reducible exact LeO.refl _)
   | (with_reducible exact LeO.none _)
   | (with_reducible refine LeO.ite ?_ ?_)
   | (with_reducible refine LeO.bind ?_ (fun _ => ?_))
   | exact impl_TextOk.mono _ _
   | exact LeO.none _
   | refine LeO.ite ?_ ?_
   | refine LeO.bind ?_ (fun _ => ?_)
theorem impl_uriOk.calls (k : Nat) (a0 : ByteArray) (a1 : ByteArray) (r : Bool) (w : World) (hTab : Tabs w) (h : impl_uriOk.f k a0 a1 = some r) :
  Calls Tryz.prog 80 #[.string a0, .string a1] w fun e w' => e = .returned (.bool r) ∧ Below w.heap.size w w' := by
 have HT := Aside0.mk hTab
 clear hTab
 have HB := Aside0.mk (Below.refl w.heap.size w)
 have H : ((impl_TextOk.f k a0).bind fun t321 => (if t321 = true then (if (a0.size : Int) ≤ 40 then (if a0.toList = ([] : List UInt8) then (some (a1.toList == ([] : List UInt8))) else (some true)) else (some false)) else (some false))) = some r := h
 clear h
 replace H := Option.bind_eq_some_iff.mp H
 obtain ⟨t321, A30, H⟩ := H
 try dsimp only at H
 have A3 := Aside0.mk A30
 clear A30
 go_enter Tryz.func80, Tryz.ntmps80
 go_wp2_with (first | ((with_reducible refine gate_callee (f := 107) rfl ?_); refine goesL_ (some 6) rfl rfl Tryz.func107 (by kernel_rfl) rfl #[.string a0] rfl mA ?_; (with_reducible refine (impl_TextOk.calls k a0 t321 _ ?tabs A3.out).mono ?_); (case tabs => first | exact Tabs.below HT.out hB | (repeat (first | exact HT.out | (with_reducible refine Tabs.drewN ?_ _) | (with_reducible refine Tabs.drew ?_) | (with_reducible refine Tabs.alloc ?_ _)))); rintro e w4 ⟨rfl, hb⟩; refine ⟨_, rfl, ?_⟩; replace HB := Aside0.mk (below_step hB hb); (try clear hb); (try clear hb2); (try clear hk); (try clear hi); refine halt_ ?_; intro q_ hq_))
 obtain ⟨rfl⟩ := hq_
 by_cases c5 : t321 = true
 ·subst c5
  rw [if_pos rfl] at H
  by_cases c6 : (a0.size : Int) ≤ 40
  ·rw [if_pos c6] at H
   have c6b0 : decide ((a0.size : Int) ≤ 40) = true := decide_eq_true c6
   have c6b1 : decide (a0.size ≤ 40) = true := decide_eq_true (by omega)
   clear c6
   by_cases c7 : a0.toList = ([] : List UInt8)
   ·rw [if_pos c7] at H
    obtain ⟨c7b0, c7b1⟩ := eqT c7
    clear c7
    obtain rfl := Option.some.inj H
    go_wp2
    go_ret
    exact ⟨rE, hB⟩
   ·rw [if_neg c7] at H
    obtain ⟨c7b0, c7b1⟩ := eqF c7
    obtain rfl := Option.some.inj H
    go_wp2
    go_ret
    exact ⟨rE, hB⟩
  ·rw [if_neg c6] at H
   have c6b0 : decide ((a0.size : Int) ≤ 40) = false := decide_eq_false c6
   have c6b1 : decide (a0.size ≤ 40) = false := decide_eq_false (by omega)
   clear c6
   obtain rfl := Option.some.inj H
   go_wp2
   go_ret
   exact ⟨rE, hB⟩
 ·replace c5 := Bool.eq_false_iff.mpr c5
  subst c5
  rw [if_neg (show ¬ (false = true) by decide)] at H
  obtain rfl := Option.some.inj H
  go_wp2
  go_ret
  exact ⟨rE, hB⟩

/-! ### impl_DeclOk: function 115 -/
def impl_DeclOk.f (k : Nat) (a0_0 : ByteArray) (a0_1 : ByteArray) : Option (Bool) := (impl_preOk.f k a0_0).bind fun t323 => (if t323 = true then ((impl_uriOk.f k a0_1 a0_0).bind fun t324 => (some t324)) else (some false))
theorem impl_DeclOk.mono : ∀ a0 a1 k, LeO (impl_DeclOk.f k a0 a1) (impl_DeclOk.f (k + 1) a0 a1) := by
 intro a0 a1 k
 unfold impl_DeclOk.f
 repeat' first
   | (with_reducible exact impl_preOk.mono _ _)
   | (with_reducible exact impl_uriOk.mono _ _ _)
   | (with_reducible exact LeO.refl _)
   | (with_reducible exact LeO.none _)
   | (with_reducible refine LeO.ite ?_ ?_)
   | (with_reducible refine LeO.bind ?_ (fun _ => ?_))
   | exact impl_preOk.mono _ _
   | exact impl_uriOk.mono _ _ _
   | exact LeO.none _
   | refine LeO.ite ?_ ?_
   | refine LeO.bind ?_ (fun _ => ?_)
theorem impl_DeclOk.calls (k : Nat) (a0_0 : ByteArray) (a0_1 : ByteArray) (r : Bool) (w : World) (hTab : Tabs w) (h : impl_DeclOk.f k a0_0 a0_1 = some r) :
  Calls Tryz.prog 115 #[.agg #[.string a0_0, .string a0_1]] w fun e w' => e = .returned (.bool r) ∧ Below w.heap.size w w' := by
 have HT := Aside0.mk hTab
 clear hTab
 have hu73 := Tryz.underlying73
 have HB := Aside0.mk (Below.refl w.heap.size w)
 have H : ((impl_preOk.f k a0_0).bind fun t323 => (if t323 = true then ((impl_uriOk.f k a0_1 a0_0).bind fun t324 => (some t324)) else (some false))) = some r := h
 clear h
 replace H := Option.bind_eq_some_iff.mp H
 obtain ⟨t323, A20, H⟩ := H
 try dsimp only at H
 have A2 := Aside0.mk A20
 clear A20
 go_enter Tryz.func115, Tryz.ntmps115
 go_wp2_with (first | ((with_reducible refine gate_dst (N := 1) rfl ?_); refine box_event ?hg (N := 1) ?hd (cs := #[.string a0_0, .string a0_1]) (t := 73) ?hr ?_; (case hd => rfl); (case hg => rfl); (case hr => first | (go_simp; done) | (go_simp; rfl)); intro gb322 hg w3 hbox hb; have BK322 := Aside0.mk (hbox); have GW322 := Aside0.mk ((by rw [hg]; exact (below_size hB) : w.heap.size ≤ gb322)); have GE322 := Aside0.mk ((by rw [hg]; exact (below_size hB) : w.heap.size ≤ gb322)); replace HB := Aside0.mk (below_step hB hb); clear hb hbox hg; obtain ⟨hcz4_0, hcz4_1⟩ := bc2 BK322.out) | ((with_reducible refine gate_callee (f := 79) rfl ?_); refine goesL_ (some 5) rfl rfl Tryz.func79 (by kernel_rfl) rfl #[.string a0_0] rfl mA ?_; (with_reducible refine (impl_preOk.calls k a0_0 t323 _ ?tabs A2.out).mono ?_); (case tabs => first | exact Tabs.below HT.out hB | (repeat (first | exact HT.out | (with_reducible refine Tabs.drewN ?_ _) | (with_reducible refine Tabs.drew ?_) | (with_reducible refine Tabs.alloc ?_ _)))); rintro e w5 ⟨rfl, hb⟩; refine ⟨_, rfl, ?_⟩; replace BK322 := Aside0.mk (blk_below (g := gb322) (by (with_reducible repeat (first | refine bN ?_ _|refine bD ?_|refine bA ?_ _)); exact BK322.out) hb); replace HB := Aside0.mk (below_step hB hb); (try clear hb); (try clear hb2); (try clear hk); (try clear hi); refine halt_ ?_; intro q_ hq_))
 obtain ⟨rfl⟩ := hq_
 by_cases c6 : t323 = true
 ·subst c6
  rw [if_pos rfl] at H
  replace H := Option.bind_eq_some_iff.mp H
  obtain ⟨t324, A70, H⟩ := H
  try dsimp only at H
  have A7 := Aside0.mk A70
  clear A70
  obtain rfl := Option.some.inj H
  obtain ⟨hcz8_0, hcz8_1⟩ := bc2 BK322.out
  go_wp2_with (first | (go_at_call 80; (with_reducible refine (impl_uriOk.calls k a0_1 a0_0 t324 _ ?tabs A7.out).mono ?_); (case tabs => first | exact Tabs.below HT.out hB | (repeat (first | exact HT.out | (with_reducible refine Tabs.drewN ?_ _) | (with_reducible refine Tabs.drew ?_) | (with_reducible refine Tabs.alloc ?_ _)))); rintro e w9 ⟨rfl, hb⟩; replace BK322 := Aside0.mk (blk_below (g := gb322) (by (with_reducible repeat (first | refine bN ?_ _|refine bD ?_|refine bA ?_ _)); exact BK322.out) hb); replace HB := Aside0.mk (below_step hB hb); (try clear hb); (try clear hb2); (try clear hk); (try clear hi)))
  go_ret
  exact ⟨rE, hB⟩
 ·replace c6 := Bool.eq_false_iff.mpr c6
  subst c6
  rw [if_neg (show ¬ (false = true) by decide)] at H
  obtain rfl := Option.some.inj H
  go_wp2
  go_ret
  exact ⟨rE, hB⟩

end Go.Proofs.YtalionlkjdgciaaGreatDoor.PL
