-- Written by the session's program hprint.py, over the kit's print program. Lean checks it.
import Derived.Test.YtalionlkjdgciaaGreatDoorPAx0
import Derived.Test.YtalionlkjdgciaaGreatDoorPAx3
import Derived.Test.YtalionlkjdgciaaGreatDoorPAx9
namespace Go.Proofs.YtalionlkjdgciaaGreatDoor.PA
open Go.RowKit Go.Proofs.YtalionlkjdgciaaGreatDoorW.PrintWords Go.Proofs.YtalionlkjdgciaaGreatDoorW.PrintLast Go.Proofs.YtalionlkjdgciaaGreatDoorW.PrintMore
attribute [local go_sem] max2_int min2_int max_two min_two max_three min_three max_four min_four   -- for this text's walks alone
set_option linter.unusedVariables false
set_option linter.unusedSimpArgs false
set_option maxHeartbeats 8000000
set_option maxRecDepth 100000

/-! ### spec_NodeOk: function 17 -/
def spec_NodeOk.l0 : Nat → Int → Int → Int → ByteArray → ByteArray → ByteArray → List (S73) → List (S68) → List (S28) → ByteArray → Option (Bool)
 | 0, _, _, _, _, _, _, _, _, _, _ => none
 | k + 1, x3, x4, x265000, x265001, x265002, x265003, x265004, x265005, x265006, x265007 => if x4 < (x265006.length : Int) then (if 0 ≤ x4 then (if ((rd_T28 x265006 x4).f0) = 1 then (if ((rd_T28 x265006 x4).f0) = 2 then (some false) else (spec_NodeOk.l0 k (wrap64 (x3 + 1)) (wrap64 (x4 + 1)) x265000 x265001 x265002 x265003 x265004 x265005 x265006 x265007)) else (if ((rd_T28 x265006 x4).f0) = 2 then (some false) else (spec_NodeOk.l0 k x3 (wrap64 (x4 + 1)) x265000 x265001 x265002 x265003 x265004 x265005 x265006 x265007))) else (none)) else (if x3 = 1 then (if x265001.toList = ([] : List UInt8) then (if x265002.toList = ([] : List UInt8) then (if x265003.toList = ([] : List UInt8) then (if x265007.toList = ([] : List UInt8) then (if (x265004.length : Int) = 0 then (if (x265005.length : Int) = 0 then ((spec_l5Kids.f k x265006 0).bind fun t270 => (some t270)) else (some false)) else (some false)) else (some false)) else (some false)) else (some false)) else (some false)) else (some false))
def spec_NodeOk.f (k : Nat) (a0_0 : Int) (a0_1 : ByteArray) (a0_2 : ByteArray) (a0_3 : ByteArray) (l0_4 : List (S73)) (l0_5 : List (S68)) (l0_6 : List (S28)) (a0_7 : ByteArray) : Option (Bool) := (spec_CountOf.f k a0_0 a0_1 a0_2 a0_3 l0_4 l0_5 l0_6 a0_7).bind fun t265 => (if t265 > 60 then (some false) else (if a0_0 = 0 then (spec_NodeOk.l0 k 0 0 a0_0 a0_1 a0_2 a0_3 l0_4 l0_5 l0_6 a0_7) else ((spec_l5Kids.f k (([(⟨a0_0, a0_1, a0_2, a0_3, l0_4, l0_5, l0_6, a0_7⟩ : S28)] : List (S28))) 0).bind fun t269 => (some t269))))
theorem spec_NodeOk.calls (k : Nat) (a0_0 : Int) (a0_1 : ByteArray) (a0_2 : ByteArray) (a0_3 : ByteArray) (P0_4_ : Nat → Prop) (A0_4 : Option Addr) (c0_4 : Nat) (l0_4 : List (S73)) (P0_5_ : Nat → Prop) (A0_5 : Option Addr) (c0_5 : Nat) (l0_5 : List (S68)) (P0_6_ : Nat → Prop) (A0_6 : Option Addr) (c0_6 : Nat) (l0_6 : List (S28)) (a0_7 : ByteArray) (r : Bool) (w : World) (hs0_4 : Kd.V k73 73 w w.heap.size (fun k_ => P0_4_ k_) (.slice A0_4 l0_4.length c0_4) l0_4) (hs0_5 : Kd.V k68 68 w w.heap.size (fun k_ => P0_5_ k_) (.slice A0_5 l0_5.length c0_5) l0_5) (hs0_6 : Kd.V k28 28 w w.heap.size (fun k_ => P0_6_ k_) (.slice A0_6 l0_6.length c0_6) l0_6) (h : spec_NodeOk.f k a0_0 a0_1 a0_2 a0_3 l0_4 l0_5 l0_6 a0_7 = some r) :
  Calls Tryz.prog 17 #[.agg #[.int .i64 a0_0, .string a0_1, .string a0_2, .string a0_3, .slice A0_4 l0_4.length c0_4, .slice A0_5 l0_5.length c0_5, .slice A0_6 l0_6.length c0_6, .string a0_7]] w fun e w' => e = .returned (.bool r) ∧ Below w.heap.size w w' := by
 have hu28 := Tryz.underlying28
 have HO0_4 := Aside0.mk (show Kd.V k73 73 w w.heap.size (fun k_ => ((P0_4_ k_ ∨ P0_5_ k_ ∨ P0_6_ k_) ∨ w.heap.size ≤ k_)) (.slice A0_4 l0_4.length c0_4) l0_4 from Kd.V_mono hs0_4 (fun k_ hk => .inl (.inl hk)))
 have HO0_5 := Aside0.mk (show Kd.V k68 68 w w.heap.size (fun k_ => ((P0_4_ k_ ∨ P0_5_ k_ ∨ P0_6_ k_) ∨ w.heap.size ≤ k_)) (.slice A0_5 l0_5.length c0_5) l0_5 from Kd.V_mono hs0_5 (fun k_ hk => .inl (.inr (.inl hk))))
 have HO0_6 := Aside0.mk (show Kd.V k28 28 w w.heap.size (fun k_ => ((P0_4_ k_ ∨ P0_5_ k_ ∨ P0_6_ k_) ∨ w.heap.size ≤ k_)) (.slice A0_6 l0_6.length c0_6) l0_6 from Kd.V_mono hs0_6 (fun k_ hk => .inl (.inr (.inr hk))))
 have HB := Aside0.mk (Below.refl w.heap.size w)
 have H : ((spec_CountOf.f k a0_0 a0_1 a0_2 a0_3 l0_4 l0_5 l0_6 a0_7).bind fun t265 => (if t265 > 60 then (some false) else (if a0_0 = 0 then (spec_NodeOk.l0 k 0 0 a0_0 a0_1 a0_2 a0_3 l0_4 l0_5 l0_6 a0_7) else ((spec_l5Kids.f k (([(⟨a0_0, a0_1, a0_2, a0_3, l0_4, l0_5, l0_6, a0_7⟩ : S28)] : List (S28))) 0).bind fun t269 => (some t269))))) = some r := h
 clear h
 replace H := Option.bind_eq_some_iff.mp H
 obtain ⟨t265, A20, H⟩ := H
 try dsimp only at H
 have A2 := Aside0.mk A20
 clear A20
 go_enter Tryz.func17, Tryz.ntmps17
 go_wp2_with (first | ((with_reducible refine gate_dst (N := 1) rfl ?_); (try (refine gate_guard (by rfl) ?_; dsimp only)); refine box_event ?hg (N := 1) ?hd (cs := #[.int .i64 a0_0, .string a0_1, .string a0_2, .string a0_3, .slice A0_4 l0_4.length c0_4, .slice A0_5 l0_5.length c0_5, .slice A0_6 l0_6.length c0_6, .string a0_7]) (t := 28) ?hr ?_; (case hd => rfl); (case hg => rfl); (case hr => first | (go_simp; done) | (go_simp; rfl)); intro gb264 hg w3 hbox hb; replace HO0_4 := Aside0.mk (Kd.V_below (Kd.V_elderB (by (with_reducible repeat (first | apply Kd.V_alloc | apply Kd.V_drewN | apply Kd.V_drew)); exact HO0_4.out) gb264 (Nat.le_of_eq hg.symm)) hb); replace HO0_5 := Aside0.mk (Kd.V_below (Kd.V_elderB (by (with_reducible repeat (first | apply Kd.V_alloc | apply Kd.V_drewN | apply Kd.V_drew)); exact HO0_5.out) gb264 (Nat.le_of_eq hg.symm)) hb); replace HO0_6 := Aside0.mk (Kd.V_below (Kd.V_elderB (by (with_reducible repeat (first | apply Kd.V_alloc | apply Kd.V_drewN | apply Kd.V_drew)); exact HO0_6.out) gb264 (Nat.le_of_eq hg.symm)) hb); have BK264 := Aside0.mk (hbox); have GW264 := Aside0.mk ((by rw [hg]; exact (below_size hB) : w.heap.size ≤ gb264)); have GE264 := Aside0.mk ((by rw [hg]; exact (below_size hB) : w.heap.size ≤ gb264)); replace HB := Aside0.mk (below_step hB hb); clear hb hbox hg; obtain ⟨hcz4_0, hcz4_1, hcz4_2, hcz4_3, hcz4_4, hcz4_5, hcz4_6, hcz4_7⟩ := bc8 BK264.out) | ((with_reducible refine gate_callee (f := 20) rfl ?_); refine goesL_ (some 6) rfl rfl Tryz.func20 (by kernel_rfl) rfl #[.agg #[.int .i64 a0_0, .string a0_1, .string a0_2, .string a0_3, .slice A0_4 l0_4.length c0_4, .slice A0_5 l0_5.length c0_5, .slice A0_6 l0_6.length c0_6, .string a0_7]] rfl mA ?_; (with_reducible refine (spec_CountOf.calls k a0_0 a0_1 a0_2 a0_3 _ _ l0_4 _ _ l0_5 _ _ l0_6 a0_7 t265 _ ?side1 ?side2 ?side3 ?side4 ?side5 ?side6 A2.out).mono ?_); (case side1 => repeat (first | exact (Kd.V_reads' HO0_4.out).2.2 | (with_reducible refine Kd.C_alloc ?_ _) | (with_reducible refine Kd.C_drewN ?_ _) | (with_reducible refine Kd.C_drew ?_))); (case side2 => exact (Kd.V_reads' HO0_4.out).2.1); (case side3 => repeat (first | exact (Kd.V_reads' HO0_5.out).2.2 | (with_reducible refine Kd.C_alloc ?_ _) | (with_reducible refine Kd.C_drewN ?_ _) | (with_reducible refine Kd.C_drew ?_))); (case side4 => exact (Kd.V_reads' HO0_5.out).2.1); (case side5 => repeat (first | exact (Kd.V_reads' HO0_6.out).2.2 | (with_reducible refine Kd.C_alloc ?_ _) | (with_reducible refine Kd.C_drewN ?_ _) | (with_reducible refine Kd.C_drew ?_))); (case side6 => exact (Kd.V_reads' HO0_6.out).2.1); rintro e w5 ⟨rfl, hb⟩; refine ⟨_, rfl, ?_⟩; replace HO0_4 := Aside0.mk (Kd.V_below (by (with_reducible repeat (first | apply Kd.V_alloc | apply Kd.V_drewN | apply Kd.V_drew)); exact HO0_4.out) hb); replace HO0_5 := Aside0.mk (Kd.V_below (by (with_reducible repeat (first | apply Kd.V_alloc | apply Kd.V_drewN | apply Kd.V_drew)); exact HO0_5.out) hb); replace HO0_6 := Aside0.mk (Kd.V_below (by (with_reducible repeat (first | apply Kd.V_alloc | apply Kd.V_drewN | apply Kd.V_drew)); exact HO0_6.out) hb); replace BK264 := Aside0.mk (blk_below (g := gb264) (by (with_reducible repeat (first | refine bN ?_ _|refine bD ?_|refine bA ?_ _)); exact BK264.out) hb); replace HB := Aside0.mk (below_step hB hb); (try clear hb); (try clear hb2); (try clear hk); (try clear hi); refine halt_ ?_; intro q_ hq_))
 obtain ⟨rfl⟩ := hq_
 by_cases c6 : t265 > 60
 ·rw [if_pos c6] at H
  have c6b0 : decide (60 < t265) = true := decide_eq_true c6
  clear c6
  obtain rfl := Option.some.inj H
  go_wp2
  go_ret
  exact ⟨rE, hB⟩
 ·rw [if_neg c6] at H
  have c6b0 : decide (60 < t265) = false := decide_eq_false c6
  clear c6
  by_cases c7 : a0_0 = 0
  ·rw [if_pos c7] at H
   obtain ⟨c7b0, c7b1⟩ := eqT c7
   clear c7
   have H' := Aside0.mk H
   clear H
   obtain ⟨hcz8_0, hcz8_1, hcz8_2, hcz8_3, hcz8_4, hcz8_5, hcz8_6, hcz8_7⟩ := bc8 BK264.out
   go_wp2
   go_loopg [3, 4] k (fun kq v3 v4 w' => ∃ (x3_1 : Int) (x4_1 : Int), v3 = .int .i64 x3_1 ∧ v4 = .int .i64 x4_1 ∧ Aside0 (spec_NodeOk.l0 kq x3_1 x4_1 a0_0 a0_1 a0_2 a0_3 l0_4 l0_5 l0_6 a0_7 = some r) ∧ Aside0 (kq ≤ k) ∧ Aside0 (Kd.V k73 73 w' w.heap.size (fun k_ => ((P0_4_ k_ ∨ P0_5_ k_ ∨ P0_6_ k_) ∨ w.heap.size ≤ k_) ∧ k_ ≠ gb264) (.slice A0_4 l0_4.length c0_4) l0_4) ∧ Aside0 (Kd.V k68 68 w' w.heap.size (fun k_ => ((P0_4_ k_ ∨ P0_5_ k_ ∨ P0_6_ k_) ∨ w.heap.size ≤ k_) ∧ k_ ≠ gb264) (.slice A0_5 l0_5.length c0_5) l0_5) ∧ Aside0 (Kd.V k28 28 w' w.heap.size (fun k_ => ((P0_4_ k_ ∨ P0_5_ k_ ∨ P0_6_ k_) ∨ w.heap.size ≤ k_) ∧ k_ ≠ gb264) (.slice A0_6 l0_6.length c0_6) l0_6) ∧ Aside0 (w'.heap[gb264]? = some (.cells #[.int .i64 a0_0, .string a0_1, .string a0_2, .string a0_3, (.slice A0_4 l0_4.length c0_4), (.slice A0_5 l0_5.length c0_5), (.slice A0_6 l0_6.length c0_6), .string a0_7] 28 (0, 0))) ∧ Aside0 (Below w.heap.size w w'))
   case atStart => exact ⟨(0), (0), rG, rG, H', ⟨Nat.le_refl _⟩, ⟨by (with_reducible repeat (first | apply Kd.V_alloc | apply Kd.V_drewN | apply Kd.V_drew)); exact HO0_4.out⟩, ⟨by (with_reducible repeat (first | apply Kd.V_alloc | apply Kd.V_drewN | apply Kd.V_drew)); exact HO0_5.out⟩, ⟨by (with_reducible repeat (first | apply Kd.V_alloc | apply Kd.V_drewN | apply Kd.V_drew)); exact HO0_6.out⟩, ⟨by (with_reducible repeat (first | refine bN ?_ _|refine bD ?_|refine bA ?_ _)); exact BK264.out⟩, ⟨hB⟩⟩
   case round =>
    clear H'
    try clear c7; try clear c7b1; try clear c7b0; try clear c6; try clear c6b0
    try clear hcz4_0 hcz4_1 hcz4_2 hcz4_3 hcz4_4 hcz4_5 hcz4_6 hcz4_7
    try clear hcz8_0 hcz8_1 hcz8_2 hcz8_3 hcz8_4 hcz8_5 hcz8_6 hcz8_7
    obtain ⟨x3_1, x4_1, rfl, rfl, HA, HK1, HO_265004, HO_265005, HO_265006, BK264, HB⟩ := hrel
    cases gk with
    | zero => exact absurd HA.out (by simp [spec_NodeOk.l0])
    | succ k1 =>
     have H := HA.out
     clear HA
     simp only [spec_NodeOk.l0] at H
     by_cases c9 : x4_1 < (l0_6.length : Int)
     ·rw [if_pos c9] at H
      have c9b0 : decide (x4_1 < (l0_6.length : Int)) = true := decide_eq_true c9
      clear c9
      obtain ⟨c10, H⟩ := if_som H
      have c10b0 : decide (0 ≤ x4_1) = true := decide_eq_true c10
      clear c10
      by_cases c11 : ((rd_T28 l0_6 x4_1).f0) = 1
      ·rw [if_pos c11] at H
       obtain ⟨c11b0, c11b1⟩ := eqT c11
       clear c11
       by_cases c12 : ((rd_T28 l0_6 x4_1).f0) = 2
       ·rw [if_pos c12] at H
        obtain ⟨c12b0, c12b1⟩ := eqT c12
        clear c12
        obtain rfl := Option.some.inj H
        obtain ⟨hcz13_0, hcz13_1, hcz13_2, hcz13_3, hcz13_4, hcz13_5, hcz13_6, hcz13_7⟩ := bc8 BK264.out
        have p271 : 0 ≤ (x4_1 : Int) := odt
        have q271 : x4_1 < (l0_6.length : Int) := odt
        obtain ⟨ad271, A271_4, c271_4, A271_5, c271_5, A271_6, c271_6, e271, hx271_0, hx271_1, hx271_2, hx271_3, hx271_4, hx271_5, hx271_6, hx271_7, hl271_4, hi271_4, hl271_5, hi271_5, hl271_6, hi271_6⟩ := at_T28 (Kd.V_reads' HO_265006.out).2.2 x4_1 p271 q271
        cases e271
        obtain ⟨ce271, hce271, hMe271, hcc271⟩ := Kd.V_get HO_265006.out z28 x4_1 p271 (by first | exact q271 | exact odt | (have e_ := (Kd.V_reads' HO_265006.out).1; omega))
        obtain ⟨ua271_4, uc271_4, ua271_5, uc271_5, ua271_6, uc271_6, rfl, ul271_4, ge271_4, ul271_5, ge271_5, ul271_6, ge271_6⟩ := k28_openF hMe271
        have hv271_4 := hcc271 4 _ rfl
        rw [add_field _ _ 4 (by omega)] at hv271_4
        replace hv271_4 := Option.some.inj (hv271_4.symm.trans hx271_4)
        injection hv271_4 with hva_ hvn_ hvc_
        rw [hva_] at ge271_4
        rw [hvc_] at ul271_4
        have HL271_4 := Aside0.mk (show Kd.V k73 73 _ w.heap.size _ _ ((rd_T28 l0_6 x4_1).f4) from Kd.V_mk ul271_4 ge271_4)
        clear hva_ hvn_ hvc_ ge271_4 ul271_4
        have hv271_5 := hcc271 5 _ rfl
        rw [add_field _ _ 5 (by omega)] at hv271_5
        replace hv271_5 := Option.some.inj (hv271_5.symm.trans hx271_5)
        injection hv271_5 with hva_ hvn_ hvc_
        rw [hva_] at ge271_5
        rw [hvc_] at ul271_5
        have HL271_5 := Aside0.mk (show Kd.V k68 68 _ w.heap.size _ _ ((rd_T28 l0_6 x4_1).f5) from Kd.V_mk ul271_5 ge271_5)
        clear hva_ hvn_ hvc_ ge271_5 ul271_5
        have hv271_6 := hcc271 6 _ rfl
        rw [add_field _ _ 6 (by omega)] at hv271_6
        replace hv271_6 := Option.some.inj (hv271_6.symm.trans hx271_6)
        injection hv271_6 with hva_ hvn_ hvc_
        rw [hva_] at ge271_6
        rw [hvc_] at ul271_6
        have HL271_6 := Aside0.mk (show Kd.V k28 28 _ w.heap.size _ _ ((rd_T28 l0_6 x4_1).f6) from Kd.V_mk ul271_6 ge271_6)
        clear hva_ hvn_ hvc_ ge271_6 ul271_6
        clear hcc271 hce271
        have HR271_4 := Aside0.mk hi271_4
        have HC271_4 := Aside0.mk hl271_4
        clear hi271_4 hl271_4
        have HR271_5 := Aside0.mk hi271_5
        have HC271_5 := Aside0.mk hl271_5
        clear hi271_5 hl271_5
        have HR271_6 := Aside0.mk hi271_6
        have HC271_6 := Aside0.mk hl271_6
        clear hi271_6 hl271_6
        replace p271 := eq_true p271
        replace q271 := eq_true q271
        have p272 : 0 ≤ (x4_1 : Int) := odt
        have q272 : x4_1 < (l0_6.length : Int) := odt
        obtain ⟨ad272, A272_4, c272_4, A272_5, c272_5, A272_6, c272_6, e272, hx272_0, hx272_1, hx272_2, hx272_3, hx272_4, hx272_5, hx272_6, hx272_7, hl272_4, hi272_4, hl272_5, hi272_5, hl272_6, hi272_6⟩ := at_T28 (Kd.V_reads' HO_265006.out).2.2 x4_1 p272 q272
        obtain rfl : ad271 = ad272 := (by injection e272)
        obtain ⟨ce272, hce272, hMe272, hcc272⟩ := Kd.V_get HO_265006.out z28 x4_1 p272 (by first | exact q272 | exact odt | (have e_ := (Kd.V_reads' HO_265006.out).1; omega))
        obtain ⟨ua272_4, uc272_4, ua272_5, uc272_5, ua272_6, uc272_6, rfl, ul272_4, ge272_4, ul272_5, ge272_5, ul272_6, ge272_6⟩ := k28_openF hMe272
        have hv272_4 := hcc272 4 _ rfl
        rw [add_field _ _ 4 (by omega)] at hv272_4
        replace hv272_4 := Option.some.inj (hv272_4.symm.trans hx272_4)
        injection hv272_4 with hva_ hvn_ hvc_
        rw [hva_] at ge272_4
        rw [hvc_] at ul272_4
        have HL272_4 := Aside0.mk (show Kd.V k73 73 _ w.heap.size _ _ ((rd_T28 l0_6 x4_1).f4) from Kd.V_mk ul272_4 ge272_4)
        clear hva_ hvn_ hvc_ ge272_4 ul272_4
        have hv272_5 := hcc272 5 _ rfl
        rw [add_field _ _ 5 (by omega)] at hv272_5
        replace hv272_5 := Option.some.inj (hv272_5.symm.trans hx272_5)
        injection hv272_5 with hva_ hvn_ hvc_
        rw [hva_] at ge272_5
        rw [hvc_] at ul272_5
        have HL272_5 := Aside0.mk (show Kd.V k68 68 _ w.heap.size _ _ ((rd_T28 l0_6 x4_1).f5) from Kd.V_mk ul272_5 ge272_5)
        clear hva_ hvn_ hvc_ ge272_5 ul272_5
        have hv272_6 := hcc272 6 _ rfl
        rw [add_field _ _ 6 (by omega)] at hv272_6
        replace hv272_6 := Option.some.inj (hv272_6.symm.trans hx272_6)
        injection hv272_6 with hva_ hvn_ hvc_
        rw [hva_] at ge272_6
        rw [hvc_] at ul272_6
        have HL272_6 := Aside0.mk (show Kd.V k28 28 _ w.heap.size _ _ ((rd_T28 l0_6 x4_1).f6) from Kd.V_mk ul272_6 ge272_6)
        clear hva_ hvn_ hvc_ ge272_6 ul272_6
        clear hcc272 hce272
        have HR272_4 := Aside0.mk hi272_4
        have HC272_4 := Aside0.mk hl272_4
        clear hi272_4 hl272_4
        have HR272_5 := Aside0.mk hi272_5
        have HC272_5 := Aside0.mk hl272_5
        clear hi272_5 hl272_5
        have HR272_6 := Aside0.mk hi272_6
        have HC272_6 := Aside0.mk hl272_6
        clear hi272_6 hl272_6
        replace p272 := eq_true p272
        replace q272 := eq_true q272
        have ea_ := Option.some.inj (hx271_4.symm.trans hx272_4)
        injection ea_ with ea_ en_ ec_
        subst ea_
        subst ec_
        clear en_
        have ea_ := Option.some.inj (hx271_5.symm.trans hx272_5)
        injection ea_ with ea_ en_ ec_
        subst ea_
        subst ec_
        clear en_
        have ea_ := Option.some.inj (hx271_6.symm.trans hx272_6)
        injection ea_ with ea_ en_ ec_
        subst ea_
        subst ec_
        clear en_
        go_wp2
        go_ret
        exact ⟨rE, hB⟩
       ·rw [if_neg c12] at H
        obtain ⟨c12b0, c12b1⟩ := eqF c12
        have H' := Aside0.mk H
        clear H
        obtain ⟨hcz14_0, hcz14_1, hcz14_2, hcz14_3, hcz14_4, hcz14_5, hcz14_6, hcz14_7⟩ := bc8 BK264.out
        have p271 : 0 ≤ (x4_1 : Int) := odt
        have q271 : x4_1 < (l0_6.length : Int) := odt
        obtain ⟨ad271, A271_4, c271_4, A271_5, c271_5, A271_6, c271_6, e271, hx271_0, hx271_1, hx271_2, hx271_3, hx271_4, hx271_5, hx271_6, hx271_7, hl271_4, hi271_4, hl271_5, hi271_5, hl271_6, hi271_6⟩ := at_T28 (Kd.V_reads' HO_265006.out).2.2 x4_1 p271 q271
        cases e271
        obtain ⟨ce271, hce271, hMe271, hcc271⟩ := Kd.V_get HO_265006.out z28 x4_1 p271 (by first | exact q271 | exact odt | (have e_ := (Kd.V_reads' HO_265006.out).1; omega))
        obtain ⟨ua271_4, uc271_4, ua271_5, uc271_5, ua271_6, uc271_6, rfl, ul271_4, ge271_4, ul271_5, ge271_5, ul271_6, ge271_6⟩ := k28_openF hMe271
        have hv271_4 := hcc271 4 _ rfl
        rw [add_field _ _ 4 (by omega)] at hv271_4
        replace hv271_4 := Option.some.inj (hv271_4.symm.trans hx271_4)
        injection hv271_4 with hva_ hvn_ hvc_
        rw [hva_] at ge271_4
        rw [hvc_] at ul271_4
        have HL271_4 := Aside0.mk (show Kd.V k73 73 _ w.heap.size _ _ ((rd_T28 l0_6 x4_1).f4) from Kd.V_mk ul271_4 ge271_4)
        clear hva_ hvn_ hvc_ ge271_4 ul271_4
        have hv271_5 := hcc271 5 _ rfl
        rw [add_field _ _ 5 (by omega)] at hv271_5
        replace hv271_5 := Option.some.inj (hv271_5.symm.trans hx271_5)
        injection hv271_5 with hva_ hvn_ hvc_
        rw [hva_] at ge271_5
        rw [hvc_] at ul271_5
        have HL271_5 := Aside0.mk (show Kd.V k68 68 _ w.heap.size _ _ ((rd_T28 l0_6 x4_1).f5) from Kd.V_mk ul271_5 ge271_5)
        clear hva_ hvn_ hvc_ ge271_5 ul271_5
        have hv271_6 := hcc271 6 _ rfl
        rw [add_field _ _ 6 (by omega)] at hv271_6
        replace hv271_6 := Option.some.inj (hv271_6.symm.trans hx271_6)
        injection hv271_6 with hva_ hvn_ hvc_
        rw [hva_] at ge271_6
        rw [hvc_] at ul271_6
        have HL271_6 := Aside0.mk (show Kd.V k28 28 _ w.heap.size _ _ ((rd_T28 l0_6 x4_1).f6) from Kd.V_mk ul271_6 ge271_6)
        clear hva_ hvn_ hvc_ ge271_6 ul271_6
        clear hcc271 hce271
        have HR271_4 := Aside0.mk hi271_4
        have HC271_4 := Aside0.mk hl271_4
        clear hi271_4 hl271_4
        have HR271_5 := Aside0.mk hi271_5
        have HC271_5 := Aside0.mk hl271_5
        clear hi271_5 hl271_5
        have HR271_6 := Aside0.mk hi271_6
        have HC271_6 := Aside0.mk hl271_6
        clear hi271_6 hl271_6
        replace p271 := eq_true p271
        replace q271 := eq_true q271
        have p272 : 0 ≤ (x4_1 : Int) := odt
        have q272 : x4_1 < (l0_6.length : Int) := odt
        obtain ⟨ad272, A272_4, c272_4, A272_5, c272_5, A272_6, c272_6, e272, hx272_0, hx272_1, hx272_2, hx272_3, hx272_4, hx272_5, hx272_6, hx272_7, hl272_4, hi272_4, hl272_5, hi272_5, hl272_6, hi272_6⟩ := at_T28 (Kd.V_reads' HO_265006.out).2.2 x4_1 p272 q272
        obtain rfl : ad271 = ad272 := (by injection e272)
        obtain ⟨ce272, hce272, hMe272, hcc272⟩ := Kd.V_get HO_265006.out z28 x4_1 p272 (by first | exact q272 | exact odt | (have e_ := (Kd.V_reads' HO_265006.out).1; omega))
        obtain ⟨ua272_4, uc272_4, ua272_5, uc272_5, ua272_6, uc272_6, rfl, ul272_4, ge272_4, ul272_5, ge272_5, ul272_6, ge272_6⟩ := k28_openF hMe272
        have hv272_4 := hcc272 4 _ rfl
        rw [add_field _ _ 4 (by omega)] at hv272_4
        replace hv272_4 := Option.some.inj (hv272_4.symm.trans hx272_4)
        injection hv272_4 with hva_ hvn_ hvc_
        rw [hva_] at ge272_4
        rw [hvc_] at ul272_4
        have HL272_4 := Aside0.mk (show Kd.V k73 73 _ w.heap.size _ _ ((rd_T28 l0_6 x4_1).f4) from Kd.V_mk ul272_4 ge272_4)
        clear hva_ hvn_ hvc_ ge272_4 ul272_4
        have hv272_5 := hcc272 5 _ rfl
        rw [add_field _ _ 5 (by omega)] at hv272_5
        replace hv272_5 := Option.some.inj (hv272_5.symm.trans hx272_5)
        injection hv272_5 with hva_ hvn_ hvc_
        rw [hva_] at ge272_5
        rw [hvc_] at ul272_5
        have HL272_5 := Aside0.mk (show Kd.V k68 68 _ w.heap.size _ _ ((rd_T28 l0_6 x4_1).f5) from Kd.V_mk ul272_5 ge272_5)
        clear hva_ hvn_ hvc_ ge272_5 ul272_5
        have hv272_6 := hcc272 6 _ rfl
        rw [add_field _ _ 6 (by omega)] at hv272_6
        replace hv272_6 := Option.some.inj (hv272_6.symm.trans hx272_6)
        injection hv272_6 with hva_ hvn_ hvc_
        rw [hva_] at ge272_6
        rw [hvc_] at ul272_6
        have HL272_6 := Aside0.mk (show Kd.V k28 28 _ w.heap.size _ _ ((rd_T28 l0_6 x4_1).f6) from Kd.V_mk ul272_6 ge272_6)
        clear hva_ hvn_ hvc_ ge272_6 ul272_6
        clear hcc272 hce272
        have HR272_4 := Aside0.mk hi272_4
        have HC272_4 := Aside0.mk hl272_4
        clear hi272_4 hl272_4
        have HR272_5 := Aside0.mk hi272_5
        have HC272_5 := Aside0.mk hl272_5
        clear hi272_5 hl272_5
        have HR272_6 := Aside0.mk hi272_6
        have HC272_6 := Aside0.mk hl272_6
        clear hi272_6 hl272_6
        replace p272 := eq_true p272
        replace q272 := eq_true q272
        have ea_ := Option.some.inj (hx271_4.symm.trans hx272_4)
        injection ea_ with ea_ en_ ec_
        subst ea_
        subst ec_
        clear en_
        have ea_ := Option.some.inj (hx271_5.symm.trans hx272_5)
        injection ea_ with ea_ en_ ec_
        subst ea_
        subst ec_
        clear en_
        have ea_ := Option.some.inj (hx271_6.symm.trans hx272_6)
        injection ea_ with ea_ en_ ec_
        subst ea_
        subst ec_
        clear en_
        go_wp2
        go_roundg k1
        case measure => have := HK1.out; omega
        case rel => exact ⟨(wrap64 (x3_1 + 1)), (wrap64 (x4_1 + 1)), rG, rG, H', ⟨by have := HK1.out; omega⟩, ⟨by (with_reducible repeat (first | apply Kd.V_alloc | apply Kd.V_drewN | apply Kd.V_drew)); exact HO_265004.out⟩, ⟨by (with_reducible repeat (first | apply Kd.V_alloc | apply Kd.V_drewN | apply Kd.V_drew)); exact HO_265005.out⟩, ⟨by (with_reducible repeat (first | apply Kd.V_alloc | apply Kd.V_drewN | apply Kd.V_drew)); exact HO_265006.out⟩, ⟨by (with_reducible repeat (first | refine bN ?_ _|refine bD ?_|refine bA ?_ _)); exact BK264.out⟩, ⟨hB⟩⟩
      ·rw [if_neg c11] at H
       obtain ⟨c11b0, c11b1⟩ := eqF c11
       by_cases c15 : ((rd_T28 l0_6 x4_1).f0) = 2
       ·rw [if_pos c15] at H
        obtain ⟨c15b0, c15b1⟩ := eqT c15
        clear c15
        obtain rfl := Option.some.inj H
        obtain ⟨hcz16_0, hcz16_1, hcz16_2, hcz16_3, hcz16_4, hcz16_5, hcz16_6, hcz16_7⟩ := bc8 BK264.out
        have p271 : 0 ≤ (x4_1 : Int) := odt
        have q271 : x4_1 < (l0_6.length : Int) := odt
        obtain ⟨ad271, A271_4, c271_4, A271_5, c271_5, A271_6, c271_6, e271, hx271_0, hx271_1, hx271_2, hx271_3, hx271_4, hx271_5, hx271_6, hx271_7, hl271_4, hi271_4, hl271_5, hi271_5, hl271_6, hi271_6⟩ := at_T28 (Kd.V_reads' HO_265006.out).2.2 x4_1 p271 q271
        cases e271
        obtain ⟨ce271, hce271, hMe271, hcc271⟩ := Kd.V_get HO_265006.out z28 x4_1 p271 (by first | exact q271 | exact odt | (have e_ := (Kd.V_reads' HO_265006.out).1; omega))
        obtain ⟨ua271_4, uc271_4, ua271_5, uc271_5, ua271_6, uc271_6, rfl, ul271_4, ge271_4, ul271_5, ge271_5, ul271_6, ge271_6⟩ := k28_openF hMe271
        have hv271_4 := hcc271 4 _ rfl
        rw [add_field _ _ 4 (by omega)] at hv271_4
        replace hv271_4 := Option.some.inj (hv271_4.symm.trans hx271_4)
        injection hv271_4 with hva_ hvn_ hvc_
        rw [hva_] at ge271_4
        rw [hvc_] at ul271_4
        have HL271_4 := Aside0.mk (show Kd.V k73 73 _ w.heap.size _ _ ((rd_T28 l0_6 x4_1).f4) from Kd.V_mk ul271_4 ge271_4)
        clear hva_ hvn_ hvc_ ge271_4 ul271_4
        have hv271_5 := hcc271 5 _ rfl
        rw [add_field _ _ 5 (by omega)] at hv271_5
        replace hv271_5 := Option.some.inj (hv271_5.symm.trans hx271_5)
        injection hv271_5 with hva_ hvn_ hvc_
        rw [hva_] at ge271_5
        rw [hvc_] at ul271_5
        have HL271_5 := Aside0.mk (show Kd.V k68 68 _ w.heap.size _ _ ((rd_T28 l0_6 x4_1).f5) from Kd.V_mk ul271_5 ge271_5)
        clear hva_ hvn_ hvc_ ge271_5 ul271_5
        have hv271_6 := hcc271 6 _ rfl
        rw [add_field _ _ 6 (by omega)] at hv271_6
        replace hv271_6 := Option.some.inj (hv271_6.symm.trans hx271_6)
        injection hv271_6 with hva_ hvn_ hvc_
        rw [hva_] at ge271_6
        rw [hvc_] at ul271_6
        have HL271_6 := Aside0.mk (show Kd.V k28 28 _ w.heap.size _ _ ((rd_T28 l0_6 x4_1).f6) from Kd.V_mk ul271_6 ge271_6)
        clear hva_ hvn_ hvc_ ge271_6 ul271_6
        clear hcc271 hce271
        have HR271_4 := Aside0.mk hi271_4
        have HC271_4 := Aside0.mk hl271_4
        clear hi271_4 hl271_4
        have HR271_5 := Aside0.mk hi271_5
        have HC271_5 := Aside0.mk hl271_5
        clear hi271_5 hl271_5
        have HR271_6 := Aside0.mk hi271_6
        have HC271_6 := Aside0.mk hl271_6
        clear hi271_6 hl271_6
        replace p271 := eq_true p271
        replace q271 := eq_true q271
        have p273 : 0 ≤ (x4_1 : Int) := odt
        have q273 : x4_1 < (l0_6.length : Int) := odt
        obtain ⟨ad273, A273_4, c273_4, A273_5, c273_5, A273_6, c273_6, e273, hx273_0, hx273_1, hx273_2, hx273_3, hx273_4, hx273_5, hx273_6, hx273_7, hl273_4, hi273_4, hl273_5, hi273_5, hl273_6, hi273_6⟩ := at_T28 (Kd.V_reads' HO_265006.out).2.2 x4_1 p273 q273
        obtain rfl : ad271 = ad273 := (by injection e273)
        obtain ⟨ce273, hce273, hMe273, hcc273⟩ := Kd.V_get HO_265006.out z28 x4_1 p273 (by first | exact q273 | exact odt | (have e_ := (Kd.V_reads' HO_265006.out).1; omega))
        obtain ⟨ua273_4, uc273_4, ua273_5, uc273_5, ua273_6, uc273_6, rfl, ul273_4, ge273_4, ul273_5, ge273_5, ul273_6, ge273_6⟩ := k28_openF hMe273
        have hv273_4 := hcc273 4 _ rfl
        rw [add_field _ _ 4 (by omega)] at hv273_4
        replace hv273_4 := Option.some.inj (hv273_4.symm.trans hx273_4)
        injection hv273_4 with hva_ hvn_ hvc_
        rw [hva_] at ge273_4
        rw [hvc_] at ul273_4
        have HL273_4 := Aside0.mk (show Kd.V k73 73 _ w.heap.size _ _ ((rd_T28 l0_6 x4_1).f4) from Kd.V_mk ul273_4 ge273_4)
        clear hva_ hvn_ hvc_ ge273_4 ul273_4
        have hv273_5 := hcc273 5 _ rfl
        rw [add_field _ _ 5 (by omega)] at hv273_5
        replace hv273_5 := Option.some.inj (hv273_5.symm.trans hx273_5)
        injection hv273_5 with hva_ hvn_ hvc_
        rw [hva_] at ge273_5
        rw [hvc_] at ul273_5
        have HL273_5 := Aside0.mk (show Kd.V k68 68 _ w.heap.size _ _ ((rd_T28 l0_6 x4_1).f5) from Kd.V_mk ul273_5 ge273_5)
        clear hva_ hvn_ hvc_ ge273_5 ul273_5
        have hv273_6 := hcc273 6 _ rfl
        rw [add_field _ _ 6 (by omega)] at hv273_6
        replace hv273_6 := Option.some.inj (hv273_6.symm.trans hx273_6)
        injection hv273_6 with hva_ hvn_ hvc_
        rw [hva_] at ge273_6
        rw [hvc_] at ul273_6
        have HL273_6 := Aside0.mk (show Kd.V k28 28 _ w.heap.size _ _ ((rd_T28 l0_6 x4_1).f6) from Kd.V_mk ul273_6 ge273_6)
        clear hva_ hvn_ hvc_ ge273_6 ul273_6
        clear hcc273 hce273
        have HR273_4 := Aside0.mk hi273_4
        have HC273_4 := Aside0.mk hl273_4
        clear hi273_4 hl273_4
        have HR273_5 := Aside0.mk hi273_5
        have HC273_5 := Aside0.mk hl273_5
        clear hi273_5 hl273_5
        have HR273_6 := Aside0.mk hi273_6
        have HC273_6 := Aside0.mk hl273_6
        clear hi273_6 hl273_6
        replace p273 := eq_true p273
        replace q273 := eq_true q273
        have ea_ := Option.some.inj (hx271_4.symm.trans hx273_4)
        injection ea_ with ea_ en_ ec_
        subst ea_
        subst ec_
        clear en_
        have ea_ := Option.some.inj (hx271_5.symm.trans hx273_5)
        injection ea_ with ea_ en_ ec_
        subst ea_
        subst ec_
        clear en_
        have ea_ := Option.some.inj (hx271_6.symm.trans hx273_6)
        injection ea_ with ea_ en_ ec_
        subst ea_
        subst ec_
        clear en_
        go_wp2
        go_ret
        exact ⟨rE, hB⟩
       ·rw [if_neg c15] at H
        obtain ⟨c15b0, c15b1⟩ := eqF c15
        have H' := Aside0.mk H
        clear H
        obtain ⟨hcz17_0, hcz17_1, hcz17_2, hcz17_3, hcz17_4, hcz17_5, hcz17_6, hcz17_7⟩ := bc8 BK264.out
        have p271 : 0 ≤ (x4_1 : Int) := odt
        have q271 : x4_1 < (l0_6.length : Int) := odt
        obtain ⟨ad271, A271_4, c271_4, A271_5, c271_5, A271_6, c271_6, e271, hx271_0, hx271_1, hx271_2, hx271_3, hx271_4, hx271_5, hx271_6, hx271_7, hl271_4, hi271_4, hl271_5, hi271_5, hl271_6, hi271_6⟩ := at_T28 (Kd.V_reads' HO_265006.out).2.2 x4_1 p271 q271
        cases e271
        obtain ⟨ce271, hce271, hMe271, hcc271⟩ := Kd.V_get HO_265006.out z28 x4_1 p271 (by first | exact q271 | exact odt | (have e_ := (Kd.V_reads' HO_265006.out).1; omega))
        obtain ⟨ua271_4, uc271_4, ua271_5, uc271_5, ua271_6, uc271_6, rfl, ul271_4, ge271_4, ul271_5, ge271_5, ul271_6, ge271_6⟩ := k28_openF hMe271
        have hv271_4 := hcc271 4 _ rfl
        rw [add_field _ _ 4 (by omega)] at hv271_4
        replace hv271_4 := Option.some.inj (hv271_4.symm.trans hx271_4)
        injection hv271_4 with hva_ hvn_ hvc_
        rw [hva_] at ge271_4
        rw [hvc_] at ul271_4
        have HL271_4 := Aside0.mk (show Kd.V k73 73 _ w.heap.size _ _ ((rd_T28 l0_6 x4_1).f4) from Kd.V_mk ul271_4 ge271_4)
        clear hva_ hvn_ hvc_ ge271_4 ul271_4
        have hv271_5 := hcc271 5 _ rfl
        rw [add_field _ _ 5 (by omega)] at hv271_5
        replace hv271_5 := Option.some.inj (hv271_5.symm.trans hx271_5)
        injection hv271_5 with hva_ hvn_ hvc_
        rw [hva_] at ge271_5
        rw [hvc_] at ul271_5
        have HL271_5 := Aside0.mk (show Kd.V k68 68 _ w.heap.size _ _ ((rd_T28 l0_6 x4_1).f5) from Kd.V_mk ul271_5 ge271_5)
        clear hva_ hvn_ hvc_ ge271_5 ul271_5
        have hv271_6 := hcc271 6 _ rfl
        rw [add_field _ _ 6 (by omega)] at hv271_6
        replace hv271_6 := Option.some.inj (hv271_6.symm.trans hx271_6)
        injection hv271_6 with hva_ hvn_ hvc_
        rw [hva_] at ge271_6
        rw [hvc_] at ul271_6
        have HL271_6 := Aside0.mk (show Kd.V k28 28 _ w.heap.size _ _ ((rd_T28 l0_6 x4_1).f6) from Kd.V_mk ul271_6 ge271_6)
        clear hva_ hvn_ hvc_ ge271_6 ul271_6
        clear hcc271 hce271
        have HR271_4 := Aside0.mk hi271_4
        have HC271_4 := Aside0.mk hl271_4
        clear hi271_4 hl271_4
        have HR271_5 := Aside0.mk hi271_5
        have HC271_5 := Aside0.mk hl271_5
        clear hi271_5 hl271_5
        have HR271_6 := Aside0.mk hi271_6
        have HC271_6 := Aside0.mk hl271_6
        clear hi271_6 hl271_6
        replace p271 := eq_true p271
        replace q271 := eq_true q271
        have p273 : 0 ≤ (x4_1 : Int) := odt
        have q273 : x4_1 < (l0_6.length : Int) := odt
        obtain ⟨ad273, A273_4, c273_4, A273_5, c273_5, A273_6, c273_6, e273, hx273_0, hx273_1, hx273_2, hx273_3, hx273_4, hx273_5, hx273_6, hx273_7, hl273_4, hi273_4, hl273_5, hi273_5, hl273_6, hi273_6⟩ := at_T28 (Kd.V_reads' HO_265006.out).2.2 x4_1 p273 q273
        obtain rfl : ad271 = ad273 := (by injection e273)
        obtain ⟨ce273, hce273, hMe273, hcc273⟩ := Kd.V_get HO_265006.out z28 x4_1 p273 (by first | exact q273 | exact odt | (have e_ := (Kd.V_reads' HO_265006.out).1; omega))
        obtain ⟨ua273_4, uc273_4, ua273_5, uc273_5, ua273_6, uc273_6, rfl, ul273_4, ge273_4, ul273_5, ge273_5, ul273_6, ge273_6⟩ := k28_openF hMe273
        have hv273_4 := hcc273 4 _ rfl
        rw [add_field _ _ 4 (by omega)] at hv273_4
        replace hv273_4 := Option.some.inj (hv273_4.symm.trans hx273_4)
        injection hv273_4 with hva_ hvn_ hvc_
        rw [hva_] at ge273_4
        rw [hvc_] at ul273_4
        have HL273_4 := Aside0.mk (show Kd.V k73 73 _ w.heap.size _ _ ((rd_T28 l0_6 x4_1).f4) from Kd.V_mk ul273_4 ge273_4)
        clear hva_ hvn_ hvc_ ge273_4 ul273_4
        have hv273_5 := hcc273 5 _ rfl
        rw [add_field _ _ 5 (by omega)] at hv273_5
        replace hv273_5 := Option.some.inj (hv273_5.symm.trans hx273_5)
        injection hv273_5 with hva_ hvn_ hvc_
        rw [hva_] at ge273_5
        rw [hvc_] at ul273_5
        have HL273_5 := Aside0.mk (show Kd.V k68 68 _ w.heap.size _ _ ((rd_T28 l0_6 x4_1).f5) from Kd.V_mk ul273_5 ge273_5)
        clear hva_ hvn_ hvc_ ge273_5 ul273_5
        have hv273_6 := hcc273 6 _ rfl
        rw [add_field _ _ 6 (by omega)] at hv273_6
        replace hv273_6 := Option.some.inj (hv273_6.symm.trans hx273_6)
        injection hv273_6 with hva_ hvn_ hvc_
        rw [hva_] at ge273_6
        rw [hvc_] at ul273_6
        have HL273_6 := Aside0.mk (show Kd.V k28 28 _ w.heap.size _ _ ((rd_T28 l0_6 x4_1).f6) from Kd.V_mk ul273_6 ge273_6)
        clear hva_ hvn_ hvc_ ge273_6 ul273_6
        clear hcc273 hce273
        have HR273_4 := Aside0.mk hi273_4
        have HC273_4 := Aside0.mk hl273_4
        clear hi273_4 hl273_4
        have HR273_5 := Aside0.mk hi273_5
        have HC273_5 := Aside0.mk hl273_5
        clear hi273_5 hl273_5
        have HR273_6 := Aside0.mk hi273_6
        have HC273_6 := Aside0.mk hl273_6
        clear hi273_6 hl273_6
        replace p273 := eq_true p273
        replace q273 := eq_true q273
        have ea_ := Option.some.inj (hx271_4.symm.trans hx273_4)
        injection ea_ with ea_ en_ ec_
        subst ea_
        subst ec_
        clear en_
        have ea_ := Option.some.inj (hx271_5.symm.trans hx273_5)
        injection ea_ with ea_ en_ ec_
        subst ea_
        subst ec_
        clear en_
        have ea_ := Option.some.inj (hx271_6.symm.trans hx273_6)
        injection ea_ with ea_ en_ ec_
        subst ea_
        subst ec_
        clear en_
        go_wp2
        go_roundg k1
        case measure => have := HK1.out; omega
        case rel => exact ⟨(x3_1), (wrap64 (x4_1 + 1)), rG, rG, H', ⟨by have := HK1.out; omega⟩, ⟨by (with_reducible repeat (first | apply Kd.V_alloc | apply Kd.V_drewN | apply Kd.V_drew)); exact HO_265004.out⟩, ⟨by (with_reducible repeat (first | apply Kd.V_alloc | apply Kd.V_drewN | apply Kd.V_drew)); exact HO_265005.out⟩, ⟨by (with_reducible repeat (first | apply Kd.V_alloc | apply Kd.V_drewN | apply Kd.V_drew)); exact HO_265006.out⟩, ⟨by (with_reducible repeat (first | refine bN ?_ _|refine bD ?_|refine bA ?_ _)); exact BK264.out⟩, ⟨hB⟩⟩
     ·rw [if_neg c9] at H
      have c9b0 : decide (x4_1 < (l0_6.length : Int)) = false := decide_eq_false c9
      clear c9
      by_cases c18 : x3_1 = 1
      ·rw [if_pos c18] at H
       obtain ⟨c18b0, c18b1⟩ := eqT c18
       clear c18
       by_cases c19 : a0_1.toList = ([] : List UInt8)
       ·rw [if_pos c19] at H
        obtain ⟨c19b0, c19b1⟩ := eqT c19
        clear c19
        by_cases c20 : a0_2.toList = ([] : List UInt8)
        ·rw [if_pos c20] at H
         obtain ⟨c20b0, c20b1⟩ := eqT c20
         clear c20
         by_cases c21 : a0_3.toList = ([] : List UInt8)
         ·rw [if_pos c21] at H
          obtain ⟨c21b0, c21b1⟩ := eqT c21
          clear c21
          by_cases c22 : a0_7.toList = ([] : List UInt8)
          ·rw [if_pos c22] at H
           obtain ⟨c22b0, c22b1⟩ := eqT c22
           clear c22
           by_cases c23 : (l0_4.length : Int) = 0
           ·rw [if_pos c23] at H
            obtain ⟨c23b0, c23b1⟩ := eqT c23
            clear c23
            by_cases c24 : (l0_5.length : Int) = 0
            ·rw [if_pos c24] at H
             obtain ⟨c24b0, c24b1⟩ := eqT c24
             clear c24
             replace H := Option.bind_eq_some_iff.mp H
             obtain ⟨t270, A250, H⟩ := H
             try dsimp only at H
             have A25 := Aside0.mk A250
             clear A250
             obtain rfl := Option.some.inj H
             obtain ⟨hcz26_0, hcz26_1, hcz26_2, hcz26_3, hcz26_4, hcz26_5, hcz26_6, hcz26_7⟩ := bc8 BK264.out
             go_wp2_with (first | (go_at_call 46; (with_reducible refine (spec_l5Kids.calls k1 _ _ l0_6 0 t270 _ ?side1 ?side2 A25.out).mono ?_); (case side1 => repeat (first | exact (Kd.V_reads' HO_265006.out).2.2 | (with_reducible refine Kd.C_alloc ?_ _) | (with_reducible refine Kd.C_drewN ?_ _) | (with_reducible refine Kd.C_drew ?_))); (case side2 => exact (Kd.V_reads' HO_265006.out).2.1); rintro e w27 ⟨rfl, hb⟩; replace HO_265004 := Aside0.mk (Kd.V_below (by (with_reducible repeat (first | apply Kd.V_alloc | apply Kd.V_drewN | apply Kd.V_drew)); exact HO_265004.out) hb); replace HO_265005 := Aside0.mk (Kd.V_below (by (with_reducible repeat (first | apply Kd.V_alloc | apply Kd.V_drewN | apply Kd.V_drew)); exact HO_265005.out) hb); replace HO_265006 := Aside0.mk (Kd.V_below (by (with_reducible repeat (first | apply Kd.V_alloc | apply Kd.V_drewN | apply Kd.V_drew)); exact HO_265006.out) hb); replace BK264 := Aside0.mk (blk_below (g := gb264) (by (with_reducible repeat (first | refine bN ?_ _|refine bD ?_|refine bA ?_ _)); exact BK264.out) hb); replace HB := Aside0.mk (below_step hB hb); (try clear hb); (try clear hb2); (try clear hk); (try clear hi)))
             go_ret
             exact ⟨rE, hB⟩
            ·rw [if_neg c24] at H
             obtain ⟨c24b0, c24b1⟩ := eqF c24
             have c24b2 : ¬ (l0_5 = []) := fun h_ => c24 (by rw [h_]; rfl)
             obtain rfl := Option.some.inj H
             obtain ⟨hcz28_0, hcz28_1, hcz28_2, hcz28_3, hcz28_4, hcz28_5, hcz28_6, hcz28_7⟩ := bc8 BK264.out
             go_wp2
             go_ret
             exact ⟨rE, hB⟩
           ·rw [if_neg c23] at H
            obtain ⟨c23b0, c23b1⟩ := eqF c23
            have c23b2 : ¬ (l0_4 = []) := fun h_ => c23 (by rw [h_]; rfl)
            obtain rfl := Option.some.inj H
            obtain ⟨hcz29_0, hcz29_1, hcz29_2, hcz29_3, hcz29_4, hcz29_5, hcz29_6, hcz29_7⟩ := bc8 BK264.out
            go_wp2
            go_ret
            exact ⟨rE, hB⟩
          ·rw [if_neg c22] at H
           obtain ⟨c22b0, c22b1⟩ := eqF c22
           obtain rfl := Option.some.inj H
           obtain ⟨hcz30_0, hcz30_1, hcz30_2, hcz30_3, hcz30_4, hcz30_5, hcz30_6, hcz30_7⟩ := bc8 BK264.out
           go_wp2
           go_ret
           exact ⟨rE, hB⟩
         ·rw [if_neg c21] at H
          obtain ⟨c21b0, c21b1⟩ := eqF c21
          obtain rfl := Option.some.inj H
          obtain ⟨hcz31_0, hcz31_1, hcz31_2, hcz31_3, hcz31_4, hcz31_5, hcz31_6, hcz31_7⟩ := bc8 BK264.out
          go_wp2
          go_ret
          exact ⟨rE, hB⟩
        ·rw [if_neg c20] at H
         obtain ⟨c20b0, c20b1⟩ := eqF c20
         obtain rfl := Option.some.inj H
         obtain ⟨hcz32_0, hcz32_1, hcz32_2, hcz32_3, hcz32_4, hcz32_5, hcz32_6, hcz32_7⟩ := bc8 BK264.out
         go_wp2
         go_ret
         exact ⟨rE, hB⟩
       ·rw [if_neg c19] at H
        obtain ⟨c19b0, c19b1⟩ := eqF c19
        obtain rfl := Option.some.inj H
        obtain ⟨hcz33_0, hcz33_1, hcz33_2, hcz33_3, hcz33_4, hcz33_5, hcz33_6, hcz33_7⟩ := bc8 BK264.out
        go_wp2
        go_ret
        exact ⟨rE, hB⟩
      ·rw [if_neg c18] at H
       obtain ⟨c18b0, c18b1⟩ := eqF c18
       obtain rfl := Option.some.inj H
       obtain ⟨hcz34_0, hcz34_1, hcz34_2, hcz34_3, hcz34_4, hcz34_5, hcz34_6, hcz34_7⟩ := bc8 BK264.out
       go_wp2
       go_ret
       exact ⟨rE, hB⟩
  ·rw [if_neg c7] at H
   obtain ⟨c7b0, c7b1⟩ := eqF c7
   obtain ⟨y266, hy266⟩ : ∃ y_ : List (S28), y_ = (([(⟨a0_0, a0_1, a0_2, a0_3, l0_4, l0_5, l0_6, a0_7⟩ : S28)] : List (S28))) := ⟨_, rfl⟩
   replace H : ((spec_l5Kids.f k y266 0).bind fun t269 => (some t269)) = some r := by first | (rw [hy266]; with_reducible exact H) | (have H2_ := (Option.bind_some _ _).symm.trans H; rw [hy266]; with_reducible exact H2_) | (have H2_ := (Option.bind_some _ _).symm.trans H; with_reducible exact H2_) | with_reducible exact H | (rw [hy266]; exact H) | exact H
   have Ny266 := Aside0.mk hy266
   clear hy266
   replace H := Option.bind_eq_some_iff.mp H
   obtain ⟨t269, A350, H⟩ := H
   try dsimp only at H
   have A35 := Aside0.mk A350
   clear A350
   obtain rfl := Option.some.inj H
   obtain ⟨hcz36_0, hcz36_1, hcz36_2, hcz36_3, hcz36_4, hcz36_5, hcz36_6, hcz36_7⟩ := bc8 BK264.out
   go_wp2_with (first | ((with_reducible refine gate_dst (N := 12) rfl ?_); (try (refine gate_guard (by rfl) ?_; dsimp only)); refine Kd.N_lit k28 _ 28 ?hg (N' := 12) ?hd (xs := ([(⟨a0_0, a0_1, a0_2, a0_3, l0_4, l0_5, l0_6, a0_7⟩ : S28)] : List (S28))) (inner := [.int .i64 a0_0, .string a0_1, .string a0_2, .string a0_3, .slice A0_4 l0_4.length c0_4, .slice A0_5 l0_5.length c0_5, .slice A0_6 l0_6.length c0_6, .string a0_7]) (ok := (fun k_ => ((P0_4_ k_ ∨ P0_5_ k_ ∨ P0_6_ k_) ∨ w.heap.size ≤ k_) ∧ k_ ≠ gb264)) (okp := (fun k_ => ((P0_4_ k_ ∨ P0_5_ k_ ∨ P0_6_ k_) ∨ w.heap.size ≤ k_) ∧ k_ ≠ gb264)) ?hr ?hp (fun _ hk => hk) ((show ∀ k_, w5.heap.size ≤ k_ → (fun k_ => ((P0_4_ k_ ∨ P0_5_ k_ ∨ P0_6_ k_) ∨ w.heap.size ≤ k_) ∧ k_ ≠ gb264) k_ from fun k_ hk => ⟨(.inr (Nat.le_trans (below_size hB) hk)), Kd.freshB (g := gb264) (by (with_reducible repeat (first | refine bN ?_ _|refine bD ?_|refine bA ?_ _)); exact BK264.out) k_ hk⟩) _ (Nat.le_refl _)) (Below.refl _ _) (Nat.le_refl _) (by simp) ?_; (case hd => rfl); (case hg => rfl); (case hr => first | (go_simp; done) | (go_simp; rfl)); (case hp => exact (Reps.c8 (show Kd.FK k28 _ _ (⟨a0_0, a0_1, a0_2, a0_3, l0_4, l0_5, l0_6, a0_7⟩ : S28) [.int .i64 a0_0, .string a0_1, .string a0_2, .string a0_3, .slice A0_4 l0_4.length c0_4, .slice A0_5 l0_5.length c0_5, .slice A0_6 l0_6.length c0_6, .string a0_7] from (k28_mkF _ _ (⟨a0_0, a0_1, a0_2, a0_3, l0_4, l0_5, l0_6, a0_7⟩ : S28) (Kd.V_reads' (Kd.V_mono (ok' := (fun k_ => ((P0_4_ k_ ∨ P0_5_ k_ ∨ P0_6_ k_) ∨ w.heap.size ≤ k_) ∧ k_ ≠ gb264)) (HO0_4.out) (fun k_ hk => ⟨hk.1, hk.2⟩))).2.1 (Kd.V_F (Kd.V_mono (ok' := (fun k_ => ((P0_4_ k_ ∨ P0_5_ k_ ∨ P0_6_ k_) ∨ w.heap.size ≤ k_) ∧ k_ ≠ gb264)) (HO0_4.out) (fun k_ hk => ⟨hk.1, hk.2⟩))) (Kd.V_reads' (Kd.V_mono (ok' := (fun k_ => ((P0_4_ k_ ∨ P0_5_ k_ ∨ P0_6_ k_) ∨ w.heap.size ≤ k_) ∧ k_ ≠ gb264)) (HO0_5.out) (fun k_ hk => ⟨hk.1, hk.2⟩))).2.1 (Kd.V_F (Kd.V_mono (ok' := (fun k_ => ((P0_4_ k_ ∨ P0_5_ k_ ∨ P0_6_ k_) ∨ w.heap.size ≤ k_) ∧ k_ ≠ gb264)) (HO0_5.out) (fun k_ hk => ⟨hk.1, hk.2⟩))) (Kd.V_reads' (Kd.V_mono (ok' := (fun k_ => ((P0_4_ k_ ∨ P0_5_ k_ ∨ P0_6_ k_) ∨ w.heap.size ≤ k_) ∧ k_ ≠ gb264)) (HO0_6.out) (fun k_ hk => ⟨hk.1, hk.2⟩))).2.1 (Kd.V_F (Kd.V_mono (ok' := (fun k_ => ((P0_4_ k_ ∨ P0_5_ k_ ∨ P0_6_ k_) ∨ w.heap.size ≤ k_) ∧ k_ ≠ gb264)) (HO0_6.out) (fun k_ hk => ⟨hk.1, hk.2⟩))))) (Reps.none _ _))); intro v267 w37 ho38 hb hg_ hnew_; clear hg_ hnew_; (first | rw [← Ny266.out] at ho38 | (simp only [Int.reduceToNat] at ho38; rw [← Ny266.out] at ho38)); replace HO0_4 := Aside0.mk (Kd.V_elder' (by (with_reducible repeat (first | apply Kd.V_alloc | apply Kd.V_drewN | apply Kd.V_drew)); exact HO0_4.out) (Kd.N_base ho38) hb); replace HO0_5 := Aside0.mk (Kd.V_elder' (by (with_reducible repeat (first | apply Kd.V_alloc | apply Kd.V_drewN | apply Kd.V_drew)); exact HO0_5.out) (Kd.N_base ho38) hb); replace HO0_6 := Aside0.mk (Kd.V_elder' (by (with_reducible repeat (first | apply Kd.V_alloc | apply Kd.V_drewN | apply Kd.V_drew)); exact HO0_6.out) (Kd.N_base ho38) hb); have HO268 := Aside0.mk (Kd.N_lower ho38 (below_size hB)); replace BK264 := Aside0.mk (blk_below (g := gb264) (by (with_reducible repeat (first | refine bN ?_ _|refine bD ?_|refine bA ?_ _)); exact BK264.out) hb); replace HB := Aside0.mk (below_step hB hb); clear hb ho38; obtain ⟨Ao39, co39, eo39⟩ := Kd.N_slice HO268.out; subst eo39) | ((with_reducible refine gate_callee (f := 46) rfl ?_); refine goesL_ (some 13) rfl rfl Tryz.func46 (by kernel_rfl) rfl #[.slice Ao39 y266.length co39, .int .i64 0] rfl mA ?_; (with_reducible refine (spec_l5Kids.calls k _ _ y266 0 t269 _ ?side1 ?side2 A35.out).mono ?_); (case side1 => repeat (first | exact (Kd.N_reads' HO268.out).2.2 | (with_reducible refine Kd.C_alloc ?_ _) | (with_reducible refine Kd.C_drewN ?_ _) | (with_reducible refine Kd.C_drew ?_))); (case side2 => exact (Kd.N_reads' HO268.out).2.1); rintro e w40 ⟨rfl, hb⟩; refine ⟨_, rfl, ?_⟩; replace HO0_4 := Aside0.mk (Kd.V_below (by (with_reducible repeat (first | apply Kd.V_alloc | apply Kd.V_drewN | apply Kd.V_drew)); exact HO0_4.out) hb); replace HO0_5 := Aside0.mk (Kd.V_below (by (with_reducible repeat (first | apply Kd.V_alloc | apply Kd.V_drewN | apply Kd.V_drew)); exact HO0_5.out) hb); replace HO0_6 := Aside0.mk (Kd.V_below (by (with_reducible repeat (first | apply Kd.V_alloc | apply Kd.V_drewN | apply Kd.V_drew)); exact HO0_6.out) hb); replace HO268 := Aside0.mk (Kd.N_below (by (with_reducible repeat (first | apply Kd.N_alloc | apply Kd.N_drewN | apply Kd.N_drew)); exact HO268.out) hb); replace BK264 := Aside0.mk (blk_below (g := gb264) (by (with_reducible repeat (first | refine bN ?_ _|refine bD ?_|refine bA ?_ _)); exact BK264.out) hb); replace HB := Aside0.mk (below_step hB hb); (try clear hb); (try clear hb2); (try clear hk); (try clear hi)))
   go_ret
   exact ⟨rE, hB⟩

end Go.Proofs.YtalionlkjdgciaaGreatDoor.PA
