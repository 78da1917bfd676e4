-- Written by the session's program hprint.py, over the kit's print program. Lean checks it.
import Derived.Test.YtalionlkjdgciaaGreatDoorPLx0
import Derived.Test.YtalionlkjdgciaaGreatDoorPLx1
import Derived.Test.YtalionlkjdgciaaGreatDoorPLx7
namespace Go.Proofs.YtalionlkjdgciaaGreatDoor.PL
open Go.RowKit Go.Proofs.YtalionlkjdgciaaGreatDoorW.PrintWords Go.Proofs.YtalionlkjdgciaaGreatDoorW.PrintLast Go.Proofs.YtalionlkjdgciaaGreatDoorW.PrintMore
attribute [local go_sem] max2_int min2_int max_two min_two max_three min_three max_four min_four   -- for this text's walks alone
set_option linter.unusedVariables false
set_option linter.unusedSimpArgs false
set_option maxHeartbeats 8000000
set_option maxRecDepth 100000

/-! ### spec_NodeOk: function 17 -/
def spec_NodeOk.l0 : Nat → Int → Int → Int → ByteArray → ByteArray → ByteArray → List (S73) → List (S68) → List (S28) → ByteArray → Option (Bool)
 | 0, _, _, _, _, _, _, _, _, _, _ => none
 | k + 1, x3, x4, x194000, x194001, x194002, x194003, x194004, x194005, x194006, x194007 => if x4 < (x194006.length : Int) then (if 0 ≤ x4 then (if ((rd_T28 x194006 x4).f0) = 1 then (if ((rd_T28 x194006 x4).f0) = 2 then (some false) else (spec_NodeOk.l0 k (wrap64 (x3 + 1)) (wrap64 (x4 + 1)) x194000 x194001 x194002 x194003 x194004 x194005 x194006 x194007)) else (if ((rd_T28 x194006 x4).f0) = 2 then (some false) else (spec_NodeOk.l0 k x3 (wrap64 (x4 + 1)) x194000 x194001 x194002 x194003 x194004 x194005 x194006 x194007))) else (none)) else (if x3 = 1 then (if x194001.toList = ([] : List UInt8) then (if x194002.toList = ([] : List UInt8) then (if x194003.toList = ([] : List UInt8) then (if x194007.toList = ([] : List UInt8) then (if (x194004.length : Int) = 0 then (if (x194005.length : Int) = 0 then ((spec_l5Kids.f k x194006 0).bind fun t199 => (some t199)) else (some false)) else (some false)) else (some false)) else (some false)) else (some false)) else (some false)) else (some false))
def spec_NodeOk.f (k : Nat) (a0_0 : Int) (a0_1 : ByteArray) (a0_2 : ByteArray) (a0_3 : ByteArray) (l0_4 : List (S73)) (l0_5 : List (S68)) (l0_6 : List (S28)) (a0_7 : ByteArray) : Option (Bool) := (spec_CountOf.f k a0_0 a0_1 a0_2 a0_3 l0_4 l0_5 l0_6 a0_7).bind fun t194 => (if t194 > 60 then (some false) else (if a0_0 = 0 then (spec_NodeOk.l0 k 0 0 a0_0 a0_1 a0_2 a0_3 l0_4 l0_5 l0_6 a0_7) else ((spec_l5Kids.f k (([(⟨a0_0, a0_1, a0_2, a0_3, l0_4, l0_5, l0_6, a0_7⟩ : S28)] : List (S28))) 0).bind fun t198 => (some t198))))
theorem spec_NodeOk.calls (k : Nat) (a0_0 : Int) (a0_1 : ByteArray) (a0_2 : ByteArray) (a0_3 : ByteArray) (P0_4_ : Nat → Prop) (A0_4 : Option Addr) (c0_4 : Nat) (l0_4 : List (S73)) (P0_5_ : Nat → Prop) (A0_5 : Option Addr) (c0_5 : Nat) (l0_5 : List (S68)) (P0_6_ : Nat → Prop) (A0_6 : Option Addr) (c0_6 : Nat) (l0_6 : List (S28)) (a0_7 : ByteArray) (r : Bool) (w : World) (hs0_4 : Kd.V k73 73 w w.heap.size (fun k_ => P0_4_ k_) (.slice A0_4 l0_4.length c0_4) l0_4) (hs0_5 : Kd.V k68 68 w w.heap.size (fun k_ => P0_5_ k_) (.slice A0_5 l0_5.length c0_5) l0_5) (hs0_6 : Kd.V k28 28 w w.heap.size (fun k_ => P0_6_ k_) (.slice A0_6 l0_6.length c0_6) l0_6) (h : spec_NodeOk.f k a0_0 a0_1 a0_2 a0_3 l0_4 l0_5 l0_6 a0_7 = some r) :
  Calls Tryz.prog 17 #[.agg #[.int .i64 a0_0, .string a0_1, .string a0_2, .string a0_3, .slice A0_4 l0_4.length c0_4, .slice A0_5 l0_5.length c0_5, .slice A0_6 l0_6.length c0_6, .string a0_7]] w fun e w' => e = .returned (.bool r) ∧ Below w.heap.size w w' := by
 have hu28 := Tryz.underlying28
 have HO0_4 := Aside0.mk (show Kd.V k73 73 w w.heap.size (fun k_ => ((P0_4_ k_ ∨ P0_5_ k_ ∨ P0_6_ k_) ∨ w.heap.size ≤ k_)) (.slice A0_4 l0_4.length c0_4) l0_4 from Kd.V_mono hs0_4 (fun k_ hk => .inl (.inl hk)))
 have HO0_5 := Aside0.mk (show Kd.V k68 68 w w.heap.size (fun k_ => ((P0_4_ k_ ∨ P0_5_ k_ ∨ P0_6_ k_) ∨ w.heap.size ≤ k_)) (.slice A0_5 l0_5.length c0_5) l0_5 from Kd.V_mono hs0_5 (fun k_ hk => .inl (.inr (.inl hk))))
 have HO0_6 := Aside0.mk (show Kd.V k28 28 w w.heap.size (fun k_ => ((P0_4_ k_ ∨ P0_5_ k_ ∨ P0_6_ k_) ∨ w.heap.size ≤ k_)) (.slice A0_6 l0_6.length c0_6) l0_6 from Kd.V_mono hs0_6 (fun k_ hk => .inl (.inr (.inr hk))))
 have HB := Aside0.mk (Below.refl w.heap.size w)
 have H : ((spec_CountOf.f k a0_0 a0_1 a0_2 a0_3 l0_4 l0_5 l0_6 a0_7).bind fun t194 => (if t194 > 60 then (some false) else (if a0_0 = 0 then (spec_NodeOk.l0 k 0 0 a0_0 a0_1 a0_2 a0_3 l0_4 l0_5 l0_6 a0_7) else ((spec_l5Kids.f k (([(⟨a0_0, a0_1, a0_2, a0_3, l0_4, l0_5, l0_6, a0_7⟩ : S28)] : List (S28))) 0).bind fun t198 => (some t198))))) = some r := h
 clear h
 replace H := Option.bind_eq_some_iff.mp H
 obtain ⟨t194, A20, H⟩ := H
 try dsimp only at H
 have A2 := Aside0.mk A20
 clear A20
 go_enter Tryz.func17, Tryz.ntmps17
 go_wp2_with (first | ((with_reducible refine gate_dst (N := 1) rfl ?_); (try (refine gate_guard (by rfl) ?_; dsimp only)); refine box_event ?hg (N := 1) ?hd (cs := #[.int .i64 a0_0, .string a0_1, .string a0_2, .string a0_3, .slice A0_4 l0_4.length c0_4, .slice A0_5 l0_5.length c0_5, .slice A0_6 l0_6.length c0_6, .string a0_7]) (t := 28) ?hr ?_; (case hd => rfl); (case hg => rfl); (case hr => first | (go_simp; done) | (go_simp; rfl)); intro gb193 hg w3 hbox hb; replace HO0_4 := Aside0.mk (Kd.V_below (Kd.V_elderB (by (with_reducible repeat (first | apply Kd.V_alloc | apply Kd.V_drewN | apply Kd.V_drew)); exact HO0_4.out) gb193 (Nat.le_of_eq hg.symm)) hb); replace HO0_5 := Aside0.mk (Kd.V_below (Kd.V_elderB (by (with_reducible repeat (first | apply Kd.V_alloc | apply Kd.V_drewN | apply Kd.V_drew)); exact HO0_5.out) gb193 (Nat.le_of_eq hg.symm)) hb); replace HO0_6 := Aside0.mk (Kd.V_below (Kd.V_elderB (by (with_reducible repeat (first | apply Kd.V_alloc | apply Kd.V_drewN | apply Kd.V_drew)); exact HO0_6.out) gb193 (Nat.le_of_eq hg.symm)) hb); have BK193 := Aside0.mk (hbox); have GW193 := Aside0.mk ((by rw [hg]; exact (below_size hB) : w.heap.size ≤ gb193)); have GE193 := Aside0.mk ((by rw [hg]; exact (below_size hB) : w.heap.size ≤ gb193)); replace HB := Aside0.mk (below_step hB hb); clear hb hbox hg; obtain ⟨hcz4_0, hcz4_1, hcz4_2, hcz4_3, hcz4_4, hcz4_5, hcz4_6, hcz4_7⟩ := bc8 BK193.out) | ((with_reducible refine gate_callee (f := 20) rfl ?_); refine goesL_ (some 6) rfl rfl Tryz.func20 (by kernel_rfl) rfl #[.agg #[.int .i64 a0_0, .string a0_1, .string a0_2, .string a0_3, .slice A0_4 l0_4.length c0_4, .slice A0_5 l0_5.length c0_5, .slice A0_6 l0_6.length c0_6, .string a0_7]] rfl mA ?_; (with_reducible refine (spec_CountOf.calls k a0_0 a0_1 a0_2 a0_3 _ _ l0_4 _ _ l0_5 _ _ l0_6 a0_7 t194 _ ?side1 ?side2 ?side3 ?side4 ?side5 ?side6 A2.out).mono ?_); (case side1 => repeat (first | exact (Kd.V_reads' HO0_4.out).2.2 | (with_reducible refine Kd.C_alloc ?_ _) | (with_reducible refine Kd.C_drewN ?_ _) | (with_reducible refine Kd.C_drew ?_))); (case side2 => exact (Kd.V_reads' HO0_4.out).2.1); (case side3 => repeat (first | exact (Kd.V_reads' HO0_5.out).2.2 | (with_reducible refine Kd.C_alloc ?_ _) | (with_reducible refine Kd.C_drewN ?_ _) | (with_reducible refine Kd.C_drew ?_))); (case side4 => exact (Kd.V_reads' HO0_5.out).2.1); (case side5 => repeat (first | exact (Kd.V_reads' HO0_6.out).2.2 | (with_reducible refine Kd.C_alloc ?_ _) | (with_reducible refine Kd.C_drewN ?_ _) | (with_reducible refine Kd.C_drew ?_))); (case side6 => exact (Kd.V_reads' HO0_6.out).2.1); rintro e w5 ⟨rfl, hb⟩; refine ⟨_, rfl, ?_⟩; replace HO0_4 := Aside0.mk (Kd.V_below (by (with_reducible repeat (first | apply Kd.V_alloc | apply Kd.V_drewN | apply Kd.V_drew)); exact HO0_4.out) hb); replace HO0_5 := Aside0.mk (Kd.V_below (by (with_reducible repeat (first | apply Kd.V_alloc | apply Kd.V_drewN | apply Kd.V_drew)); exact HO0_5.out) hb); replace HO0_6 := Aside0.mk (Kd.V_below (by (with_reducible repeat (first | apply Kd.V_alloc | apply Kd.V_drewN | apply Kd.V_drew)); exact HO0_6.out) hb); replace BK193 := Aside0.mk (blk_below (g := gb193) (by (with_reducible repeat (first | refine bN ?_ _|refine bD ?_|refine bA ?_ _)); exact BK193.out) hb); replace HB := Aside0.mk (below_step hB hb); (try clear hb); (try clear hb2); (try clear hk); (try clear hi); refine halt_ ?_; intro q_ hq_))
 obtain ⟨rfl⟩ := hq_
 by_cases c6 : t194 > 60
 ·rw [if_pos c6] at H
  have c6b0 : decide (60 < t194) = true := decide_eq_true c6
  clear c6
  obtain rfl := Option.some.inj H
  go_wp2
  go_ret
  exact ⟨rE, hB⟩
 ·rw [if_neg c6] at H
  have c6b0 : decide (60 < t194) = false := decide_eq_false c6
  clear c6
  by_cases c7 : a0_0 = 0
  ·rw [if_pos c7] at H
   obtain ⟨c7b0, c7b1⟩ := eqT c7
   clear c7
   have H' := Aside0.mk H
   clear H
   obtain ⟨hcz8_0, hcz8_1, hcz8_2, hcz8_3, hcz8_4, hcz8_5, hcz8_6, hcz8_7⟩ := bc8 BK193.out
   go_wp2
   go_loopg [3, 4] k (fun kq v3 v4 w' => ∃ (x3_1 : Int) (x4_1 : Int), v3 = .int .i64 x3_1 ∧ v4 = .int .i64 x4_1 ∧ Aside0 (spec_NodeOk.l0 kq x3_1 x4_1 a0_0 a0_1 a0_2 a0_3 l0_4 l0_5 l0_6 a0_7 = some r) ∧ Aside0 (kq ≤ k) ∧ Aside0 (Kd.V k73 73 w' w.heap.size (fun k_ => ((P0_4_ k_ ∨ P0_5_ k_ ∨ P0_6_ k_) ∨ w.heap.size ≤ k_) ∧ k_ ≠ gb193) (.slice A0_4 l0_4.length c0_4) l0_4) ∧ Aside0 (Kd.V k68 68 w' w.heap.size (fun k_ => ((P0_4_ k_ ∨ P0_5_ k_ ∨ P0_6_ k_) ∨ w.heap.size ≤ k_) ∧ k_ ≠ gb193) (.slice A0_5 l0_5.length c0_5) l0_5) ∧ Aside0 (Kd.V k28 28 w' w.heap.size (fun k_ => ((P0_4_ k_ ∨ P0_5_ k_ ∨ P0_6_ k_) ∨ w.heap.size ≤ k_) ∧ k_ ≠ gb193) (.slice A0_6 l0_6.length c0_6) l0_6) ∧ Aside0 (w'.heap[gb193]? = some (.cells #[.int .i64 a0_0, .string a0_1, .string a0_2, .string a0_3, (.slice A0_4 l0_4.length c0_4), (.slice A0_5 l0_5.length c0_5), (.slice A0_6 l0_6.length c0_6), .string a0_7] 28 (0, 0))) ∧ Aside0 (Below w.heap.size w w'))
   case atStart => exact ⟨(0), (0), rG, rG, H', ⟨Nat.le_refl _⟩, ⟨by (with_reducible repeat (first | apply Kd.V_alloc | apply Kd.V_drewN | apply Kd.V_drew)); exact HO0_4.out⟩, ⟨by (with_reducible repeat (first | apply Kd.V_alloc | apply Kd.V_drewN | apply Kd.V_drew)); exact HO0_5.out⟩, ⟨by (with_reducible repeat (first | apply Kd.V_alloc | apply Kd.V_drewN | apply Kd.V_drew)); exact HO0_6.out⟩, ⟨by (with_reducible repeat (first | refine bN ?_ _|refine bD ?_|refine bA ?_ _)); exact BK193.out⟩, ⟨hB⟩⟩
   case round =>
    clear H'
    try clear c7; try clear c7b1; try clear c7b0; try clear c6; try clear c6b0
    try clear hcz4_0 hcz4_1 hcz4_2 hcz4_3 hcz4_4 hcz4_5 hcz4_6 hcz4_7
    try clear hcz8_0 hcz8_1 hcz8_2 hcz8_3 hcz8_4 hcz8_5 hcz8_6 hcz8_7
    obtain ⟨x3_1, x4_1, rfl, rfl, HA, HK1, HO_194004, HO_194005, HO_194006, BK193, HB⟩ := hrel
    cases gk with
    | zero => exact absurd HA.out (by simp [spec_NodeOk.l0])
    | succ k1 =>
     have H := HA.out
     clear HA
     simp only [spec_NodeOk.l0] at H
     by_cases c9 : x4_1 < (l0_6.length : Int)
     ·rw [if_pos c9] at H
      have c9b0 : decide (x4_1 < (l0_6.length : Int)) = true := decide_eq_true c9
      clear c9
      obtain ⟨c10, H⟩ := if_som H
      have c10b0 : decide (0 ≤ x4_1) = true := decide_eq_true c10
      clear c10
      by_cases c11 : ((rd_T28 l0_6 x4_1).f0) = 1
      ·rw [if_pos c11] at H
       obtain ⟨c11b0, c11b1⟩ := eqT c11
       clear c11
       by_cases c12 : ((rd_T28 l0_6 x4_1).f0) = 2
       ·rw [if_pos c12] at H
        obtain ⟨c12b0, c12b1⟩ := eqT c12
        clear c12
        obtain rfl := Option.some.inj H
        obtain ⟨hcz13_0, hcz13_1, hcz13_2, hcz13_3, hcz13_4, hcz13_5, hcz13_6, hcz13_7⟩ := bc8 BK193.out
        have p200 : 0 ≤ (x4_1 : Int) := odt
        have q200 : x4_1 < (l0_6.length : Int) := odt
        obtain ⟨ad200, A200_4, c200_4, A200_5, c200_5, A200_6, c200_6, e200, hx200_0, hx200_1, hx200_2, hx200_3, hx200_4, hx200_5, hx200_6, hx200_7, hl200_4, hi200_4, hl200_5, hi200_5, hl200_6, hi200_6⟩ := at_T28 (Kd.V_reads' HO_194006.out).2.2 x4_1 p200 q200
        cases e200
        obtain ⟨ce200, hce200, hMe200, hcc200⟩ := Kd.V_get HO_194006.out z28 x4_1 p200 (by first | exact q200 | exact odt | (have e_ := (Kd.V_reads' HO_194006.out).1; omega))
        obtain ⟨ua200_4, uc200_4, ua200_5, uc200_5, ua200_6, uc200_6, rfl, ul200_4, ge200_4, ul200_5, ge200_5, ul200_6, ge200_6⟩ := k28_openF hMe200
        have hv200_4 := hcc200 4 _ rfl
        rw [add_field _ _ 4 (by omega)] at hv200_4
        replace hv200_4 := Option.some.inj (hv200_4.symm.trans hx200_4)
        injection hv200_4 with hva_ hvn_ hvc_
        rw [hva_] at ge200_4
        rw [hvc_] at ul200_4
        have HL200_4 := Aside0.mk (show Kd.V k73 73 _ w.heap.size _ _ ((rd_T28 l0_6 x4_1).f4) from Kd.V_mk ul200_4 ge200_4)
        clear hva_ hvn_ hvc_ ge200_4 ul200_4
        have hv200_5 := hcc200 5 _ rfl
        rw [add_field _ _ 5 (by omega)] at hv200_5
        replace hv200_5 := Option.some.inj (hv200_5.symm.trans hx200_5)
        injection hv200_5 with hva_ hvn_ hvc_
        rw [hva_] at ge200_5
        rw [hvc_] at ul200_5
        have HL200_5 := Aside0.mk (show Kd.V k68 68 _ w.heap.size _ _ ((rd_T28 l0_6 x4_1).f5) from Kd.V_mk ul200_5 ge200_5)
        clear hva_ hvn_ hvc_ ge200_5 ul200_5
        have hv200_6 := hcc200 6 _ rfl
        rw [add_field _ _ 6 (by omega)] at hv200_6
        replace hv200_6 := Option.some.inj (hv200_6.symm.trans hx200_6)
        injection hv200_6 with hva_ hvn_ hvc_
        rw [hva_] at ge200_6
        rw [hvc_] at ul200_6
        have HL200_6 := Aside0.mk (show Kd.V k28 28 _ w.heap.size _ _ ((rd_T28 l0_6 x4_1).f6) from Kd.V_mk ul200_6 ge200_6)
        clear hva_ hvn_ hvc_ ge200_6 ul200_6
        clear hcc200 hce200
        have HR200_4 := Aside0.mk hi200_4
        have HC200_4 := Aside0.mk hl200_4
        clear hi200_4 hl200_4
        have HR200_5 := Aside0.mk hi200_5
        have HC200_5 := Aside0.mk hl200_5
        clear hi200_5 hl200_5
        have HR200_6 := Aside0.mk hi200_6
        have HC200_6 := Aside0.mk hl200_6
        clear hi200_6 hl200_6
        replace p200 := eq_true p200
        replace q200 := eq_true q200
        have p201 : 0 ≤ (x4_1 : Int) := odt
        have q201 : x4_1 < (l0_6.length : Int) := odt
        obtain ⟨ad201, A201_4, c201_4, A201_5, c201_5, A201_6, c201_6, e201, hx201_0, hx201_1, hx201_2, hx201_3, hx201_4, hx201_5, hx201_6, hx201_7, hl201_4, hi201_4, hl201_5, hi201_5, hl201_6, hi201_6⟩ := at_T28 (Kd.V_reads' HO_194006.out).2.2 x4_1 p201 q201
        obtain rfl : ad200 = ad201 := (by injection e201)
        obtain ⟨ce201, hce201, hMe201, hcc201⟩ := Kd.V_get HO_194006.out z28 x4_1 p201 (by first | exact q201 | exact odt | (have e_ := (Kd.V_reads' HO_194006.out).1; omega))
        obtain ⟨ua201_4, uc201_4, ua201_5, uc201_5, ua201_6, uc201_6, rfl, ul201_4, ge201_4, ul201_5, ge201_5, ul201_6, ge201_6⟩ := k28_openF hMe201
        have hv201_4 := hcc201 4 _ rfl
        rw [add_field _ _ 4 (by omega)] at hv201_4
        replace hv201_4 := Option.some.inj (hv201_4.symm.trans hx201_4)
        injection hv201_4 with hva_ hvn_ hvc_
        rw [hva_] at ge201_4
        rw [hvc_] at ul201_4
        have HL201_4 := Aside0.mk (show Kd.V k73 73 _ w.heap.size _ _ ((rd_T28 l0_6 x4_1).f4) from Kd.V_mk ul201_4 ge201_4)
        clear hva_ hvn_ hvc_ ge201_4 ul201_4
        have hv201_5 := hcc201 5 _ rfl
        rw [add_field _ _ 5 (by omega)] at hv201_5
        replace hv201_5 := Option.some.inj (hv201_5.symm.trans hx201_5)
        injection hv201_5 with hva_ hvn_ hvc_
        rw [hva_] at ge201_5
        rw [hvc_] at ul201_5
        have HL201_5 := Aside0.mk (show Kd.V k68 68 _ w.heap.size _ _ ((rd_T28 l0_6 x4_1).f5) from Kd.V_mk ul201_5 ge201_5)
        clear hva_ hvn_ hvc_ ge201_5 ul201_5
        have hv201_6 := hcc201 6 _ rfl
        rw [add_field _ _ 6 (by omega)] at hv201_6
        replace hv201_6 := Option.some.inj (hv201_6.symm.trans hx201_6)
        injection hv201_6 with hva_ hvn_ hvc_
        rw [hva_] at ge201_6
        rw [hvc_] at ul201_6
        have HL201_6 := Aside0.mk (show Kd.V k28 28 _ w.heap.size _ _ ((rd_T28 l0_6 x4_1).f6) from Kd.V_mk ul201_6 ge201_6)
        clear hva_ hvn_ hvc_ ge201_6 ul201_6
        clear hcc201 hce201
        have HR201_4 := Aside0.mk hi201_4
        have HC201_4 := Aside0.mk hl201_4
        clear hi201_4 hl201_4
        have HR201_5 := Aside0.mk hi201_5
        have HC201_5 := Aside0.mk hl201_5
        clear hi201_5 hl201_5
        have HR201_6 := Aside0.mk hi201_6
        have HC201_6 := Aside0.mk hl201_6
        clear hi201_6 hl201_6
        replace p201 := eq_true p201
        replace q201 := eq_true q201
        have ea_ := Option.some.inj (hx200_4.symm.trans hx201_4)
        injection ea_ with ea_ en_ ec_
        subst ea_
        subst ec_
        clear en_
        have ea_ := Option.some.inj (hx200_5.symm.trans hx201_5)
        injection ea_ with ea_ en_ ec_
        subst ea_
        subst ec_
        clear en_
        have ea_ := Option.some.inj (hx200_6.symm.trans hx201_6)
        injection ea_ with ea_ en_ ec_
        subst ea_
        subst ec_
        clear en_
        go_wp2
        go_ret
        exact ⟨rE, hB⟩
       ·rw [if_neg c12] at H
        obtain ⟨c12b0, c12b1⟩ := eqF c12
        have H' := Aside0.mk H
        clear H
        obtain ⟨hcz14_0, hcz14_1, hcz14_2, hcz14_3, hcz14_4, hcz14_5, hcz14_6, hcz14_7⟩ := bc8 BK193.out
        have p200 : 0 ≤ (x4_1 : Int) := odt
        have q200 : x4_1 < (l0_6.length : Int) := odt
        obtain ⟨ad200, A200_4, c200_4, A200_5, c200_5, A200_6, c200_6, e200, hx200_0, hx200_1, hx200_2, hx200_3, hx200_4, hx200_5, hx200_6, hx200_7, hl200_4, hi200_4, hl200_5, hi200_5, hl200_6, hi200_6⟩ := at_T28 (Kd.V_reads' HO_194006.out).2.2 x4_1 p200 q200
        cases e200
        obtain ⟨ce200, hce200, hMe200, hcc200⟩ := Kd.V_get HO_194006.out z28 x4_1 p200 (by first | exact q200 | exact odt | (have e_ := (Kd.V_reads' HO_194006.out).1; omega))
        obtain ⟨ua200_4, uc200_4, ua200_5, uc200_5, ua200_6, uc200_6, rfl, ul200_4, ge200_4, ul200_5, ge200_5, ul200_6, ge200_6⟩ := k28_openF hMe200
        have hv200_4 := hcc200 4 _ rfl
        rw [add_field _ _ 4 (by omega)] at hv200_4
        replace hv200_4 := Option.some.inj (hv200_4.symm.trans hx200_4)
        injection hv200_4 with hva_ hvn_ hvc_
        rw [hva_] at ge200_4
        rw [hvc_] at ul200_4
        have HL200_4 := Aside0.mk (show Kd.V k73 73 _ w.heap.size _ _ ((rd_T28 l0_6 x4_1).f4) from Kd.V_mk ul200_4 ge200_4)
        clear hva_ hvn_ hvc_ ge200_4 ul200_4
        have hv200_5 := hcc200 5 _ rfl
        rw [add_field _ _ 5 (by omega)] at hv200_5
        replace hv200_5 := Option.some.inj (hv200_5.symm.trans hx200_5)
        injection hv200_5 with hva_ hvn_ hvc_
        rw [hva_] at ge200_5
        rw [hvc_] at ul200_5
        have HL200_5 := Aside0.mk (show Kd.V k68 68 _ w.heap.size _ _ ((rd_T28 l0_6 x4_1).f5) from Kd.V_mk ul200_5 ge200_5)
        clear hva_ hvn_ hvc_ ge200_5 ul200_5
        have hv200_6 := hcc200 6 _ rfl
        rw [add_field _ _ 6 (by omega)] at hv200_6
        replace hv200_6 := Option.some.inj (hv200_6.symm.trans hx200_6)
        injection hv200_6 with hva_ hvn_ hvc_
        rw [hva_] at ge200_6
        rw [hvc_] at ul200_6
        have HL200_6 := Aside0.mk (show Kd.V k28 28 _ w.heap.size _ _ ((rd_T28 l0_6 x4_1).f6) from Kd.V_mk ul200_6 ge200_6)
        clear hva_ hvn_ hvc_ ge200_6 ul200_6
        clear hcc200 hce200
        have HR200_4 := Aside0.mk hi200_4
        have HC200_4 := Aside0.mk hl200_4
        clear hi200_4 hl200_4
        have HR200_5 := Aside0.mk hi200_5
        have HC200_5 := Aside0.mk hl200_5
        clear hi200_5 hl200_5
        have HR200_6 := Aside0.mk hi200_6
        have HC200_6 := Aside0.mk hl200_6
        clear hi200_6 hl200_6
        replace p200 := eq_true p200
        replace q200 := eq_true q200
        have p201 : 0 ≤ (x4_1 : Int) := odt
        have q201 : x4_1 < (l0_6.length : Int) := odt
        obtain ⟨ad201, A201_4, c201_4, A201_5, c201_5, A201_6, c201_6, e201, hx201_0, hx201_1, hx201_2, hx201_3, hx201_4, hx201_5, hx201_6, hx201_7, hl201_4, hi201_4, hl201_5, hi201_5, hl201_6, hi201_6⟩ := at_T28 (Kd.V_reads' HO_194006.out).2.2 x4_1 p201 q201
        obtain rfl : ad200 = ad201 := (by injection e201)
        obtain ⟨ce201, hce201, hMe201, hcc201⟩ := Kd.V_get HO_194006.out z28 x4_1 p201 (by first | exact q201 | exact odt | (have e_ := (Kd.V_reads' HO_194006.out).1; omega))
        obtain ⟨ua201_4, uc201_4, ua201_5, uc201_5, ua201_6, uc201_6, rfl, ul201_4, ge201_4, ul201_5, ge201_5, ul201_6, ge201_6⟩ := k28_openF hMe201
        have hv201_4 := hcc201 4 _ rfl
        rw [add_field _ _ 4 (by omega)] at hv201_4
        replace hv201_4 := Option.some.inj (hv201_4.symm.trans hx201_4)
        injection hv201_4 with hva_ hvn_ hvc_
        rw [hva_] at ge201_4
        rw [hvc_] at ul201_4
        have HL201_4 := Aside0.mk (show Kd.V k73 73 _ w.heap.size _ _ ((rd_T28 l0_6 x4_1).f4) from Kd.V_mk ul201_4 ge201_4)
        clear hva_ hvn_ hvc_ ge201_4 ul201_4
        have hv201_5 := hcc201 5 _ rfl
        rw [add_field _ _ 5 (by omega)] at hv201_5
        replace hv201_5 := Option.some.inj (hv201_5.symm.trans hx201_5)
        injection hv201_5 with hva_ hvn_ hvc_
        rw [hva_] at ge201_5
        rw [hvc_] at ul201_5
        have HL201_5 := Aside0.mk (show Kd.V k68 68 _ w.heap.size _ _ ((rd_T28 l0_6 x4_1).f5) from Kd.V_mk ul201_5 ge201_5)
        clear hva_ hvn_ hvc_ ge201_5 ul201_5
        have hv201_6 := hcc201 6 _ rfl
        rw [add_field _ _ 6 (by omega)] at hv201_6
        replace hv201_6 := Option.some.inj (hv201_6.symm.trans hx201_6)
        injection hv201_6 with hva_ hvn_ hvc_
        rw [hva_] at ge201_6
        rw [hvc_] at ul201_6
        have HL201_6 := Aside0.mk (show Kd.V k28 28 _ w.heap.size _ _ ((rd_T28 l0_6 x4_1).f6) from Kd.V_mk ul201_6 ge201_6)
        clear hva_ hvn_ hvc_ ge201_6 ul201_6
        clear hcc201 hce201
        have HR201_4 := Aside0.mk hi201_4
        have HC201_4 := Aside0.mk hl201_4
        clear hi201_4 hl201_4
        have HR201_5 := Aside0.mk hi201_5
        have HC201_5 := Aside0.mk hl201_5
        clear hi201_5 hl201_5
        have HR201_6 := Aside0.mk hi201_6
        have HC201_6 := Aside0.mk hl201_6
        clear hi201_6 hl201_6
        replace p201 := eq_true p201
        replace q201 := eq_true q201
        have ea_ := Option.some.inj (hx200_4.symm.trans hx201_4)
        injection ea_ with ea_ en_ ec_
        subst ea_
        subst ec_
        clear en_
        have ea_ := Option.some.inj (hx200_5.symm.trans hx201_5)
        injection ea_ with ea_ en_ ec_
        subst ea_
        subst ec_
        clear en_
        have ea_ := Option.some.inj (hx200_6.symm.trans hx201_6)
        injection ea_ with ea_ en_ ec_
        subst ea_
        subst ec_
        clear en_
        go_wp2
        go_roundg k1
        case measure => have := HK1.out; omega
        case rel => exact ⟨(wrap64 (x3_1 + 1)), (wrap64 (x4_1 + 1)), rG, rG, H', ⟨by have := HK1.out; omega⟩, ⟨by (with_reducible repeat (first | apply Kd.V_alloc | apply Kd.V_drewN | apply Kd.V_drew)); exact HO_194004.out⟩, ⟨by (with_reducible repeat (first | apply Kd.V_alloc | apply Kd.V_drewN | apply Kd.V_drew)); exact HO_194005.out⟩, ⟨by (with_reducible repeat (first | apply Kd.V_alloc | apply Kd.V_drewN | apply Kd.V_drew)); exact HO_194006.out⟩, ⟨by (with_reducible repeat (first | refine bN ?_ _|refine bD ?_|refine bA ?_ _)); exact BK193.out⟩, ⟨hB⟩⟩
      ·rw [if_neg c11] at H
       obtain ⟨c11b0, c11b1⟩ := eqF c11
       by_cases c15 : ((rd_T28 l0_6 x4_1).f0) = 2
       ·rw [if_pos c15] at H
        obtain ⟨c15b0, c15b1⟩ := eqT c15
        clear c15
        obtain rfl := Option.some.inj H
        obtain ⟨hcz16_0, hcz16_1, hcz16_2, hcz16_3, hcz16_4, hcz16_5, hcz16_6, hcz16_7⟩ := bc8 BK193.out
        have p200 : 0 ≤ (x4_1 : Int) := odt
        have q200 : x4_1 < (l0_6.length : Int) := odt
        obtain ⟨ad200, A200_4, c200_4, A200_5, c200_5, A200_6, c200_6, e200, hx200_0, hx200_1, hx200_2, hx200_3, hx200_4, hx200_5, hx200_6, hx200_7, hl200_4, hi200_4, hl200_5, hi200_5, hl200_6, hi200_6⟩ := at_T28 (Kd.V_reads' HO_194006.out).2.2 x4_1 p200 q200
        cases e200
        obtain ⟨ce200, hce200, hMe200, hcc200⟩ := Kd.V_get HO_194006.out z28 x4_1 p200 (by first | exact q200 | exact odt | (have e_ := (Kd.V_reads' HO_194006.out).1; omega))
        obtain ⟨ua200_4, uc200_4, ua200_5, uc200_5, ua200_6, uc200_6, rfl, ul200_4, ge200_4, ul200_5, ge200_5, ul200_6, ge200_6⟩ := k28_openF hMe200
        have hv200_4 := hcc200 4 _ rfl
        rw [add_field _ _ 4 (by omega)] at hv200_4
        replace hv200_4 := Option.some.inj (hv200_4.symm.trans hx200_4)
        injection hv200_4 with hva_ hvn_ hvc_
        rw [hva_] at ge200_4
        rw [hvc_] at ul200_4
        have HL200_4 := Aside0.mk (show Kd.V k73 73 _ w.heap.size _ _ ((rd_T28 l0_6 x4_1).f4) from Kd.V_mk ul200_4 ge200_4)
        clear hva_ hvn_ hvc_ ge200_4 ul200_4
        have hv200_5 := hcc200 5 _ rfl
        rw [add_field _ _ 5 (by omega)] at hv200_5
        replace hv200_5 := Option.some.inj (hv200_5.symm.trans hx200_5)
        injection hv200_5 with hva_ hvn_ hvc_
        rw [hva_] at ge200_5
        rw [hvc_] at ul200_5
        have HL200_5 := Aside0.mk (show Kd.V k68 68 _ w.heap.size _ _ ((rd_T28 l0_6 x4_1).f5) from Kd.V_mk ul200_5 ge200_5)
        clear hva_ hvn_ hvc_ ge200_5 ul200_5
        have hv200_6 := hcc200 6 _ rfl
        rw [add_field _ _ 6 (by omega)] at hv200_6
        replace hv200_6 := Option.some.inj (hv200_6.symm.trans hx200_6)
        injection hv200_6 with hva_ hvn_ hvc_
        rw [hva_] at ge200_6
        rw [hvc_] at ul200_6
        have HL200_6 := Aside0.mk (show Kd.V k28 28 _ w.heap.size _ _ ((rd_T28 l0_6 x4_1).f6) from Kd.V_mk ul200_6 ge200_6)
        clear hva_ hvn_ hvc_ ge200_6 ul200_6
        clear hcc200 hce200
        have HR200_4 := Aside0.mk hi200_4
        have HC200_4 := Aside0.mk hl200_4
        clear hi200_4 hl200_4
        have HR200_5 := Aside0.mk hi200_5
        have HC200_5 := Aside0.mk hl200_5
        clear hi200_5 hl200_5
        have HR200_6 := Aside0.mk hi200_6
        have HC200_6 := Aside0.mk hl200_6
        clear hi200_6 hl200_6
        replace p200 := eq_true p200
        replace q200 := eq_true q200
        have p202 : 0 ≤ (x4_1 : Int) := odt
        have q202 : x4_1 < (l0_6.length : Int) := odt
        obtain ⟨ad202, A202_4, c202_4, A202_5, c202_5, A202_6, c202_6, e202, hx202_0, hx202_1, hx202_2, hx202_3, hx202_4, hx202_5, hx202_6, hx202_7, hl202_4, hi202_4, hl202_5, hi202_5, hl202_6, hi202_6⟩ := at_T28 (Kd.V_reads' HO_194006.out).2.2 x4_1 p202 q202
        obtain rfl : ad200 = ad202 := (by injection e202)
        obtain ⟨ce202, hce202, hMe202, hcc202⟩ := Kd.V_get HO_194006.out z28 x4_1 p202 (by first | exact q202 | exact odt | (have e_ := (Kd.V_reads' HO_194006.out).1; omega))
        obtain ⟨ua202_4, uc202_4, ua202_5, uc202_5, ua202_6, uc202_6, rfl, ul202_4, ge202_4, ul202_5, ge202_5, ul202_6, ge202_6⟩ := k28_openF hMe202
        have hv202_4 := hcc202 4 _ rfl
        rw [add_field _ _ 4 (by omega)] at hv202_4
        replace hv202_4 := Option.some.inj (hv202_4.symm.trans hx202_4)
        injection hv202_4 with hva_ hvn_ hvc_
        rw [hva_] at ge202_4
        rw [hvc_] at ul202_4
        have HL202_4 := Aside0.mk (show Kd.V k73 73 _ w.heap.size _ _ ((rd_T28 l0_6 x4_1).f4) from Kd.V_mk ul202_4 ge202_4)
        clear hva_ hvn_ hvc_ ge202_4 ul202_4
        have hv202_5 := hcc202 5 _ rfl
        rw [add_field _ _ 5 (by omega)] at hv202_5
        replace hv202_5 := Option.some.inj (hv202_5.symm.trans hx202_5)
        injection hv202_5 with hva_ hvn_ hvc_
        rw [hva_] at ge202_5
        rw [hvc_] at ul202_5
        have HL202_5 := Aside0.mk (show Kd.V k68 68 _ w.heap.size _ _ ((rd_T28 l0_6 x4_1).f5) from Kd.V_mk ul202_5 ge202_5)
        clear hva_ hvn_ hvc_ ge202_5 ul202_5
        have hv202_6 := hcc202 6 _ rfl
        rw [add_field _ _ 6 (by omega)] at hv202_6
        replace hv202_6 := Option.some.inj (hv202_6.symm.trans hx202_6)
        injection hv202_6 with hva_ hvn_ hvc_
        rw [hva_] at ge202_6
        rw [hvc_] at ul202_6
        have HL202_6 := Aside0.mk (show Kd.V k28 28 _ w.heap.size _ _ ((rd_T28 l0_6 x4_1).f6) from Kd.V_mk ul202_6 ge202_6)
        clear hva_ hvn_ hvc_ ge202_6 ul202_6
        clear hcc202 hce202
        have HR202_4 := Aside0.mk hi202_4
        have HC202_4 := Aside0.mk hl202_4
        clear hi202_4 hl202_4
        have HR202_5 := Aside0.mk hi202_5
        have HC202_5 := Aside0.mk hl202_5
        clear hi202_5 hl202_5
        have HR202_6 := Aside0.mk hi202_6
        have HC202_6 := Aside0.mk hl202_6
        clear hi202_6 hl202_6
        replace p202 := eq_true p202
        replace q202 := eq_true q202
        have ea_ := Option.some.inj (hx200_4.symm.trans hx202_4)
        injection ea_ with ea_ en_ ec_
        subst ea_
        subst ec_
        clear en_
        have ea_ := Option.some.inj (hx200_5.symm.trans hx202_5)
        injection ea_ with ea_ en_ ec_
        subst ea_
        subst ec_
        clear en_
        have ea_ := Option.some.inj (hx200_6.symm.trans hx202_6)
        injection ea_ with ea_ en_ ec_
        subst ea_
        subst ec_
        clear en_
        go_wp2
        go_ret
        exact ⟨rE, hB⟩
       ·rw [if_neg c15] at H
        obtain ⟨c15b0, c15b1⟩ := eqF c15
        have H' := Aside0.mk H
        clear H
        obtain ⟨hcz17_0, hcz17_1, hcz17_2, hcz17_3, hcz17_4, hcz17_5, hcz17_6, hcz17_7⟩ := bc8 BK193.out
        have p200 : 0 ≤ (x4_1 : Int) := odt
        have q200 : x4_1 < (l0_6.length : Int) := odt
        obtain ⟨ad200, A200_4, c200_4, A200_5, c200_5, A200_6, c200_6, e200, hx200_0, hx200_1, hx200_2, hx200_3, hx200_4, hx200_5, hx200_6, hx200_7, hl200_4, hi200_4, hl200_5, hi200_5, hl200_6, hi200_6⟩ := at_T28 (Kd.V_reads' HO_194006.out).2.2 x4_1 p200 q200
        cases e200
        obtain ⟨ce200, hce200, hMe200, hcc200⟩ := Kd.V_get HO_194006.out z28 x4_1 p200 (by first | exact q200 | exact odt | (have e_ := (Kd.V_reads' HO_194006.out).1; omega))
        obtain ⟨ua200_4, uc200_4, ua200_5, uc200_5, ua200_6, uc200_6, rfl, ul200_4, ge200_4, ul200_5, ge200_5, ul200_6, ge200_6⟩ := k28_openF hMe200
        have hv200_4 := hcc200 4 _ rfl
        rw [add_field _ _ 4 (by omega)] at hv200_4
        replace hv200_4 := Option.some.inj (hv200_4.symm.trans hx200_4)
        injection hv200_4 with hva_ hvn_ hvc_
        rw [hva_] at ge200_4
        rw [hvc_] at ul200_4
        have HL200_4 := Aside0.mk (show Kd.V k73 73 _ w.heap.size _ _ ((rd_T28 l0_6 x4_1).f4) from Kd.V_mk ul200_4 ge200_4)
        clear hva_ hvn_ hvc_ ge200_4 ul200_4
        have hv200_5 := hcc200 5 _ rfl
        rw [add_field _ _ 5 (by omega)] at hv200_5
        replace hv200_5 := Option.some.inj (hv200_5.symm.trans hx200_5)
        injection hv200_5 with hva_ hvn_ hvc_
        rw [hva_] at ge200_5
        rw [hvc_] at ul200_5
        have HL200_5 := Aside0.mk (show Kd.V k68 68 _ w.heap.size _ _ ((rd_T28 l0_6 x4_1).f5) from Kd.V_mk ul200_5 ge200_5)
        clear hva_ hvn_ hvc_ ge200_5 ul200_5
        have hv200_6 := hcc200 6 _ rfl
        rw [add_field _ _ 6 (by omega)] at hv200_6
        replace hv200_6 := Option.some.inj (hv200_6.symm.trans hx200_6)
        injection hv200_6 with hva_ hvn_ hvc_
        rw [hva_] at ge200_6
        rw [hvc_] at ul200_6
        have HL200_6 := Aside0.mk (show Kd.V k28 28 _ w.heap.size _ _ ((rd_T28 l0_6 x4_1).f6) from Kd.V_mk ul200_6 ge200_6)
        clear hva_ hvn_ hvc_ ge200_6 ul200_6
        clear hcc200 hce200
        have HR200_4 := Aside0.mk hi200_4
        have HC200_4 := Aside0.mk hl200_4
        clear hi200_4 hl200_4
        have HR200_5 := Aside0.mk hi200_5
        have HC200_5 := Aside0.mk hl200_5
        clear hi200_5 hl200_5
        have HR200_6 := Aside0.mk hi200_6
        have HC200_6 := Aside0.mk hl200_6
        clear hi200_6 hl200_6
        replace p200 := eq_true p200
        replace q200 := eq_true q200
        have p202 : 0 ≤ (x4_1 : Int) := odt
        have q202 : x4_1 < (l0_6.length : Int) := odt
        obtain ⟨ad202, A202_4, c202_4, A202_5, c202_5, A202_6, c202_6, e202, hx202_0, hx202_1, hx202_2, hx202_3, hx202_4, hx202_5, hx202_6, hx202_7, hl202_4, hi202_4, hl202_5, hi202_5, hl202_6, hi202_6⟩ := at_T28 (Kd.V_reads' HO_194006.out).2.2 x4_1 p202 q202
        obtain rfl : ad200 = ad202 := (by injection e202)
        obtain ⟨ce202, hce202, hMe202, hcc202⟩ := Kd.V_get HO_194006.out z28 x4_1 p202 (by first | exact q202 | exact odt | (have e_ := (Kd.V_reads' HO_194006.out).1; omega))
        obtain ⟨ua202_4, uc202_4, ua202_5, uc202_5, ua202_6, uc202_6, rfl, ul202_4, ge202_4, ul202_5, ge202_5, ul202_6, ge202_6⟩ := k28_openF hMe202
        have hv202_4 := hcc202 4 _ rfl
        rw [add_field _ _ 4 (by omega)] at hv202_4
        replace hv202_4 := Option.some.inj (hv202_4.symm.trans hx202_4)
        injection hv202_4 with hva_ hvn_ hvc_
        rw [hva_] at ge202_4
        rw [hvc_] at ul202_4
        have HL202_4 := Aside0.mk (show Kd.V k73 73 _ w.heap.size _ _ ((rd_T28 l0_6 x4_1).f4) from Kd.V_mk ul202_4 ge202_4)
        clear hva_ hvn_ hvc_ ge202_4 ul202_4
        have hv202_5 := hcc202 5 _ rfl
        rw [add_field _ _ 5 (by omega)] at hv202_5
        replace hv202_5 := Option.some.inj (hv202_5.symm.trans hx202_5)
        injection hv202_5 with hva_ hvn_ hvc_
        rw [hva_] at ge202_5
        rw [hvc_] at ul202_5
        have HL202_5 := Aside0.mk (show Kd.V k68 68 _ w.heap.size _ _ ((rd_T28 l0_6 x4_1).f5) from Kd.V_mk ul202_5 ge202_5)
        clear hva_ hvn_ hvc_ ge202_5 ul202_5
        have hv202_6 := hcc202 6 _ rfl
        rw [add_field _ _ 6 (by omega)] at hv202_6
        replace hv202_6 := Option.some.inj (hv202_6.symm.trans hx202_6)
        injection hv202_6 with hva_ hvn_ hvc_
        rw [hva_] at ge202_6
        rw [hvc_] at ul202_6
        have HL202_6 := Aside0.mk (show Kd.V k28 28 _ w.heap.size _ _ ((rd_T28 l0_6 x4_1).f6) from Kd.V_mk ul202_6 ge202_6)
        clear hva_ hvn_ hvc_ ge202_6 ul202_6
        clear hcc202 hce202
        have HR202_4 := Aside0.mk hi202_4
        have HC202_4 := Aside0.mk hl202_4
        clear hi202_4 hl202_4
        have HR202_5 := Aside0.mk hi202_5
        have HC202_5 := Aside0.mk hl202_5
        clear hi202_5 hl202_5
        have HR202_6 := Aside0.mk hi202_6
        have HC202_6 := Aside0.mk hl202_6
        clear hi202_6 hl202_6
        replace p202 := eq_true p202
        replace q202 := eq_true q202
        have ea_ := Option.some.inj (hx200_4.symm.trans hx202_4)
        injection ea_ with ea_ en_ ec_
        subst ea_
        subst ec_
        clear en_
        have ea_ := Option.some.inj (hx200_5.symm.trans hx202_5)
        injection ea_ with ea_ en_ ec_
        subst ea_
        subst ec_
        clear en_
        have ea_ := Option.some.inj (hx200_6.symm.trans hx202_6)
        injection ea_ with ea_ en_ ec_
        subst ea_
        subst ec_
        clear en_
        go_wp2
        go_roundg k1
        case measure => have := HK1.out; omega
        case rel => exact ⟨(x3_1), (wrap64 (x4_1 + 1)), rG, rG, H', ⟨by have := HK1.out; omega⟩, ⟨by (with_reducible repeat (first | apply Kd.V_alloc | apply Kd.V_drewN | apply Kd.V_drew)); exact HO_194004.out⟩, ⟨by (with_reducible repeat (first | apply Kd.V_alloc | apply Kd.V_drewN | apply Kd.V_drew)); exact HO_194005.out⟩, ⟨by (with_reducible repeat (first | apply Kd.V_alloc | apply Kd.V_drewN | apply Kd.V_drew)); exact HO_194006.out⟩, ⟨by (with_reducible repeat (first | refine bN ?_ _|refine bD ?_|refine bA ?_ _)); exact BK193.out⟩, ⟨hB⟩⟩
     ·rw [if_neg c9] at H
      have c9b0 : decide (x4_1 < (l0_6.length : Int)) = false := decide_eq_false c9
      clear c9
      by_cases c18 : x3_1 = 1
      ·rw [if_pos c18] at H
       obtain ⟨c18b0, c18b1⟩ := eqT c18
       clear c18
       by_cases c19 : a0_1.toList = ([] : List UInt8)
       ·rw [if_pos c19] at H
        obtain ⟨c19b0, c19b1⟩ := eqT c19
        clear c19
        by_cases c20 : a0_2.toList = ([] : List UInt8)
        ·rw [if_pos c20] at H
         obtain ⟨c20b0, c20b1⟩ := eqT c20
         clear c20
         by_cases c21 : a0_3.toList = ([] : List UInt8)
         ·rw [if_pos c21] at H
          obtain ⟨c21b0, c21b1⟩ := eqT c21
          clear c21
          by_cases c22 : a0_7.toList = ([] : List UInt8)
          ·rw [if_pos c22] at H
           obtain ⟨c22b0, c22b1⟩ := eqT c22
           clear c22
           by_cases c23 : (l0_4.length : Int) = 0
           ·rw [if_pos c23] at H
            obtain ⟨c23b0, c23b1⟩ := eqT c23
            clear c23
            by_cases c24 : (l0_5.length : Int) = 0
            ·rw [if_pos c24] at H
             obtain ⟨c24b0, c24b1⟩ := eqT c24
             clear c24
             replace H := Option.bind_eq_some_iff.mp H
             obtain ⟨t199, A250, H⟩ := H
             try dsimp only at H
             have A25 := Aside0.mk A250
             clear A250
             obtain rfl := Option.some.inj H
             obtain ⟨hcz26_0, hcz26_1, hcz26_2, hcz26_3, hcz26_4, hcz26_5, hcz26_6, hcz26_7⟩ := bc8 BK193.out
             go_wp2_with (first | (go_at_call 46; (with_reducible refine (spec_l5Kids.calls k1 _ _ l0_6 0 t199 _ ?side1 ?side2 A25.out).mono ?_); (case side1 => repeat (first | exact (Kd.V_reads' HO_194006.out).2.2 | (with_reducible refine Kd.C_alloc ?_ _) | (with_reducible refine Kd.C_drewN ?_ _) | (with_reducible refine Kd.C_drew ?_))); (case side2 => exact (Kd.V_reads' HO_194006.out).2.1); rintro e w27 ⟨rfl, hb⟩; replace HO_194004 := Aside0.mk (Kd.V_below (by (with_reducible repeat (first | apply Kd.V_alloc | apply Kd.V_drewN | apply Kd.V_drew)); exact HO_194004.out) hb); replace HO_194005 := Aside0.mk (Kd.V_below (by (with_reducible repeat (first | apply Kd.V_alloc | apply Kd.V_drewN | apply Kd.V_drew)); exact HO_194005.out) hb); replace HO_194006 := Aside0.mk (Kd.V_below (by (with_reducible repeat (first | apply Kd.V_alloc | apply Kd.V_drewN | apply Kd.V_drew)); exact HO_194006.out) hb); replace BK193 := Aside0.mk (blk_below (g := gb193) (by (with_reducible repeat (first | refine bN ?_ _|refine bD ?_|refine bA ?_ _)); exact BK193.out) hb); replace HB := Aside0.mk (below_step hB hb); (try clear hb); (try clear hb2); (try clear hk); (try clear hi)))
             go_ret
             exact ⟨rE, hB⟩
            ·rw [if_neg c24] at H
             obtain ⟨c24b0, c24b1⟩ := eqF c24
             have c24b2 : ¬ (l0_5 = []) := fun h_ => c24 (by rw [h_]; rfl)
             obtain rfl := Option.some.inj H
             obtain ⟨hcz28_0, hcz28_1, hcz28_2, hcz28_3, hcz28_4, hcz28_5, hcz28_6, hcz28_7⟩ := bc8 BK193.out
             go_wp2
             go_ret
             exact ⟨rE, hB⟩
           ·rw [if_neg c23] at H
            obtain ⟨c23b0, c23b1⟩ := eqF c23
            have c23b2 : ¬ (l0_4 = []) := fun h_ => c23 (by rw [h_]; rfl)
            obtain rfl := Option.some.inj H
            obtain ⟨hcz29_0, hcz29_1, hcz29_2, hcz29_3, hcz29_4, hcz29_5, hcz29_6, hcz29_7⟩ := bc8 BK193.out
            go_wp2
            go_ret
            exact ⟨rE, hB⟩
          ·rw [if_neg c22] at H
           obtain ⟨c22b0, c22b1⟩ := eqF c22
           obtain rfl := Option.some.inj H
           obtain ⟨hcz30_0, hcz30_1, hcz30_2, hcz30_3, hcz30_4, hcz30_5, hcz30_6, hcz30_7⟩ := bc8 BK193.out
           go_wp2
           go_ret
           exact ⟨rE, hB⟩
         ·rw [if_neg c21] at H
          obtain ⟨c21b0, c21b1⟩ := eqF c21
          obtain rfl := Option.some.inj H
          obtain ⟨hcz31_0, hcz31_1, hcz31_2, hcz31_3, hcz31_4, hcz31_5, hcz31_6, hcz31_7⟩ := bc8 BK193.out
          go_wp2
          go_ret
          exact ⟨rE, hB⟩
        ·rw [if_neg c20] at H
         obtain ⟨c20b0, c20b1⟩ := eqF c20
         obtain rfl := Option.some.inj H
         obtain ⟨hcz32_0, hcz32_1, hcz32_2, hcz32_3, hcz32_4, hcz32_5, hcz32_6, hcz32_7⟩ := bc8 BK193.out
         go_wp2
         go_ret
         exact ⟨rE, hB⟩
       ·rw [if_neg c19] at H
        obtain ⟨c19b0, c19b1⟩ := eqF c19
        obtain rfl := Option.some.inj H
        obtain ⟨hcz33_0, hcz33_1, hcz33_2, hcz33_3, hcz33_4, hcz33_5, hcz33_6, hcz33_7⟩ := bc8 BK193.out
        go_wp2
        go_ret
        exact ⟨rE, hB⟩
      ·rw [if_neg c18] at H
       obtain ⟨c18b0, c18b1⟩ := eqF c18
       obtain rfl := Option.some.inj H
       obtain ⟨hcz34_0, hcz34_1, hcz34_2, hcz34_3, hcz34_4, hcz34_5, hcz34_6, hcz34_7⟩ := bc8 BK193.out
       go_wp2
       go_ret
       exact ⟨rE, hB⟩
  ·rw [if_neg c7] at H
   obtain ⟨c7b0, c7b1⟩ := eqF c7
   obtain ⟨y195, hy195⟩ : ∃ y_ : List (S28), y_ = (([(⟨a0_0, a0_1, a0_2, a0_3, l0_4, l0_5, l0_6, a0_7⟩ : S28)] : List (S28))) := ⟨_, rfl⟩
   replace H : ((spec_l5Kids.f k y195 0).bind fun t198 => (some t198)) = some r := by first | (rw [hy195]; with_reducible exact H) | (have H2_ := (Option.bind_some _ _).symm.trans H; rw [hy195]; with_reducible exact H2_) | (have H2_ := (Option.bind_some _ _).symm.trans H; with_reducible exact H2_) | with_reducible exact H | (rw [hy195]; exact H) | exact H
   have Ny195 := Aside0.mk hy195
   clear hy195
   replace H := Option.bind_eq_some_iff.mp H
   obtain ⟨t198, A350, H⟩ := H
   try dsimp only at H
   have A35 := Aside0.mk A350
   clear A350
   obtain rfl := Option.some.inj H
   obtain ⟨hcz36_0, hcz36_1, hcz36_2, hcz36_3, hcz36_4, hcz36_5, hcz36_6, hcz36_7⟩ := bc8 BK193.out
   go_wp2_with (first | ((with_reducible refine gate_dst (N := 12) rfl ?_); (try (refine gate_guard (by rfl) ?_; dsimp only)); refine Kd.N_lit k28 _ 28 ?hg (N' := 12) ?hd (xs := ([(⟨a0_0, a0_1, a0_2, a0_3, l0_4, l0_5, l0_6, a0_7⟩ : S28)] : List (S28))) (inner := [.int .i64 a0_0, .string a0_1, .string a0_2, .string a0_3, .slice A0_4 l0_4.length c0_4, .slice A0_5 l0_5.length c0_5, .slice A0_6 l0_6.length c0_6, .string a0_7]) (ok := (fun k_ => ((P0_4_ k_ ∨ P0_5_ k_ ∨ P0_6_ k_) ∨ w.heap.size ≤ k_) ∧ k_ ≠ gb193)) (okp := (fun k_ => ((P0_4_ k_ ∨ P0_5_ k_ ∨ P0_6_ k_) ∨ w.heap.size ≤ k_) ∧ k_ ≠ gb193)) ?hr ?hp (fun _ hk => hk) ((show ∀ k_, w5.heap.size ≤ k_ → (fun k_ => ((P0_4_ k_ ∨ P0_5_ k_ ∨ P0_6_ k_) ∨ w.heap.size ≤ k_) ∧ k_ ≠ gb193) k_ from fun k_ hk => ⟨(.inr (Nat.le_trans (below_size hB) hk)), Kd.freshB (g := gb193) (by (with_reducible repeat (first | refine bN ?_ _|refine bD ?_|refine bA ?_ _)); exact BK193.out) k_ hk⟩) _ (Nat.le_refl _)) (Below.refl _ _) (Nat.le_refl _) (by simp) ?_; (case hd => rfl); (case hg => rfl); (case hr => first | (go_simp; done) | (go_simp; rfl)); (case hp => exact (Reps.c8 (show Kd.FK k28 _ _ (⟨a0_0, a0_1, a0_2, a0_3, l0_4, l0_5, l0_6, a0_7⟩ : S28) [.int .i64 a0_0, .string a0_1, .string a0_2, .string a0_3, .slice A0_4 l0_4.length c0_4, .slice A0_5 l0_5.length c0_5, .slice A0_6 l0_6.length c0_6, .string a0_7] from (k28_mkF _ _ (⟨a0_0, a0_1, a0_2, a0_3, l0_4, l0_5, l0_6, a0_7⟩ : S28) (Kd.V_reads' (Kd.V_mono (ok' := (fun k_ => ((P0_4_ k_ ∨ P0_5_ k_ ∨ P0_6_ k_) ∨ w.heap.size ≤ k_) ∧ k_ ≠ gb193)) (HO0_4.out) (fun k_ hk => ⟨hk.1, hk.2⟩))).2.1 (Kd.V_F (Kd.V_mono (ok' := (fun k_ => ((P0_4_ k_ ∨ P0_5_ k_ ∨ P0_6_ k_) ∨ w.heap.size ≤ k_) ∧ k_ ≠ gb193)) (HO0_4.out) (fun k_ hk => ⟨hk.1, hk.2⟩))) (Kd.V_reads' (Kd.V_mono (ok' := (fun k_ => ((P0_4_ k_ ∨ P0_5_ k_ ∨ P0_6_ k_) ∨ w.heap.size ≤ k_) ∧ k_ ≠ gb193)) (HO0_5.out) (fun k_ hk => ⟨hk.1, hk.2⟩))).2.1 (Kd.V_F (Kd.V_mono (ok' := (fun k_ => ((P0_4_ k_ ∨ P0_5_ k_ ∨ P0_6_ k_) ∨ w.heap.size ≤ k_) ∧ k_ ≠ gb193)) (HO0_5.out) (fun k_ hk => ⟨hk.1, hk.2⟩))) (Kd.V_reads' (Kd.V_mono (ok' := (fun k_ => ((P0_4_ k_ ∨ P0_5_ k_ ∨ P0_6_ k_) ∨ w.heap.size ≤ k_) ∧ k_ ≠ gb193)) (HO0_6.out) (fun k_ hk => ⟨hk.1, hk.2⟩))).2.1 (Kd.V_F (Kd.V_mono (ok' := (fun k_ => ((P0_4_ k_ ∨ P0_5_ k_ ∨ P0_6_ k_) ∨ w.heap.size ≤ k_) ∧ k_ ≠ gb193)) (HO0_6.out) (fun k_ hk => ⟨hk.1, hk.2⟩))))) (Reps.none _ _))); intro v196 w37 ho38 hb hg_ hnew_; clear hg_ hnew_; (first | rw [← Ny195.out] at ho38 | (simp only [Int.reduceToNat] at ho38; rw [← Ny195.out] at ho38)); replace HO0_4 := Aside0.mk (Kd.V_elder' (by (with_reducible repeat (first | apply Kd.V_alloc | apply Kd.V_drewN | apply Kd.V_drew)); exact HO0_4.out) (Kd.N_base ho38) hb); replace HO0_5 := Aside0.mk (Kd.V_elder' (by (with_reducible repeat (first | apply Kd.V_alloc | apply Kd.V_drewN | apply Kd.V_drew)); exact HO0_5.out) (Kd.N_base ho38) hb); replace HO0_6 := Aside0.mk (Kd.V_elder' (by (with_reducible repeat (first | apply Kd.V_alloc | apply Kd.V_drewN | apply Kd.V_drew)); exact HO0_6.out) (Kd.N_base ho38) hb); have HO197 := Aside0.mk (Kd.N_lower ho38 (below_size hB)); replace BK193 := Aside0.mk (blk_below (g := gb193) (by (with_reducible repeat (first | refine bN ?_ _|refine bD ?_|refine bA ?_ _)); exact BK193.out) hb); replace HB := Aside0.mk (below_step hB hb); clear hb ho38; obtain ⟨Ao39, co39, eo39⟩ := Kd.N_slice HO197.out; subst eo39) | ((with_reducible refine gate_callee (f := 46) rfl ?_); refine goesL_ (some 13) rfl rfl Tryz.func46 (by kernel_rfl) rfl #[.slice Ao39 y195.length co39, .int .i64 0] rfl mA ?_; (with_reducible refine (spec_l5Kids.calls k _ _ y195 0 t198 _ ?side1 ?side2 A35.out).mono ?_); (case side1 => repeat (first | exact (Kd.N_reads' HO197.out).2.2 | (with_reducible refine Kd.C_alloc ?_ _) | (with_reducible refine Kd.C_drewN ?_ _) | (with_reducible refine Kd.C_drew ?_))); (case side2 => exact (Kd.N_reads' HO197.out).2.1); rintro e w40 ⟨rfl, hb⟩; refine ⟨_, rfl, ?_⟩; replace HO0_4 := Aside0.mk (Kd.V_below (by (with_reducible repeat (first | apply Kd.V_alloc | apply Kd.V_drewN | apply Kd.V_drew)); exact HO0_4.out) hb); replace HO0_5 := Aside0.mk (Kd.V_below (by (with_reducible repeat (first | apply Kd.V_alloc | apply Kd.V_drewN | apply Kd.V_drew)); exact HO0_5.out) hb); replace HO0_6 := Aside0.mk (Kd.V_below (by (with_reducible repeat (first | apply Kd.V_alloc | apply Kd.V_drewN | apply Kd.V_drew)); exact HO0_6.out) hb); replace HO197 := Aside0.mk (Kd.N_below (by (with_reducible repeat (first | apply Kd.N_alloc | apply Kd.N_drewN | apply Kd.N_drew)); exact HO197.out) hb); replace BK193 := Aside0.mk (blk_below (g := gb193) (by (with_reducible repeat (first | refine bN ?_ _|refine bD ?_|refine bA ?_ _)); exact BK193.out) hb); replace HB := Aside0.mk (below_step hB hb); (try clear hb); (try clear hb2); (try clear hk); (try clear hi)))
   go_ret
   exact ⟨rE, hB⟩

end Go.Proofs.YtalionlkjdgciaaGreatDoor.PL
