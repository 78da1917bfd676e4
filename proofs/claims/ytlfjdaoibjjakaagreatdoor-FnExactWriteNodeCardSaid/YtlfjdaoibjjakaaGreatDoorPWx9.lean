-- Written by the session's program hprint.py, over the kit's print program. Lean checks it.
import Derived.Test.YtlfjdaoibjjakaaGreatDoorPWx0
import Derived.Test.YtlfjdaoibjjakaaGreatDoorPWx2
import Derived.Test.YtlfjdaoibjjakaaGreatDoorPWx8
namespace Go.Proofs.YtlfjdaoibjjakaaGreatDoor.PW
open Go.RowKit Go.Proofs.YtlfjdaoibjjakaaGreatDoorW.PrintWords Go.Proofs.YtlfjdaoibjjakaaGreatDoorW.PrintLast Go.Proofs.YtlfjdaoibjjakaaGreatDoorW.PrintMore
attribute [local go_sem] max2_int min2_int max_two min_two max_three min_three max_four min_four   -- for this text's walks alone
set_option linter.unusedVariables false
set_option linter.unusedSimpArgs false
set_option maxHeartbeats 8000000
set_option maxRecDepth 100000

/-! ### spec_NodeOk: function 22 -/
def spec_NodeOk.l0 : Nat → Int → Int → Int → ByteArray → ByteArray → ByteArray → List (S80) → List (S75) → List (S33) → ByteArray → Option (Bool)
 | 0, _, _, _, _, _, _, _, _, _, _ => none
 | k + 1, x3, x4, x241000, x241001, x241002, x241003, x241004, x241005, x241006, x241007 => if x4 < (x241006.length : Int) then (if 0 ≤ x4 then (if ((rd_T33 x241006 x4).f0) = 1 then (if ((rd_T33 x241006 x4).f0) = 2 then (some false) else (spec_NodeOk.l0 k (wrap64 (x3 + 1)) (wrap64 (x4 + 1)) x241000 x241001 x241002 x241003 x241004 x241005 x241006 x241007)) else (if ((rd_T33 x241006 x4).f0) = 2 then (some false) else (spec_NodeOk.l0 k x3 (wrap64 (x4 + 1)) x241000 x241001 x241002 x241003 x241004 x241005 x241006 x241007))) else (none)) else (if x3 = 1 then (if x241001.toList = ([] : List UInt8) then (if x241002.toList = ([] : List UInt8) then (if x241003.toList = ([] : List UInt8) then (if x241007.toList = ([] : List UInt8) then (if (x241004.length : Int) = 0 then (if (x241005.length : Int) = 0 then ((spec_l5Kids.f k x241006 0).bind fun t246 => (some t246)) else (some false)) else (some false)) else (some false)) else (some false)) else (some false)) else (some false)) else (some false))
def spec_NodeOk.f (k : Nat) (a0_0 : Int) (a0_1 : ByteArray) (a0_2 : ByteArray) (a0_3 : ByteArray) (l0_4 : List (S80)) (l0_5 : List (S75)) (l0_6 : List (S33)) (a0_7 : ByteArray) : Option (Bool) := (spec_CountOf.f k a0_0 a0_1 a0_2 a0_3 l0_4 l0_5 l0_6 a0_7).bind fun t241 => (if t241 > 60 then (some false) else (if a0_0 = 0 then (spec_NodeOk.l0 k 0 0 a0_0 a0_1 a0_2 a0_3 l0_4 l0_5 l0_6 a0_7) else ((spec_l5Kids.f k (([(⟨a0_0, a0_1, a0_2, a0_3, l0_4, l0_5, l0_6, a0_7⟩ : S33)] : List (S33))) 0).bind fun t245 => (some t245))))
theorem spec_NodeOk.calls (k : Nat) (a0_0 : Int) (a0_1 : ByteArray) (a0_2 : ByteArray) (a0_3 : ByteArray) (P0_4_ : Nat → Prop) (A0_4 : Option Addr) (c0_4 : Nat) (l0_4 : List (S80)) (P0_5_ : Nat → Prop) (A0_5 : Option Addr) (c0_5 : Nat) (l0_5 : List (S75)) (P0_6_ : Nat → Prop) (A0_6 : Option Addr) (c0_6 : Nat) (l0_6 : List (S33)) (a0_7 : ByteArray) (r : Bool) (w : World) (hs0_4 : Kd.V k80 80 w w.heap.size (fun k_ => P0_4_ k_) (.slice A0_4 l0_4.length c0_4) l0_4) (hs0_5 : Kd.V k75 75 w w.heap.size (fun k_ => P0_5_ k_) (.slice A0_5 l0_5.length c0_5) l0_5) (hs0_6 : Kd.V k33 33 w w.heap.size (fun k_ => P0_6_ k_) (.slice A0_6 l0_6.length c0_6) l0_6) (h : spec_NodeOk.f k a0_0 a0_1 a0_2 a0_3 l0_4 l0_5 l0_6 a0_7 = some r) :
  Calls Tryz.prog 22 #[.agg #[.int .i64 a0_0, .string a0_1, .string a0_2, .string a0_3, .slice A0_4 l0_4.length c0_4, .slice A0_5 l0_5.length c0_5, .slice A0_6 l0_6.length c0_6, .string a0_7]] w fun e w' => e = .returned (.bool r) ∧ Below w.heap.size w w' := by
 have hu33 := Tryz.underlying33
 have HO0_4 := Aside0.mk (show Kd.V k80 80 w w.heap.size (fun k_ => ((P0_4_ k_ ∨ P0_5_ k_ ∨ P0_6_ k_) ∨ w.heap.size ≤ k_)) (.slice A0_4 l0_4.length c0_4) l0_4 from Kd.V_mono hs0_4 (fun k_ hk => .inl (.inl hk)))
 have HO0_5 := Aside0.mk (show Kd.V k75 75 w w.heap.size (fun k_ => ((P0_4_ k_ ∨ P0_5_ k_ ∨ P0_6_ k_) ∨ w.heap.size ≤ k_)) (.slice A0_5 l0_5.length c0_5) l0_5 from Kd.V_mono hs0_5 (fun k_ hk => .inl (.inr (.inl hk))))
 have HO0_6 := Aside0.mk (show Kd.V k33 33 w w.heap.size (fun k_ => ((P0_4_ k_ ∨ P0_5_ k_ ∨ P0_6_ k_) ∨ w.heap.size ≤ k_)) (.slice A0_6 l0_6.length c0_6) l0_6 from Kd.V_mono hs0_6 (fun k_ hk => .inl (.inr (.inr hk))))
 have HB := Aside0.mk (Below.refl w.heap.size w)
 have H : ((spec_CountOf.f k a0_0 a0_1 a0_2 a0_3 l0_4 l0_5 l0_6 a0_7).bind fun t241 => (if t241 > 60 then (some false) else (if a0_0 = 0 then (spec_NodeOk.l0 k 0 0 a0_0 a0_1 a0_2 a0_3 l0_4 l0_5 l0_6 a0_7) else ((spec_l5Kids.f k (([(⟨a0_0, a0_1, a0_2, a0_3, l0_4, l0_5, l0_6, a0_7⟩ : S33)] : List (S33))) 0).bind fun t245 => (some t245))))) = some r := h
 clear h
 replace H := Option.bind_eq_some_iff.mp H
 obtain ⟨t241, A20, H⟩ := H
 try dsimp only at H
 have A2 := Aside0.mk A20
 clear A20
 go_enter Tryz.func22, Tryz.ntmps22
 go_wp2_with (first | ((with_reducible refine gate_dst (N := 1) rfl ?_); (try (refine gate_guard (by rfl) ?_; dsimp only)); refine box_event ?hg (N := 1) ?hd (cs := #[.int .i64 a0_0, .string a0_1, .string a0_2, .string a0_3, .slice A0_4 l0_4.length c0_4, .slice A0_5 l0_5.length c0_5, .slice A0_6 l0_6.length c0_6, .string a0_7]) (t := 33) ?hr ?_; (case hd => rfl); (case hg => rfl); (case hr => first | (go_simp; done) | (go_simp; rfl)); intro gb240 hg w3 hbox hb; replace HO0_4 := Aside0.mk (Kd.V_below (Kd.V_elderB (by (with_reducible repeat (first | apply Kd.V_alloc | apply Kd.V_drewN | apply Kd.V_drew)); exact HO0_4.out) gb240 (Nat.le_of_eq hg.symm)) hb); replace HO0_5 := Aside0.mk (Kd.V_below (Kd.V_elderB (by (with_reducible repeat (first | apply Kd.V_alloc | apply Kd.V_drewN | apply Kd.V_drew)); exact HO0_5.out) gb240 (Nat.le_of_eq hg.symm)) hb); replace HO0_6 := Aside0.mk (Kd.V_below (Kd.V_elderB (by (with_reducible repeat (first | apply Kd.V_alloc | apply Kd.V_drewN | apply Kd.V_drew)); exact HO0_6.out) gb240 (Nat.le_of_eq hg.symm)) hb); have BK240 := Aside0.mk (hbox); have GW240 := Aside0.mk ((by rw [hg]; exact (below_size hB) : w.heap.size ≤ gb240)); have GE240 := Aside0.mk ((by rw [hg]; exact (below_size hB) : w.heap.size ≤ gb240)); replace HB := Aside0.mk (below_step hB hb); clear hb hbox hg; obtain ⟨hcz4_0, hcz4_1, hcz4_2, hcz4_3, hcz4_4, hcz4_5, hcz4_6, hcz4_7⟩ := bc8 BK240.out) | ((with_reducible refine gate_callee (f := 25) rfl ?_); refine goesL_ (some 6) rfl rfl Tryz.func25 (by kernel_rfl) rfl #[.agg #[.int .i64 a0_0, .string a0_1, .string a0_2, .string a0_3, .slice A0_4 l0_4.length c0_4, .slice A0_5 l0_5.length c0_5, .slice A0_6 l0_6.length c0_6, .string a0_7]] rfl mA ?_; (with_reducible refine (spec_CountOf.calls k a0_0 a0_1 a0_2 a0_3 _ _ l0_4 _ _ l0_5 _ _ l0_6 a0_7 t241 _ ?side1 ?side2 ?side3 ?side4 ?side5 ?side6 A2.out).mono ?_); (case side1 => repeat (first | exact (Kd.V_reads' HO0_4.out).2.2 | (with_reducible refine Kd.C_alloc ?_ _) | (with_reducible refine Kd.C_drewN ?_ _) | (with_reducible refine Kd.C_drew ?_))); (case side2 => exact (Kd.V_reads' HO0_4.out).2.1); (case side3 => repeat (first | exact (Kd.V_reads' HO0_5.out).2.2 | (with_reducible refine Kd.C_alloc ?_ _) | (with_reducible refine Kd.C_drewN ?_ _) | (with_reducible refine Kd.C_drew ?_))); (case side4 => exact (Kd.V_reads' HO0_5.out).2.1); (case side5 => repeat (first | exact (Kd.V_reads' HO0_6.out).2.2 | (with_reducible refine Kd.C_alloc ?_ _) | (with_reducible refine Kd.C_drewN ?_ _) | (with_reducible refine Kd.C_drew ?_))); (case side6 => exact (Kd.V_reads' HO0_6.out).2.1); rintro e w5 ⟨rfl, hb⟩; refine ⟨_, rfl, ?_⟩; replace HO0_4 := Aside0.mk (Kd.V_below (by (with_reducible repeat (first | apply Kd.V_alloc | apply Kd.V_drewN | apply Kd.V_drew)); exact HO0_4.out) hb); replace HO0_5 := Aside0.mk (Kd.V_below (by (with_reducible repeat (first | apply Kd.V_alloc | apply Kd.V_drewN | apply Kd.V_drew)); exact HO0_5.out) hb); replace HO0_6 := Aside0.mk (Kd.V_below (by (with_reducible repeat (first | apply Kd.V_alloc | apply Kd.V_drewN | apply Kd.V_drew)); exact HO0_6.out) hb); replace BK240 := Aside0.mk (blk_below (g := gb240) (by (with_reducible repeat (first | refine bN ?_ _|refine bD ?_|refine bA ?_ _)); exact BK240.out) hb); replace HB := Aside0.mk (below_step hB hb); (try clear hb); (try clear hb2); (try clear hk); (try clear hi); refine halt_ ?_; intro q_ hq_))
 obtain ⟨rfl⟩ := hq_
 by_cases c6 : t241 > 60
 ·rw [if_pos c6] at H
  have c6b0 : decide (60 < t241) = true := decide_eq_true c6
  clear c6
  obtain rfl := Option.some.inj H
  go_wp2
  go_ret
  exact ⟨rE, hB⟩
 ·rw [if_neg c6] at H
  have c6b0 : decide (60 < t241) = false := decide_eq_false c6
  clear c6
  by_cases c7 : a0_0 = 0
  ·rw [if_pos c7] at H
   obtain ⟨c7b0, c7b1⟩ := eqT c7
   clear c7
   have H' := Aside0.mk H
   clear H
   obtain ⟨hcz8_0, hcz8_1, hcz8_2, hcz8_3, hcz8_4, hcz8_5, hcz8_6, hcz8_7⟩ := bc8 BK240.out
   go_wp2
   go_loopg [3, 4] k (fun kq v3 v4 w' => ∃ (x3_1 : Int) (x4_1 : Int), v3 = .int .i64 x3_1 ∧ v4 = .int .i64 x4_1 ∧ Aside0 (spec_NodeOk.l0 kq x3_1 x4_1 a0_0 a0_1 a0_2 a0_3 l0_4 l0_5 l0_6 a0_7 = some r) ∧ Aside0 (kq ≤ k) ∧ Aside0 (Kd.V k80 80 w' w.heap.size (fun k_ => ((P0_4_ k_ ∨ P0_5_ k_ ∨ P0_6_ k_) ∨ w.heap.size ≤ k_) ∧ k_ ≠ gb240) (.slice A0_4 l0_4.length c0_4) l0_4) ∧ Aside0 (Kd.V k75 75 w' w.heap.size (fun k_ => ((P0_4_ k_ ∨ P0_5_ k_ ∨ P0_6_ k_) ∨ w.heap.size ≤ k_) ∧ k_ ≠ gb240) (.slice A0_5 l0_5.length c0_5) l0_5) ∧ Aside0 (Kd.V k33 33 w' w.heap.size (fun k_ => ((P0_4_ k_ ∨ P0_5_ k_ ∨ P0_6_ k_) ∨ w.heap.size ≤ k_) ∧ k_ ≠ gb240) (.slice A0_6 l0_6.length c0_6) l0_6) ∧ Aside0 (w'.heap[gb240]? = some (.cells #[.int .i64 a0_0, .string a0_1, .string a0_2, .string a0_3, (.slice A0_4 l0_4.length c0_4), (.slice A0_5 l0_5.length c0_5), (.slice A0_6 l0_6.length c0_6), .string a0_7] 33 (0, 0))) ∧ Aside0 (Below w.heap.size w w'))
   case atStart => exact ⟨(0), (0), rG, rG, H', ⟨Nat.le_refl _⟩, ⟨by (with_reducible repeat (first | apply Kd.V_alloc | apply Kd.V_drewN | apply Kd.V_drew)); exact HO0_4.out⟩, ⟨by (with_reducible repeat (first | apply Kd.V_alloc | apply Kd.V_drewN | apply Kd.V_drew)); exact HO0_5.out⟩, ⟨by (with_reducible repeat (first | apply Kd.V_alloc | apply Kd.V_drewN | apply Kd.V_drew)); exact HO0_6.out⟩, ⟨by (with_reducible repeat (first | refine bN ?_ _|refine bD ?_|refine bA ?_ _)); exact BK240.out⟩, ⟨hB⟩⟩
   case round =>
    clear H'
    try clear c7; try clear c7b1; try clear c7b0; try clear c6; try clear c6b0
    try clear hcz4_0 hcz4_1 hcz4_2 hcz4_3 hcz4_4 hcz4_5 hcz4_6 hcz4_7
    try clear hcz8_0 hcz8_1 hcz8_2 hcz8_3 hcz8_4 hcz8_5 hcz8_6 hcz8_7
    obtain ⟨x3_1, x4_1, rfl, rfl, HA, HK1, HO_241004, HO_241005, HO_241006, BK240, HB⟩ := hrel
    cases gk with
    | zero => exact absurd HA.out (by simp [spec_NodeOk.l0])
    | succ k1 =>
     have H := HA.out
     clear HA
     simp only [spec_NodeOk.l0] at H
     by_cases c9 : x4_1 < (l0_6.length : Int)
     ·rw [if_pos c9] at H
      have c9b0 : decide (x4_1 < (l0_6.length : Int)) = true := decide_eq_true c9
      clear c9
      obtain ⟨c10, H⟩ := if_som H
      have c10b0 : decide (0 ≤ x4_1) = true := decide_eq_true c10
      clear c10
      by_cases c11 : ((rd_T33 l0_6 x4_1).f0) = 1
      ·rw [if_pos c11] at H
       obtain ⟨c11b0, c11b1⟩ := eqT c11
       clear c11
       by_cases c12 : ((rd_T33 l0_6 x4_1).f0) = 2
       ·rw [if_pos c12] at H
        obtain ⟨c12b0, c12b1⟩ := eqT c12
        clear c12
        obtain rfl := Option.some.inj H
        obtain ⟨hcz13_0, hcz13_1, hcz13_2, hcz13_3, hcz13_4, hcz13_5, hcz13_6, hcz13_7⟩ := bc8 BK240.out
        have p247 : 0 ≤ (x4_1 : Int) := odt
        have q247 : x4_1 < (l0_6.length : Int) := odt
        obtain ⟨ad247, A247_4, c247_4, A247_5, c247_5, A247_6, c247_6, e247, hx247_0, hx247_1, hx247_2, hx247_3, hx247_4, hx247_5, hx247_6, hx247_7, hl247_4, hi247_4, hl247_5, hi247_5, hl247_6, hi247_6⟩ := at_T33 (Kd.V_reads' HO_241006.out).2.2 x4_1 p247 q247
        cases e247
        obtain ⟨ce247, hce247, hMe247, hcc247⟩ := Kd.V_get HO_241006.out z33 x4_1 p247 (by first | exact q247 | exact odt | (have e_ := (Kd.V_reads' HO_241006.out).1; omega))
        obtain ⟨ua247_4, uc247_4, ua247_5, uc247_5, ua247_6, uc247_6, rfl, ul247_4, ge247_4, ul247_5, ge247_5, ul247_6, ge247_6⟩ := k33_openF hMe247
        have hv247_4 := hcc247 4 _ rfl
        rw [add_field _ _ 4 (by omega)] at hv247_4
        replace hv247_4 := Option.some.inj (hv247_4.symm.trans hx247_4)
        injection hv247_4 with hva_ hvn_ hvc_
        rw [hva_] at ge247_4
        rw [hvc_] at ul247_4
        have HL247_4 := Aside0.mk (show Kd.V k80 80 _ w.heap.size _ _ ((rd_T33 l0_6 x4_1).f4) from Kd.V_mk ul247_4 ge247_4)
        clear hva_ hvn_ hvc_ ge247_4 ul247_4
        have hv247_5 := hcc247 5 _ rfl
        rw [add_field _ _ 5 (by omega)] at hv247_5
        replace hv247_5 := Option.some.inj (hv247_5.symm.trans hx247_5)
        injection hv247_5 with hva_ hvn_ hvc_
        rw [hva_] at ge247_5
        rw [hvc_] at ul247_5
        have HL247_5 := Aside0.mk (show Kd.V k75 75 _ w.heap.size _ _ ((rd_T33 l0_6 x4_1).f5) from Kd.V_mk ul247_5 ge247_5)
        clear hva_ hvn_ hvc_ ge247_5 ul247_5
        have hv247_6 := hcc247 6 _ rfl
        rw [add_field _ _ 6 (by omega)] at hv247_6
        replace hv247_6 := Option.some.inj (hv247_6.symm.trans hx247_6)
        injection hv247_6 with hva_ hvn_ hvc_
        rw [hva_] at ge247_6
        rw [hvc_] at ul247_6
        have HL247_6 := Aside0.mk (show Kd.V k33 33 _ w.heap.size _ _ ((rd_T33 l0_6 x4_1).f6) from Kd.V_mk ul247_6 ge247_6)
        clear hva_ hvn_ hvc_ ge247_6 ul247_6
        clear hcc247 hce247
        have HR247_4 := Aside0.mk hi247_4
        have HC247_4 := Aside0.mk hl247_4
        clear hi247_4 hl247_4
        have HR247_5 := Aside0.mk hi247_5
        have HC247_5 := Aside0.mk hl247_5
        clear hi247_5 hl247_5
        have HR247_6 := Aside0.mk hi247_6
        have HC247_6 := Aside0.mk hl247_6
        clear hi247_6 hl247_6
        replace p247 := eq_true p247
        replace q247 := eq_true q247
        have p248 : 0 ≤ (x4_1 : Int) := odt
        have q248 : x4_1 < (l0_6.length : Int) := odt
        obtain ⟨ad248, A248_4, c248_4, A248_5, c248_5, A248_6, c248_6, e248, hx248_0, hx248_1, hx248_2, hx248_3, hx248_4, hx248_5, hx248_6, hx248_7, hl248_4, hi248_4, hl248_5, hi248_5, hl248_6, hi248_6⟩ := at_T33 (Kd.V_reads' HO_241006.out).2.2 x4_1 p248 q248
        obtain rfl : ad247 = ad248 := (by injection e248)
        obtain ⟨ce248, hce248, hMe248, hcc248⟩ := Kd.V_get HO_241006.out z33 x4_1 p248 (by first | exact q248 | exact odt | (have e_ := (Kd.V_reads' HO_241006.out).1; omega))
        obtain ⟨ua248_4, uc248_4, ua248_5, uc248_5, ua248_6, uc248_6, rfl, ul248_4, ge248_4, ul248_5, ge248_5, ul248_6, ge248_6⟩ := k33_openF hMe248
        have hv248_4 := hcc248 4 _ rfl
        rw [add_field _ _ 4 (by omega)] at hv248_4
        replace hv248_4 := Option.some.inj (hv248_4.symm.trans hx248_4)
        injection hv248_4 with hva_ hvn_ hvc_
        rw [hva_] at ge248_4
        rw [hvc_] at ul248_4
        have HL248_4 := Aside0.mk (show Kd.V k80 80 _ w.heap.size _ _ ((rd_T33 l0_6 x4_1).f4) from Kd.V_mk ul248_4 ge248_4)
        clear hva_ hvn_ hvc_ ge248_4 ul248_4
        have hv248_5 := hcc248 5 _ rfl
        rw [add_field _ _ 5 (by omega)] at hv248_5
        replace hv248_5 := Option.some.inj (hv248_5.symm.trans hx248_5)
        injection hv248_5 with hva_ hvn_ hvc_
        rw [hva_] at ge248_5
        rw [hvc_] at ul248_5
        have HL248_5 := Aside0.mk (show Kd.V k75 75 _ w.heap.size _ _ ((rd_T33 l0_6 x4_1).f5) from Kd.V_mk ul248_5 ge248_5)
        clear hva_ hvn_ hvc_ ge248_5 ul248_5
        have hv248_6 := hcc248 6 _ rfl
        rw [add_field _ _ 6 (by omega)] at hv248_6
        replace hv248_6 := Option.some.inj (hv248_6.symm.trans hx248_6)
        injection hv248_6 with hva_ hvn_ hvc_
        rw [hva_] at ge248_6
        rw [hvc_] at ul248_6
        have HL248_6 := Aside0.mk (show Kd.V k33 33 _ w.heap.size _ _ ((rd_T33 l0_6 x4_1).f6) from Kd.V_mk ul248_6 ge248_6)
        clear hva_ hvn_ hvc_ ge248_6 ul248_6
        clear hcc248 hce248
        have HR248_4 := Aside0.mk hi248_4
        have HC248_4 := Aside0.mk hl248_4
        clear hi248_4 hl248_4
        have HR248_5 := Aside0.mk hi248_5
        have HC248_5 := Aside0.mk hl248_5
        clear hi248_5 hl248_5
        have HR248_6 := Aside0.mk hi248_6
        have HC248_6 := Aside0.mk hl248_6
        clear hi248_6 hl248_6
        replace p248 := eq_true p248
        replace q248 := eq_true q248
        have ea_ := Option.some.inj (hx247_4.symm.trans hx248_4)
        injection ea_ with ea_ en_ ec_
        subst ea_
        subst ec_
        clear en_
        have ea_ := Option.some.inj (hx247_5.symm.trans hx248_5)
        injection ea_ with ea_ en_ ec_
        subst ea_
        subst ec_
        clear en_
        have ea_ := Option.some.inj (hx247_6.symm.trans hx248_6)
        injection ea_ with ea_ en_ ec_
        subst ea_
        subst ec_
        clear en_
        go_wp2
        go_ret
        exact ⟨rE, hB⟩
       ·rw [if_neg c12] at H
        obtain ⟨c12b0, c12b1⟩ := eqF c12
        have H' := Aside0.mk H
        clear H
        obtain ⟨hcz14_0, hcz14_1, hcz14_2, hcz14_3, hcz14_4, hcz14_5, hcz14_6, hcz14_7⟩ := bc8 BK240.out
        have p247 : 0 ≤ (x4_1 : Int) := odt
        have q247 : x4_1 < (l0_6.length : Int) := odt
        obtain ⟨ad247, A247_4, c247_4, A247_5, c247_5, A247_6, c247_6, e247, hx247_0, hx247_1, hx247_2, hx247_3, hx247_4, hx247_5, hx247_6, hx247_7, hl247_4, hi247_4, hl247_5, hi247_5, hl247_6, hi247_6⟩ := at_T33 (Kd.V_reads' HO_241006.out).2.2 x4_1 p247 q247
        cases e247
        obtain ⟨ce247, hce247, hMe247, hcc247⟩ := Kd.V_get HO_241006.out z33 x4_1 p247 (by first | exact q247 | exact odt | (have e_ := (Kd.V_reads' HO_241006.out).1; omega))
        obtain ⟨ua247_4, uc247_4, ua247_5, uc247_5, ua247_6, uc247_6, rfl, ul247_4, ge247_4, ul247_5, ge247_5, ul247_6, ge247_6⟩ := k33_openF hMe247
        have hv247_4 := hcc247 4 _ rfl
        rw [add_field _ _ 4 (by omega)] at hv247_4
        replace hv247_4 := Option.some.inj (hv247_4.symm.trans hx247_4)
        injection hv247_4 with hva_ hvn_ hvc_
        rw [hva_] at ge247_4
        rw [hvc_] at ul247_4
        have HL247_4 := Aside0.mk (show Kd.V k80 80 _ w.heap.size _ _ ((rd_T33 l0_6 x4_1).f4) from Kd.V_mk ul247_4 ge247_4)
        clear hva_ hvn_ hvc_ ge247_4 ul247_4
        have hv247_5 := hcc247 5 _ rfl
        rw [add_field _ _ 5 (by omega)] at hv247_5
        replace hv247_5 := Option.some.inj (hv247_5.symm.trans hx247_5)
        injection hv247_5 with hva_ hvn_ hvc_
        rw [hva_] at ge247_5
        rw [hvc_] at ul247_5
        have HL247_5 := Aside0.mk (show Kd.V k75 75 _ w.heap.size _ _ ((rd_T33 l0_6 x4_1).f5) from Kd.V_mk ul247_5 ge247_5)
        clear hva_ hvn_ hvc_ ge247_5 ul247_5
        have hv247_6 := hcc247 6 _ rfl
        rw [add_field _ _ 6 (by omega)] at hv247_6
        replace hv247_6 := Option.some.inj (hv247_6.symm.trans hx247_6)
        injection hv247_6 with hva_ hvn_ hvc_
        rw [hva_] at ge247_6
        rw [hvc_] at ul247_6
        have HL247_6 := Aside0.mk (show Kd.V k33 33 _ w.heap.size _ _ ((rd_T33 l0_6 x4_1).f6) from Kd.V_mk ul247_6 ge247_6)
        clear hva_ hvn_ hvc_ ge247_6 ul247_6
        clear hcc247 hce247
        have HR247_4 := Aside0.mk hi247_4
        have HC247_4 := Aside0.mk hl247_4
        clear hi247_4 hl247_4
        have HR247_5 := Aside0.mk hi247_5
        have HC247_5 := Aside0.mk hl247_5
        clear hi247_5 hl247_5
        have HR247_6 := Aside0.mk hi247_6
        have HC247_6 := Aside0.mk hl247_6
        clear hi247_6 hl247_6
        replace p247 := eq_true p247
        replace q247 := eq_true q247
        have p248 : 0 ≤ (x4_1 : Int) := odt
        have q248 : x4_1 < (l0_6.length : Int) := odt
        obtain ⟨ad248, A248_4, c248_4, A248_5, c248_5, A248_6, c248_6, e248, hx248_0, hx248_1, hx248_2, hx248_3, hx248_4, hx248_5, hx248_6, hx248_7, hl248_4, hi248_4, hl248_5, hi248_5, hl248_6, hi248_6⟩ := at_T33 (Kd.V_reads' HO_241006.out).2.2 x4_1 p248 q248
        obtain rfl : ad247 = ad248 := (by injection e248)
        obtain ⟨ce248, hce248, hMe248, hcc248⟩ := Kd.V_get HO_241006.out z33 x4_1 p248 (by first | exact q248 | exact odt | (have e_ := (Kd.V_reads' HO_241006.out).1; omega))
        obtain ⟨ua248_4, uc248_4, ua248_5, uc248_5, ua248_6, uc248_6, rfl, ul248_4, ge248_4, ul248_5, ge248_5, ul248_6, ge248_6⟩ := k33_openF hMe248
        have hv248_4 := hcc248 4 _ rfl
        rw [add_field _ _ 4 (by omega)] at hv248_4
        replace hv248_4 := Option.some.inj (hv248_4.symm.trans hx248_4)
        injection hv248_4 with hva_ hvn_ hvc_
        rw [hva_] at ge248_4
        rw [hvc_] at ul248_4
        have HL248_4 := Aside0.mk (show Kd.V k80 80 _ w.heap.size _ _ ((rd_T33 l0_6 x4_1).f4) from Kd.V_mk ul248_4 ge248_4)
        clear hva_ hvn_ hvc_ ge248_4 ul248_4
        have hv248_5 := hcc248 5 _ rfl
        rw [add_field _ _ 5 (by omega)] at hv248_5
        replace hv248_5 := Option.some.inj (hv248_5.symm.trans hx248_5)
        injection hv248_5 with hva_ hvn_ hvc_
        rw [hva_] at ge248_5
        rw [hvc_] at ul248_5
        have HL248_5 := Aside0.mk (show Kd.V k75 75 _ w.heap.size _ _ ((rd_T33 l0_6 x4_1).f5) from Kd.V_mk ul248_5 ge248_5)
        clear hva_ hvn_ hvc_ ge248_5 ul248_5
        have hv248_6 := hcc248 6 _ rfl
        rw [add_field _ _ 6 (by omega)] at hv248_6
        replace hv248_6 := Option.some.inj (hv248_6.symm.trans hx248_6)
        injection hv248_6 with hva_ hvn_ hvc_
        rw [hva_] at ge248_6
        rw [hvc_] at ul248_6
        have HL248_6 := Aside0.mk (show Kd.V k33 33 _ w.heap.size _ _ ((rd_T33 l0_6 x4_1).f6) from Kd.V_mk ul248_6 ge248_6)
        clear hva_ hvn_ hvc_ ge248_6 ul248_6
        clear hcc248 hce248
        have HR248_4 := Aside0.mk hi248_4
        have HC248_4 := Aside0.mk hl248_4
        clear hi248_4 hl248_4
        have HR248_5 := Aside0.mk hi248_5
        have HC248_5 := Aside0.mk hl248_5
        clear hi248_5 hl248_5
        have HR248_6 := Aside0.mk hi248_6
        have HC248_6 := Aside0.mk hl248_6
        clear hi248_6 hl248_6
        replace p248 := eq_true p248
        replace q248 := eq_true q248
        have ea_ := Option.some.inj (hx247_4.symm.trans hx248_4)
        injection ea_ with ea_ en_ ec_
        subst ea_
        subst ec_
        clear en_
        have ea_ := Option.some.inj (hx247_5.symm.trans hx248_5)
        injection ea_ with ea_ en_ ec_
        subst ea_
        subst ec_
        clear en_
        have ea_ := Option.some.inj (hx247_6.symm.trans hx248_6)
        injection ea_ with ea_ en_ ec_
        subst ea_
        subst ec_
        clear en_
        go_wp2
        go_roundg k1
        case measure => have := HK1.out; omega
        case rel => exact ⟨(wrap64 (x3_1 + 1)), (wrap64 (x4_1 + 1)), rG, rG, H', ⟨by have := HK1.out; omega⟩, ⟨by (with_reducible repeat (first | apply Kd.V_alloc | apply Kd.V_drewN | apply Kd.V_drew)); exact HO_241004.out⟩, ⟨by (with_reducible repeat (first | apply Kd.V_alloc | apply Kd.V_drewN | apply Kd.V_drew)); exact HO_241005.out⟩, ⟨by (with_reducible repeat (first | apply Kd.V_alloc | apply Kd.V_drewN | apply Kd.V_drew)); exact HO_241006.out⟩, ⟨by (with_reducible repeat (first | refine bN ?_ _|refine bD ?_|refine bA ?_ _)); exact BK240.out⟩, ⟨hB⟩⟩
      ·rw [if_neg c11] at H
       obtain ⟨c11b0, c11b1⟩ := eqF c11
       by_cases c15 : ((rd_T33 l0_6 x4_1).f0) = 2
       ·rw [if_pos c15] at H
        obtain ⟨c15b0, c15b1⟩ := eqT c15
        clear c15
        obtain rfl := Option.some.inj H
        obtain ⟨hcz16_0, hcz16_1, hcz16_2, hcz16_3, hcz16_4, hcz16_5, hcz16_6, hcz16_7⟩ := bc8 BK240.out
        have p247 : 0 ≤ (x4_1 : Int) := odt
        have q247 : x4_1 < (l0_6.length : Int) := odt
        obtain ⟨ad247, A247_4, c247_4, A247_5, c247_5, A247_6, c247_6, e247, hx247_0, hx247_1, hx247_2, hx247_3, hx247_4, hx247_5, hx247_6, hx247_7, hl247_4, hi247_4, hl247_5, hi247_5, hl247_6, hi247_6⟩ := at_T33 (Kd.V_reads' HO_241006.out).2.2 x4_1 p247 q247
        cases e247
        obtain ⟨ce247, hce247, hMe247, hcc247⟩ := Kd.V_get HO_241006.out z33 x4_1 p247 (by first | exact q247 | exact odt | (have e_ := (Kd.V_reads' HO_241006.out).1; omega))
        obtain ⟨ua247_4, uc247_4, ua247_5, uc247_5, ua247_6, uc247_6, rfl, ul247_4, ge247_4, ul247_5, ge247_5, ul247_6, ge247_6⟩ := k33_openF hMe247
        have hv247_4 := hcc247 4 _ rfl
        rw [add_field _ _ 4 (by omega)] at hv247_4
        replace hv247_4 := Option.some.inj (hv247_4.symm.trans hx247_4)
        injection hv247_4 with hva_ hvn_ hvc_
        rw [hva_] at ge247_4
        rw [hvc_] at ul247_4
        have HL247_4 := Aside0.mk (show Kd.V k80 80 _ w.heap.size _ _ ((rd_T33 l0_6 x4_1).f4) from Kd.V_mk ul247_4 ge247_4)
        clear hva_ hvn_ hvc_ ge247_4 ul247_4
        have hv247_5 := hcc247 5 _ rfl
        rw [add_field _ _ 5 (by omega)] at hv247_5
        replace hv247_5 := Option.some.inj (hv247_5.symm.trans hx247_5)
        injection hv247_5 with hva_ hvn_ hvc_
        rw [hva_] at ge247_5
        rw [hvc_] at ul247_5
        have HL247_5 := Aside0.mk (show Kd.V k75 75 _ w.heap.size _ _ ((rd_T33 l0_6 x4_1).f5) from Kd.V_mk ul247_5 ge247_5)
        clear hva_ hvn_ hvc_ ge247_5 ul247_5
        have hv247_6 := hcc247 6 _ rfl
        rw [add_field _ _ 6 (by omega)] at hv247_6
        replace hv247_6 := Option.some.inj (hv247_6.symm.trans hx247_6)
        injection hv247_6 with hva_ hvn_ hvc_
        rw [hva_] at ge247_6
        rw [hvc_] at ul247_6
        have HL247_6 := Aside0.mk (show Kd.V k33 33 _ w.heap.size _ _ ((rd_T33 l0_6 x4_1).f6) from Kd.V_mk ul247_6 ge247_6)
        clear hva_ hvn_ hvc_ ge247_6 ul247_6
        clear hcc247 hce247
        have HR247_4 := Aside0.mk hi247_4
        have HC247_4 := Aside0.mk hl247_4
        clear hi247_4 hl247_4
        have HR247_5 := Aside0.mk hi247_5
        have HC247_5 := Aside0.mk hl247_5
        clear hi247_5 hl247_5
        have HR247_6 := Aside0.mk hi247_6
        have HC247_6 := Aside0.mk hl247_6
        clear hi247_6 hl247_6
        replace p247 := eq_true p247
        replace q247 := eq_true q247
        have p249 : 0 ≤ (x4_1 : Int) := odt
        have q249 : x4_1 < (l0_6.length : Int) := odt
        obtain ⟨ad249, A249_4, c249_4, A249_5, c249_5, A249_6, c249_6, e249, hx249_0, hx249_1, hx249_2, hx249_3, hx249_4, hx249_5, hx249_6, hx249_7, hl249_4, hi249_4, hl249_5, hi249_5, hl249_6, hi249_6⟩ := at_T33 (Kd.V_reads' HO_241006.out).2.2 x4_1 p249 q249
        obtain rfl : ad247 = ad249 := (by injection e249)
        obtain ⟨ce249, hce249, hMe249, hcc249⟩ := Kd.V_get HO_241006.out z33 x4_1 p249 (by first | exact q249 | exact odt | (have e_ := (Kd.V_reads' HO_241006.out).1; omega))
        obtain ⟨ua249_4, uc249_4, ua249_5, uc249_5, ua249_6, uc249_6, rfl, ul249_4, ge249_4, ul249_5, ge249_5, ul249_6, ge249_6⟩ := k33_openF hMe249
        have hv249_4 := hcc249 4 _ rfl
        rw [add_field _ _ 4 (by omega)] at hv249_4
        replace hv249_4 := Option.some.inj (hv249_4.symm.trans hx249_4)
        injection hv249_4 with hva_ hvn_ hvc_
        rw [hva_] at ge249_4
        rw [hvc_] at ul249_4
        have HL249_4 := Aside0.mk (show Kd.V k80 80 _ w.heap.size _ _ ((rd_T33 l0_6 x4_1).f4) from Kd.V_mk ul249_4 ge249_4)
        clear hva_ hvn_ hvc_ ge249_4 ul249_4
        have hv249_5 := hcc249 5 _ rfl
        rw [add_field _ _ 5 (by omega)] at hv249_5
        replace hv249_5 := Option.some.inj (hv249_5.symm.trans hx249_5)
        injection hv249_5 with hva_ hvn_ hvc_
        rw [hva_] at ge249_5
        rw [hvc_] at ul249_5
        have HL249_5 := Aside0.mk (show Kd.V k75 75 _ w.heap.size _ _ ((rd_T33 l0_6 x4_1).f5) from Kd.V_mk ul249_5 ge249_5)
        clear hva_ hvn_ hvc_ ge249_5 ul249_5
        have hv249_6 := hcc249 6 _ rfl
        rw [add_field _ _ 6 (by omega)] at hv249_6
        replace hv249_6 := Option.some.inj (hv249_6.symm.trans hx249_6)
        injection hv249_6 with hva_ hvn_ hvc_
        rw [hva_] at ge249_6
        rw [hvc_] at ul249_6
        have HL249_6 := Aside0.mk (show Kd.V k33 33 _ w.heap.size _ _ ((rd_T33 l0_6 x4_1).f6) from Kd.V_mk ul249_6 ge249_6)
        clear hva_ hvn_ hvc_ ge249_6 ul249_6
        clear hcc249 hce249
        have HR249_4 := Aside0.mk hi249_4
        have HC249_4 := Aside0.mk hl249_4
        clear hi249_4 hl249_4
        have HR249_5 := Aside0.mk hi249_5
        have HC249_5 := Aside0.mk hl249_5
        clear hi249_5 hl249_5
        have HR249_6 := Aside0.mk hi249_6
        have HC249_6 := Aside0.mk hl249_6
        clear hi249_6 hl249_6
        replace p249 := eq_true p249
        replace q249 := eq_true q249
        have ea_ := Option.some.inj (hx247_4.symm.trans hx249_4)
        injection ea_ with ea_ en_ ec_
        subst ea_
        subst ec_
        clear en_
        have ea_ := Option.some.inj (hx247_5.symm.trans hx249_5)
        injection ea_ with ea_ en_ ec_
        subst ea_
        subst ec_
        clear en_
        have ea_ := Option.some.inj (hx247_6.symm.trans hx249_6)
        injection ea_ with ea_ en_ ec_
        subst ea_
        subst ec_
        clear en_
        go_wp2
        go_ret
        exact ⟨rE, hB⟩
       ·rw [if_neg c15] at H
        obtain ⟨c15b0, c15b1⟩ := eqF c15
        have H' := Aside0.mk H
        clear H
        obtain ⟨hcz17_0, hcz17_1, hcz17_2, hcz17_3, hcz17_4, hcz17_5, hcz17_6, hcz17_7⟩ := bc8 BK240.out
        have p247 : 0 ≤ (x4_1 : Int) := odt
        have q247 : x4_1 < (l0_6.length : Int) := odt
        obtain ⟨ad247, A247_4, c247_4, A247_5, c247_5, A247_6, c247_6, e247, hx247_0, hx247_1, hx247_2, hx247_3, hx247_4, hx247_5, hx247_6, hx247_7, hl247_4, hi247_4, hl247_5, hi247_5, hl247_6, hi247_6⟩ := at_T33 (Kd.V_reads' HO_241006.out).2.2 x4_1 p247 q247
        cases e247
        obtain ⟨ce247, hce247, hMe247, hcc247⟩ := Kd.V_get HO_241006.out z33 x4_1 p247 (by first | exact q247 | exact odt | (have e_ := (Kd.V_reads' HO_241006.out).1; omega))
        obtain ⟨ua247_4, uc247_4, ua247_5, uc247_5, ua247_6, uc247_6, rfl, ul247_4, ge247_4, ul247_5, ge247_5, ul247_6, ge247_6⟩ := k33_openF hMe247
        have hv247_4 := hcc247 4 _ rfl
        rw [add_field _ _ 4 (by omega)] at hv247_4
        replace hv247_4 := Option.some.inj (hv247_4.symm.trans hx247_4)
        injection hv247_4 with hva_ hvn_ hvc_
        rw [hva_] at ge247_4
        rw [hvc_] at ul247_4
        have HL247_4 := Aside0.mk (show Kd.V k80 80 _ w.heap.size _ _ ((rd_T33 l0_6 x4_1).f4) from Kd.V_mk ul247_4 ge247_4)
        clear hva_ hvn_ hvc_ ge247_4 ul247_4
        have hv247_5 := hcc247 5 _ rfl
        rw [add_field _ _ 5 (by omega)] at hv247_5
        replace hv247_5 := Option.some.inj (hv247_5.symm.trans hx247_5)
        injection hv247_5 with hva_ hvn_ hvc_
        rw [hva_] at ge247_5
        rw [hvc_] at ul247_5
        have HL247_5 := Aside0.mk (show Kd.V k75 75 _ w.heap.size _ _ ((rd_T33 l0_6 x4_1).f5) from Kd.V_mk ul247_5 ge247_5)
        clear hva_ hvn_ hvc_ ge247_5 ul247_5
        have hv247_6 := hcc247 6 _ rfl
        rw [add_field _ _ 6 (by omega)] at hv247_6
        replace hv247_6 := Option.some.inj (hv247_6.symm.trans hx247_6)
        injection hv247_6 with hva_ hvn_ hvc_
        rw [hva_] at ge247_6
        rw [hvc_] at ul247_6
        have HL247_6 := Aside0.mk (show Kd.V k33 33 _ w.heap.size _ _ ((rd_T33 l0_6 x4_1).f6) from Kd.V_mk ul247_6 ge247_6)
        clear hva_ hvn_ hvc_ ge247_6 ul247_6
        clear hcc247 hce247
        have HR247_4 := Aside0.mk hi247_4
        have HC247_4 := Aside0.mk hl247_4
        clear hi247_4 hl247_4
        have HR247_5 := Aside0.mk hi247_5
        have HC247_5 := Aside0.mk hl247_5
        clear hi247_5 hl247_5
        have HR247_6 := Aside0.mk hi247_6
        have HC247_6 := Aside0.mk hl247_6
        clear hi247_6 hl247_6
        replace p247 := eq_true p247
        replace q247 := eq_true q247
        have p249 : 0 ≤ (x4_1 : Int) := odt
        have q249 : x4_1 < (l0_6.length : Int) := odt
        obtain ⟨ad249, A249_4, c249_4, A249_5, c249_5, A249_6, c249_6, e249, hx249_0, hx249_1, hx249_2, hx249_3, hx249_4, hx249_5, hx249_6, hx249_7, hl249_4, hi249_4, hl249_5, hi249_5, hl249_6, hi249_6⟩ := at_T33 (Kd.V_reads' HO_241006.out).2.2 x4_1 p249 q249
        obtain rfl : ad247 = ad249 := (by injection e249)
        obtain ⟨ce249, hce249, hMe249, hcc249⟩ := Kd.V_get HO_241006.out z33 x4_1 p249 (by first | exact q249 | exact odt | (have e_ := (Kd.V_reads' HO_241006.out).1; omega))
        obtain ⟨ua249_4, uc249_4, ua249_5, uc249_5, ua249_6, uc249_6, rfl, ul249_4, ge249_4, ul249_5, ge249_5, ul249_6, ge249_6⟩ := k33_openF hMe249
        have hv249_4 := hcc249 4 _ rfl
        rw [add_field _ _ 4 (by omega)] at hv249_4
        replace hv249_4 := Option.some.inj (hv249_4.symm.trans hx249_4)
        injection hv249_4 with hva_ hvn_ hvc_
        rw [hva_] at ge249_4
        rw [hvc_] at ul249_4
        have HL249_4 := Aside0.mk (show Kd.V k80 80 _ w.heap.size _ _ ((rd_T33 l0_6 x4_1).f4) from Kd.V_mk ul249_4 ge249_4)
        clear hva_ hvn_ hvc_ ge249_4 ul249_4
        have hv249_5 := hcc249 5 _ rfl
        rw [add_field _ _ 5 (by omega)] at hv249_5
        replace hv249_5 := Option.some.inj (hv249_5.symm.trans hx249_5)
        injection hv249_5 with hva_ hvn_ hvc_
        rw [hva_] at ge249_5
        rw [hvc_] at ul249_5
        have HL249_5 := Aside0.mk (show Kd.V k75 75 _ w.heap.size _ _ ((rd_T33 l0_6 x4_1).f5) from Kd.V_mk ul249_5 ge249_5)
        clear hva_ hvn_ hvc_ ge249_5 ul249_5
        have hv249_6 := hcc249 6 _ rfl
        rw [add_field _ _ 6 (by omega)] at hv249_6
        replace hv249_6 := Option.some.inj (hv249_6.symm.trans hx249_6)
        injection hv249_6 with hva_ hvn_ hvc_
        rw [hva_] at ge249_6
        rw [hvc_] at ul249_6
        have HL249_6 := Aside0.mk (show Kd.V k33 33 _ w.heap.size _ _ ((rd_T33 l0_6 x4_1).f6) from Kd.V_mk ul249_6 ge249_6)
        clear hva_ hvn_ hvc_ ge249_6 ul249_6
        clear hcc249 hce249
        have HR249_4 := Aside0.mk hi249_4
        have HC249_4 := Aside0.mk hl249_4
        clear hi249_4 hl249_4
        have HR249_5 := Aside0.mk hi249_5
        have HC249_5 := Aside0.mk hl249_5
        clear hi249_5 hl249_5
        have HR249_6 := Aside0.mk hi249_6
        have HC249_6 := Aside0.mk hl249_6
        clear hi249_6 hl249_6
        replace p249 := eq_true p249
        replace q249 := eq_true q249
        have ea_ := Option.some.inj (hx247_4.symm.trans hx249_4)
        injection ea_ with ea_ en_ ec_
        subst ea_
        subst ec_
        clear en_
        have ea_ := Option.some.inj (hx247_5.symm.trans hx249_5)
        injection ea_ with ea_ en_ ec_
        subst ea_
        subst ec_
        clear en_
        have ea_ := Option.some.inj (hx247_6.symm.trans hx249_6)
        injection ea_ with ea_ en_ ec_
        subst ea_
        subst ec_
        clear en_
        go_wp2
        go_roundg k1
        case measure => have := HK1.out; omega
        case rel => exact ⟨(x3_1), (wrap64 (x4_1 + 1)), rG, rG, H', ⟨by have := HK1.out; omega⟩, ⟨by (with_reducible repeat (first | apply Kd.V_alloc | apply Kd.V_drewN | apply Kd.V_drew)); exact HO_241004.out⟩, ⟨by (with_reducible repeat (first | apply Kd.V_alloc | apply Kd.V_drewN | apply Kd.V_drew)); exact HO_241005.out⟩, ⟨by (with_reducible repeat (first | apply Kd.V_alloc | apply Kd.V_drewN | apply Kd.V_drew)); exact HO_241006.out⟩, ⟨by (with_reducible repeat (first | refine bN ?_ _|refine bD ?_|refine bA ?_ _)); exact BK240.out⟩, ⟨hB⟩⟩
     ·rw [if_neg c9] at H
      have c9b0 : decide (x4_1 < (l0_6.length : Int)) = false := decide_eq_false c9
      clear c9
      by_cases c18 : x3_1 = 1
      ·rw [if_pos c18] at H
       obtain ⟨c18b0, c18b1⟩ := eqT c18
       clear c18
       by_cases c19 : a0_1.toList = ([] : List UInt8)
       ·rw [if_pos c19] at H
        obtain ⟨c19b0, c19b1⟩ := eqT c19
        clear c19
        by_cases c20 : a0_2.toList = ([] : List UInt8)
        ·rw [if_pos c20] at H
         obtain ⟨c20b0, c20b1⟩ := eqT c20
         clear c20
         by_cases c21 : a0_3.toList = ([] : List UInt8)
         ·rw [if_pos c21] at H
          obtain ⟨c21b0, c21b1⟩ := eqT c21
          clear c21
          by_cases c22 : a0_7.toList = ([] : List UInt8)
          ·rw [if_pos c22] at H
           obtain ⟨c22b0, c22b1⟩ := eqT c22
           clear c22
           by_cases c23 : (l0_4.length : Int) = 0
           ·rw [if_pos c23] at H
            obtain ⟨c23b0, c23b1⟩ := eqT c23
            clear c23
            by_cases c24 : (l0_5.length : Int) = 0
            ·rw [if_pos c24] at H
             obtain ⟨c24b0, c24b1⟩ := eqT c24
             clear c24
             replace H := Option.bind_eq_some_iff.mp H
             obtain ⟨t246, A250, H⟩ := H
             try dsimp only at H
             have A25 := Aside0.mk A250
             clear A250
             obtain rfl := Option.some.inj H
             obtain ⟨hcz26_0, hcz26_1, hcz26_2, hcz26_3, hcz26_4, hcz26_5, hcz26_6, hcz26_7⟩ := bc8 BK240.out
             go_wp2_with (first | (go_at_call 56; (with_reducible refine (spec_l5Kids.calls k1 _ _ l0_6 0 t246 _ ?side1 ?side2 A25.out).mono ?_); (case side1 => repeat (first | exact (Kd.V_reads' HO_241006.out).2.2 | (with_reducible refine Kd.C_alloc ?_ _) | (with_reducible refine Kd.C_drewN ?_ _) | (with_reducible refine Kd.C_drew ?_))); (case side2 => exact (Kd.V_reads' HO_241006.out).2.1); rintro e w27 ⟨rfl, hb⟩; replace HO_241004 := Aside0.mk (Kd.V_below (by (with_reducible repeat (first | apply Kd.V_alloc | apply Kd.V_drewN | apply Kd.V_drew)); exact HO_241004.out) hb); replace HO_241005 := Aside0.mk (Kd.V_below (by (with_reducible repeat (first | apply Kd.V_alloc | apply Kd.V_drewN | apply Kd.V_drew)); exact HO_241005.out) hb); replace HO_241006 := Aside0.mk (Kd.V_below (by (with_reducible repeat (first | apply Kd.V_alloc | apply Kd.V_drewN | apply Kd.V_drew)); exact HO_241006.out) hb); replace BK240 := Aside0.mk (blk_below (g := gb240) (by (with_reducible repeat (first | refine bN ?_ _|refine bD ?_|refine bA ?_ _)); exact BK240.out) hb); replace HB := Aside0.mk (below_step hB hb); (try clear hb); (try clear hb2); (try clear hk); (try clear hi)))
             go_ret
             exact ⟨rE, hB⟩
            ·rw [if_neg c24] at H
             obtain ⟨c24b0, c24b1⟩ := eqF c24
             have c24b2 : ¬ (l0_5 = []) := fun h_ => c24 (by rw [h_]; rfl)
             obtain rfl := Option.some.inj H
             obtain ⟨hcz28_0, hcz28_1, hcz28_2, hcz28_3, hcz28_4, hcz28_5, hcz28_6, hcz28_7⟩ := bc8 BK240.out
             go_wp2
             go_ret
             exact ⟨rE, hB⟩
           ·rw [if_neg c23] at H
            obtain ⟨c23b0, c23b1⟩ := eqF c23
            have c23b2 : ¬ (l0_4 = []) := fun h_ => c23 (by rw [h_]; rfl)
            obtain rfl := Option.some.inj H
            obtain ⟨hcz29_0, hcz29_1, hcz29_2, hcz29_3, hcz29_4, hcz29_5, hcz29_6, hcz29_7⟩ := bc8 BK240.out
            go_wp2
            go_ret
            exact ⟨rE, hB⟩
          ·rw [if_neg c22] at H
           obtain ⟨c22b0, c22b1⟩ := eqF c22
           obtain rfl := Option.some.inj H
           obtain ⟨hcz30_0, hcz30_1, hcz30_2, hcz30_3, hcz30_4, hcz30_5, hcz30_6, hcz30_7⟩ := bc8 BK240.out
           go_wp2
           go_ret
           exact ⟨rE, hB⟩
         ·rw [if_neg c21] at H
          obtain ⟨c21b0, c21b1⟩ := eqF c21
          obtain rfl := Option.some.inj H
          obtain ⟨hcz31_0, hcz31_1, hcz31_2, hcz31_3, hcz31_4, hcz31_5, hcz31_6, hcz31_7⟩ := bc8 BK240.out
          go_wp2
          go_ret
          exact ⟨rE, hB⟩
        ·rw [if_neg c20] at H
         obtain ⟨c20b0, c20b1⟩ := eqF c20
         obtain rfl := Option.some.inj H
         obtain ⟨hcz32_0, hcz32_1, hcz32_2, hcz32_3, hcz32_4, hcz32_5, hcz32_6, hcz32_7⟩ := bc8 BK240.out
         go_wp2
         go_ret
         exact ⟨rE, hB⟩
       ·rw [if_neg c19] at H
        obtain ⟨c19b0, c19b1⟩ := eqF c19
        obtain rfl := Option.some.inj H
        obtain ⟨hcz33_0, hcz33_1, hcz33_2, hcz33_3, hcz33_4, hcz33_5, hcz33_6, hcz33_7⟩ := bc8 BK240.out
        go_wp2
        go_ret
        exact ⟨rE, hB⟩
      ·rw [if_neg c18] at H
       obtain ⟨c18b0, c18b1⟩ := eqF c18
       obtain rfl := Option.some.inj H
       obtain ⟨hcz34_0, hcz34_1, hcz34_2, hcz34_3, hcz34_4, hcz34_5, hcz34_6, hcz34_7⟩ := bc8 BK240.out
       go_wp2
       go_ret
       exact ⟨rE, hB⟩
  ·rw [if_neg c7] at H
   obtain ⟨c7b0, c7b1⟩ := eqF c7
   obtain ⟨y242, hy242⟩ : ∃ y_ : List (S33), y_ = (([(⟨a0_0, a0_1, a0_2, a0_3, l0_4, l0_5, l0_6, a0_7⟩ : S33)] : List (S33))) := ⟨_, rfl⟩
   replace H : ((spec_l5Kids.f k y242 0).bind fun t245 => (some t245)) = some r := by first | (rw [hy242]; with_reducible exact H) | (have H2_ := (Option.bind_some _ _).symm.trans H; rw [hy242]; with_reducible exact H2_) | (have H2_ := (Option.bind_some _ _).symm.trans H; with_reducible exact H2_) | with_reducible exact H | (rw [hy242]; exact H) | exact H
   have Ny242 := Aside0.mk hy242
   clear hy242
   replace H := Option.bind_eq_some_iff.mp H
   obtain ⟨t245, A350, H⟩ := H
   try dsimp only at H
   have A35 := Aside0.mk A350
   clear A350
   obtain rfl := Option.some.inj H
   obtain ⟨hcz36_0, hcz36_1, hcz36_2, hcz36_3, hcz36_4, hcz36_5, hcz36_6, hcz36_7⟩ := bc8 BK240.out
   go_wp2_with (first | ((with_reducible refine gate_dst (N := 12) rfl ?_); (try (refine gate_guard (by rfl) ?_; dsimp only)); refine Kd.N_lit k33 _ 33 ?hg (N' := 12) ?hd (xs := ([(⟨a0_0, a0_1, a0_2, a0_3, l0_4, l0_5, l0_6, a0_7⟩ : S33)] : List (S33))) (inner := [.int .i64 a0_0, .string a0_1, .string a0_2, .string a0_3, .slice A0_4 l0_4.length c0_4, .slice A0_5 l0_5.length c0_5, .slice A0_6 l0_6.length c0_6, .string a0_7]) (ok := (fun k_ => ((P0_4_ k_ ∨ P0_5_ k_ ∨ P0_6_ k_) ∨ w.heap.size ≤ k_) ∧ k_ ≠ gb240)) (okp := (fun k_ => ((P0_4_ k_ ∨ P0_5_ k_ ∨ P0_6_ k_) ∨ w.heap.size ≤ k_) ∧ k_ ≠ gb240)) ?hr ?hp (fun _ hk => hk) ((show ∀ k_, w5.heap.size ≤ k_ → (fun k_ => ((P0_4_ k_ ∨ P0_5_ k_ ∨ P0_6_ k_) ∨ w.heap.size ≤ k_) ∧ k_ ≠ gb240) k_ from fun k_ hk => ⟨(.inr (Nat.le_trans (below_size hB) hk)), Kd.freshB (g := gb240) (by (with_reducible repeat (first | refine bN ?_ _|refine bD ?_|refine bA ?_ _)); exact BK240.out) k_ hk⟩) _ (Nat.le_refl _)) (Below.refl _ _) (Nat.le_refl _) (by simp) ?_; (case hd => rfl); (case hg => rfl); (case hr => first | (go_simp; done) | (go_simp; rfl)); (case hp => exact (Reps.c8 (show Kd.FK k33 _ _ (⟨a0_0, a0_1, a0_2, a0_3, l0_4, l0_5, l0_6, a0_7⟩ : S33) [.int .i64 a0_0, .string a0_1, .string a0_2, .string a0_3, .slice A0_4 l0_4.length c0_4, .slice A0_5 l0_5.length c0_5, .slice A0_6 l0_6.length c0_6, .string a0_7] from (k33_mkF _ _ (⟨a0_0, a0_1, a0_2, a0_3, l0_4, l0_5, l0_6, a0_7⟩ : S33) (Kd.V_reads' (Kd.V_mono (ok' := (fun k_ => ((P0_4_ k_ ∨ P0_5_ k_ ∨ P0_6_ k_) ∨ w.heap.size ≤ k_) ∧ k_ ≠ gb240)) (HO0_4.out) (fun k_ hk => ⟨hk.1, hk.2⟩))).2.1 (Kd.V_F (Kd.V_mono (ok' := (fun k_ => ((P0_4_ k_ ∨ P0_5_ k_ ∨ P0_6_ k_) ∨ w.heap.size ≤ k_) ∧ k_ ≠ gb240)) (HO0_4.out) (fun k_ hk => ⟨hk.1, hk.2⟩))) (Kd.V_reads' (Kd.V_mono (ok' := (fun k_ => ((P0_4_ k_ ∨ P0_5_ k_ ∨ P0_6_ k_) ∨ w.heap.size ≤ k_) ∧ k_ ≠ gb240)) (HO0_5.out) (fun k_ hk => ⟨hk.1, hk.2⟩))).2.1 (Kd.V_F (Kd.V_mono (ok' := (fun k_ => ((P0_4_ k_ ∨ P0_5_ k_ ∨ P0_6_ k_) ∨ w.heap.size ≤ k_) ∧ k_ ≠ gb240)) (HO0_5.out) (fun k_ hk => ⟨hk.1, hk.2⟩))) (Kd.V_reads' (Kd.V_mono (ok' := (fun k_ => ((P0_4_ k_ ∨ P0_5_ k_ ∨ P0_6_ k_) ∨ w.heap.size ≤ k_) ∧ k_ ≠ gb240)) (HO0_6.out) (fun k_ hk => ⟨hk.1, hk.2⟩))).2.1 (Kd.V_F (Kd.V_mono (ok' := (fun k_ => ((P0_4_ k_ ∨ P0_5_ k_ ∨ P0_6_ k_) ∨ w.heap.size ≤ k_) ∧ k_ ≠ gb240)) (HO0_6.out) (fun k_ hk => ⟨hk.1, hk.2⟩))))) (Reps.none _ _))); intro v243 w37 ho38 hb hg_ hnew_; clear hg_ hnew_; (first | rw [← Ny242.out] at ho38 | (simp only [Int.reduceToNat] at ho38; rw [← Ny242.out] at ho38)); replace HO0_4 := Aside0.mk (Kd.V_elder' (by (with_reducible repeat (first | apply Kd.V_alloc | apply Kd.V_drewN | apply Kd.V_drew)); exact HO0_4.out) (Kd.N_base ho38) hb); replace HO0_5 := Aside0.mk (Kd.V_elder' (by (with_reducible repeat (first | apply Kd.V_alloc | apply Kd.V_drewN | apply Kd.V_drew)); exact HO0_5.out) (Kd.N_base ho38) hb); replace HO0_6 := Aside0.mk (Kd.V_elder' (by (with_reducible repeat (first | apply Kd.V_alloc | apply Kd.V_drewN | apply Kd.V_drew)); exact HO0_6.out) (Kd.N_base ho38) hb); have HO244 := Aside0.mk (Kd.N_lower ho38 (below_size hB)); replace BK240 := Aside0.mk (blk_below (g := gb240) (by (with_reducible repeat (first | refine bN ?_ _|refine bD ?_|refine bA ?_ _)); exact BK240.out) hb); replace HB := Aside0.mk (below_step hB hb); clear hb ho38; obtain ⟨Ao39, co39, eo39⟩ := Kd.N_slice HO244.out; subst eo39) | ((with_reducible refine gate_callee (f := 56) rfl ?_); refine goesL_ (some 13) rfl rfl Tryz.func56 (by kernel_rfl) rfl #[.slice Ao39 y242.length co39, .int .i64 0] rfl mA ?_; (with_reducible refine (spec_l5Kids.calls k _ _ y242 0 t245 _ ?side1 ?side2 A35.out).mono ?_); (case side1 => repeat (first | exact (Kd.N_reads' HO244.out).2.2 | (with_reducible refine Kd.C_alloc ?_ _) | (with_reducible refine Kd.C_drewN ?_ _) | (with_reducible refine Kd.C_drew ?_))); (case side2 => exact (Kd.N_reads' HO244.out).2.1); rintro e w40 ⟨rfl, hb⟩; refine ⟨_, rfl, ?_⟩; replace HO0_4 := Aside0.mk (Kd.V_below (by (with_reducible repeat (first | apply Kd.V_alloc | apply Kd.V_drewN | apply Kd.V_drew)); exact HO0_4.out) hb); replace HO0_5 := Aside0.mk (Kd.V_below (by (with_reducible repeat (first | apply Kd.V_alloc | apply Kd.V_drewN | apply Kd.V_drew)); exact HO0_5.out) hb); replace HO0_6 := Aside0.mk (Kd.V_below (by (with_reducible repeat (first | apply Kd.V_alloc | apply Kd.V_drewN | apply Kd.V_drew)); exact HO0_6.out) hb); replace HO244 := Aside0.mk (Kd.N_below (by (with_reducible repeat (first | apply Kd.N_alloc | apply Kd.N_drewN | apply Kd.N_drew)); exact HO244.out) hb); replace BK240 := Aside0.mk (blk_below (g := gb240) (by (with_reducible repeat (first | refine bN ?_ _|refine bD ?_|refine bA ?_ _)); exact BK240.out) hb); replace HB := Aside0.mk (below_step hB hb); (try clear hb); (try clear hb2); (try clear hk); (try clear hi)))
   go_ret
   exact ⟨rE, hB⟩

end Go.Proofs.YtlfjdaoibjjakaaGreatDoor.PW
