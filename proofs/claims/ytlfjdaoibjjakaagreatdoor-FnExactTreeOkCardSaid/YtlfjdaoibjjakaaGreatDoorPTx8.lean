-- Written by the session's program hprint.py, over the kit's print program. Lean checks it.
import Derived.Test.YtlfjdaoibjjakaaGreatDoorPTx0
import Derived.Test.YtlfjdaoibjjakaaGreatDoorPTx1
import Derived.Test.YtlfjdaoibjjakaaGreatDoorPTx7
namespace Go.Proofs.YtlfjdaoibjjakaaGreatDoor.PT
open Go.RowKit Go.Proofs.YtlfjdaoibjjakaaGreatDoorW.PrintWords Go.Proofs.YtlfjdaoibjjakaaGreatDoorW.PrintLast Go.Proofs.YtlfjdaoibjjakaaGreatDoorW.PrintMore
attribute [local go_sem] max2_int min2_int max_two min_two max_three min_three max_four min_four   -- for this text's walks alone
set_option linter.unusedVariables false
set_option linter.unusedSimpArgs false
set_option maxHeartbeats 8000000
set_option maxRecDepth 100000

/-! ### spec_NodeOk: function 22 -/
def spec_NodeOk.l0 : Nat → Int → Int → Int → ByteArray → ByteArray → ByteArray → List (S80) → List (S75) → List (S33) → ByteArray → Option (Bool)
 | 0, _, _, _, _, _, _, _, _, _, _ => none
 | k + 1, x3, x4, x192000, x192001, x192002, x192003, x192004, x192005, x192006, x192007 => if x4 < (x192006.length : Int) then (if 0 ≤ x4 then (if ((rd_T33 x192006 x4).f0) = 1 then (if ((rd_T33 x192006 x4).f0) = 2 then (some false) else (spec_NodeOk.l0 k (wrap64 (x3 + 1)) (wrap64 (x4 + 1)) x192000 x192001 x192002 x192003 x192004 x192005 x192006 x192007)) else (if ((rd_T33 x192006 x4).f0) = 2 then (some false) else (spec_NodeOk.l0 k x3 (wrap64 (x4 + 1)) x192000 x192001 x192002 x192003 x192004 x192005 x192006 x192007))) else (none)) else (if x3 = 1 then (if x192001.toList = ([] : List UInt8) then (if x192002.toList = ([] : List UInt8) then (if x192003.toList = ([] : List UInt8) then (if x192007.toList = ([] : List UInt8) then (if (x192004.length : Int) = 0 then (if (x192005.length : Int) = 0 then ((spec_l5Kids.f k x192006 0).bind fun t197 => (some t197)) else (some false)) else (some false)) else (some false)) else (some false)) else (some false)) else (some false)) else (some false))
def spec_NodeOk.f (k : Nat) (a0_0 : Int) (a0_1 : ByteArray) (a0_2 : ByteArray) (a0_3 : ByteArray) (l0_4 : List (S80)) (l0_5 : List (S75)) (l0_6 : List (S33)) (a0_7 : ByteArray) : Option (Bool) := (spec_CountOf.f k a0_0 a0_1 a0_2 a0_3 l0_4 l0_5 l0_6 a0_7).bind fun t192 => (if t192 > 60 then (some false) else (if a0_0 = 0 then (spec_NodeOk.l0 k 0 0 a0_0 a0_1 a0_2 a0_3 l0_4 l0_5 l0_6 a0_7) else ((spec_l5Kids.f k (([(⟨a0_0, a0_1, a0_2, a0_3, l0_4, l0_5, l0_6, a0_7⟩ : S33)] : List (S33))) 0).bind fun t196 => (some t196))))
theorem spec_NodeOk.calls (k : Nat) (a0_0 : Int) (a0_1 : ByteArray) (a0_2 : ByteArray) (a0_3 : ByteArray) (P0_4_ : Nat → Prop) (A0_4 : Option Addr) (c0_4 : Nat) (l0_4 : List (S80)) (P0_5_ : Nat → Prop) (A0_5 : Option Addr) (c0_5 : Nat) (l0_5 : List (S75)) (P0_6_ : Nat → Prop) (A0_6 : Option Addr) (c0_6 : Nat) (l0_6 : List (S33)) (a0_7 : ByteArray) (r : Bool) (w : World) (hs0_4 : Kd.V k80 80 w w.heap.size (fun k_ => P0_4_ k_) (.slice A0_4 l0_4.length c0_4) l0_4) (hs0_5 : Kd.V k75 75 w w.heap.size (fun k_ => P0_5_ k_) (.slice A0_5 l0_5.length c0_5) l0_5) (hs0_6 : Kd.V k33 33 w w.heap.size (fun k_ => P0_6_ k_) (.slice A0_6 l0_6.length c0_6) l0_6) (h : spec_NodeOk.f k a0_0 a0_1 a0_2 a0_3 l0_4 l0_5 l0_6 a0_7 = some r) :
  Calls Tryz.prog 22 #[.agg #[.int .i64 a0_0, .string a0_1, .string a0_2, .string a0_3, .slice A0_4 l0_4.length c0_4, .slice A0_5 l0_5.length c0_5, .slice A0_6 l0_6.length c0_6, .string a0_7]] w fun e w' => e = .returned (.bool r) ∧ Below w.heap.size w w' := by
 have hu33 := Tryz.underlying33
 have HO0_4 := Aside0.mk (show Kd.V k80 80 w w.heap.size (fun k_ => ((P0_4_ k_ ∨ P0_5_ k_ ∨ P0_6_ k_) ∨ w.heap.size ≤ k_)) (.slice A0_4 l0_4.length c0_4) l0_4 from Kd.V_mono hs0_4 (fun k_ hk => .inl (.inl hk)))
 have HO0_5 := Aside0.mk (show Kd.V k75 75 w w.heap.size (fun k_ => ((P0_4_ k_ ∨ P0_5_ k_ ∨ P0_6_ k_) ∨ w.heap.size ≤ k_)) (.slice A0_5 l0_5.length c0_5) l0_5 from Kd.V_mono hs0_5 (fun k_ hk => .inl (.inr (.inl hk))))
 have HO0_6 := Aside0.mk (show Kd.V k33 33 w w.heap.size (fun k_ => ((P0_4_ k_ ∨ P0_5_ k_ ∨ P0_6_ k_) ∨ w.heap.size ≤ k_)) (.slice A0_6 l0_6.length c0_6) l0_6 from Kd.V_mono hs0_6 (fun k_ hk => .inl (.inr (.inr hk))))
 have HB := Aside0.mk (Below.refl w.heap.size w)
 have H : ((spec_CountOf.f k a0_0 a0_1 a0_2 a0_3 l0_4 l0_5 l0_6 a0_7).bind fun t192 => (if t192 > 60 then (some false) else (if a0_0 = 0 then (spec_NodeOk.l0 k 0 0 a0_0 a0_1 a0_2 a0_3 l0_4 l0_5 l0_6 a0_7) else ((spec_l5Kids.f k (([(⟨a0_0, a0_1, a0_2, a0_3, l0_4, l0_5, l0_6, a0_7⟩ : S33)] : List (S33))) 0).bind fun t196 => (some t196))))) = some r := h
 clear h
 replace H := Option.bind_eq_some_iff.mp H
 obtain ⟨t192, A20, H⟩ := H
 try dsimp only at H
 have A2 := Aside0.mk A20
 clear A20
 go_enter Tryz.func22, Tryz.ntmps22
 go_wp2_with (first | ((with_reducible refine gate_dst (N := 1) rfl ?_); (try (refine gate_guard (by rfl) ?_; dsimp only)); refine box_event ?hg (N := 1) ?hd (cs := #[.int .i64 a0_0, .string a0_1, .string a0_2, .string a0_3, .slice A0_4 l0_4.length c0_4, .slice A0_5 l0_5.length c0_5, .slice A0_6 l0_6.length c0_6, .string a0_7]) (t := 33) ?hr ?_; (case hd => rfl); (case hg => rfl); (case hr => first | (go_simp; done) | (go_simp; rfl)); intro gb191 hg w3 hbox hb; replace HO0_4 := Aside0.mk (Kd.V_below (Kd.V_elderB (by (with_reducible repeat (first | apply Kd.V_alloc | apply Kd.V_drewN | apply Kd.V_drew)); exact HO0_4.out) gb191 (Nat.le_of_eq hg.symm)) hb); replace HO0_5 := Aside0.mk (Kd.V_below (Kd.V_elderB (by (with_reducible repeat (first | apply Kd.V_alloc | apply Kd.V_drewN | apply Kd.V_drew)); exact HO0_5.out) gb191 (Nat.le_of_eq hg.symm)) hb); replace HO0_6 := Aside0.mk (Kd.V_below (Kd.V_elderB (by (with_reducible repeat (first | apply Kd.V_alloc | apply Kd.V_drewN | apply Kd.V_drew)); exact HO0_6.out) gb191 (Nat.le_of_eq hg.symm)) hb); have BK191 := Aside0.mk (hbox); have GW191 := Aside0.mk ((by rw [hg]; exact (below_size (by repeat (first|(with_reducible first|exact HB.out|apply zA|apply zN|apply zD) | exact HB.out))) : w.heap.size ≤ gb191)); have GE191 := Aside0.mk ((by rw [hg]; exact (below_size (by repeat (first|(with_reducible first|exact HB.out|apply zA|apply zN|apply zD) | exact HB.out))) : w.heap.size ≤ gb191)); replace HB := Aside0.mk (below_step (by repeat (first|(with_reducible first|exact HB.out|apply zA|apply zN|apply zD) | exact HB.out)) hb); clear hb hbox hg; obtain ⟨hcz4_0, hcz4_1, hcz4_2, hcz4_3, hcz4_4, hcz4_5, hcz4_6, hcz4_7⟩ := bc8 BK191.out) | ((with_reducible refine gate_callee (f := 25) rfl ?_); refine goesL_ (some 6) rfl rfl Tryz.func25 (by kernel_rfl) rfl #[.agg #[.int .i64 a0_0, .string a0_1, .string a0_2, .string a0_3, .slice A0_4 l0_4.length c0_4, .slice A0_5 l0_5.length c0_5, .slice A0_6 l0_6.length c0_6, .string a0_7]] rfl (by (try simp only [List.map_toArray, List.map_cons, List.map_nil]); first | done | rfl | (simp only [List.length_drop, List.length_take]; rfl)) ?_; (with_reducible refine (spec_CountOf.calls k a0_0 a0_1 a0_2 a0_3 _ _ l0_4 _ _ l0_5 _ _ l0_6 a0_7 t192 _ ?side1 ?side2 ?side3 ?side4 ?side5 ?side6 A2.out).mono ?_); (case side1 => repeat (first | exact (Kd.V_reads' HO0_4.out).2.2 | (with_reducible refine Kd.C_alloc ?_ _) | (with_reducible refine Kd.C_drewN ?_ _) | (with_reducible refine Kd.C_drew ?_))); (case side2 => exact (Kd.V_reads' HO0_4.out).2.1); (case side3 => repeat (first | exact (Kd.V_reads' HO0_5.out).2.2 | (with_reducible refine Kd.C_alloc ?_ _) | (with_reducible refine Kd.C_drewN ?_ _) | (with_reducible refine Kd.C_drew ?_))); (case side4 => exact (Kd.V_reads' HO0_5.out).2.1); (case side5 => repeat (first | exact (Kd.V_reads' HO0_6.out).2.2 | (with_reducible refine Kd.C_alloc ?_ _) | (with_reducible refine Kd.C_drewN ?_ _) | (with_reducible refine Kd.C_drew ?_))); (case side6 => exact (Kd.V_reads' HO0_6.out).2.1); rintro e w5 ⟨rfl, hb⟩; refine ⟨_, rfl, ?_⟩; replace HO0_4 := Aside0.mk (Kd.V_below (by (with_reducible repeat (first | apply Kd.V_alloc | apply Kd.V_drewN | apply Kd.V_drew)); exact HO0_4.out) hb); replace HO0_5 := Aside0.mk (Kd.V_below (by (with_reducible repeat (first | apply Kd.V_alloc | apply Kd.V_drewN | apply Kd.V_drew)); exact HO0_5.out) hb); replace HO0_6 := Aside0.mk (Kd.V_below (by (with_reducible repeat (first | apply Kd.V_alloc | apply Kd.V_drewN | apply Kd.V_drew)); exact HO0_6.out) hb); replace BK191 := Aside0.mk (blk_below (g := gb191) (by (with_reducible repeat (first | refine bN ?_ _|refine bD ?_|refine bA ?_ _)); exact BK191.out) hb); replace HB := Aside0.mk (below_step (by repeat (first|(with_reducible first|exact HB.out|apply zA|apply zN|apply zD | refine below_set ?_ GE191.out) | exact HB.out)) hb); (try clear hb); (try clear hb2); (try clear hk); (try clear hi); refine halt_ ?_; intro q_ hq_))
 obtain ⟨rfl⟩ := hq_
 by_cases c6 : t192 > 60
 ·rw [if_pos c6] at H
  have c6b0 : decide (60 < t192) = true := decide_eq_true c6
  clear c6
  obtain rfl := Option.some.inj H
  go_wp2
  go_ret
  exact ⟨rE, by repeat (first|(with_reducible first|exact HB.out|apply zA|apply zN|apply zD | refine below_set ?_ GE191.out) | exact HB.out)⟩
 ·rw [if_neg c6] at H
  have c6b0 : decide (60 < t192) = false := decide_eq_false c6
  clear c6
  by_cases c7 : a0_0 = 0
  ·rw [if_pos c7] at H
   have c7b0 : (a0_0 == 0) = true := beq_iff_eq.mpr c7
   have c7b1 : (a0_0 != 0) = false := bne_eq_false_iff_eq.mpr c7
   clear c7
   have H' := Aside0.mk H
   clear H
   obtain ⟨hcz8_0, hcz8_1, hcz8_2, hcz8_3, hcz8_4, hcz8_5, hcz8_6, hcz8_7⟩ := bc8 BK191.out
   go_wp2
   go_loopg [3, 4] k (fun kq v3 v4 w' => ∃ (x3_1 : Int) (x4_1 : Int), v3 = .int .i64 x3_1 ∧ v4 = .int .i64 x4_1 ∧ Aside0 (spec_NodeOk.l0 kq x3_1 x4_1 a0_0 a0_1 a0_2 a0_3 l0_4 l0_5 l0_6 a0_7 = some r) ∧ Aside0 (kq ≤ k) ∧ Aside0 (Kd.V k80 80 w' w.heap.size (fun k_ => ((P0_4_ k_ ∨ P0_5_ k_ ∨ P0_6_ k_) ∨ w.heap.size ≤ k_) ∧ k_ ≠ gb191) (.slice A0_4 l0_4.length c0_4) l0_4) ∧ Aside0 (Kd.V k75 75 w' w.heap.size (fun k_ => ((P0_4_ k_ ∨ P0_5_ k_ ∨ P0_6_ k_) ∨ w.heap.size ≤ k_) ∧ k_ ≠ gb191) (.slice A0_5 l0_5.length c0_5) l0_5) ∧ Aside0 (Kd.V k33 33 w' w.heap.size (fun k_ => ((P0_4_ k_ ∨ P0_5_ k_ ∨ P0_6_ k_) ∨ w.heap.size ≤ k_) ∧ k_ ≠ gb191) (.slice A0_6 l0_6.length c0_6) l0_6) ∧ Aside0 (w'.heap[gb191]? = some (.cells #[.int .i64 a0_0, .string a0_1, .string a0_2, .string a0_3, (.slice A0_4 l0_4.length c0_4), (.slice A0_5 l0_5.length c0_5), (.slice A0_6 l0_6.length c0_6), .string a0_7] 33 (0, 0))) ∧ Aside0 (Below w.heap.size w w'))
   case atStart => exact ⟨(0), (0), rG, rG, H', ⟨Nat.le_refl _⟩, ⟨by (with_reducible repeat (first | apply Kd.V_alloc | apply Kd.V_drewN | apply Kd.V_drew)); exact HO0_4.out⟩, ⟨by (with_reducible repeat (first | apply Kd.V_alloc | apply Kd.V_drewN | apply Kd.V_drew)); exact HO0_5.out⟩, ⟨by (with_reducible repeat (first | apply Kd.V_alloc | apply Kd.V_drewN | apply Kd.V_drew)); exact HO0_6.out⟩, ⟨by (with_reducible repeat (first | refine bN ?_ _|refine bD ?_|refine bA ?_ _)); exact BK191.out⟩, ⟨by repeat (first|(with_reducible first|exact HB.out|apply zA|apply zN|apply zD | refine below_set ?_ GE191.out) | exact HB.out)⟩⟩
   case round =>
    clear H'
    try clear c2
    try clear p2
    try clear c6
    try clear c6b0
    try clear c7
    try clear c7b0
    try clear c7b1
    try clear c8
    try clear hcz4_0 hcz4_1 hcz4_2 hcz4_3 hcz4_4 hcz4_5 hcz4_6 hcz4_7
    try clear hcz8_0 hcz8_1 hcz8_2 hcz8_3 hcz8_4 hcz8_5 hcz8_6 hcz8_7
    try clear p2
    obtain ⟨x3_1, x4_1, rfl, rfl, HA, HK1, HO_192004, HO_192005, HO_192006, BK191, HB⟩ := hrel
    cases gk with
    | zero => exact absurd HA.out (by simp [spec_NodeOk.l0])
    | succ k1 =>
     have H := HA.out
     clear HA
     simp only [spec_NodeOk.l0] at H
     by_cases c9 : x4_1 < (l0_6.length : Int)
     ·rw [if_pos c9] at H
      have c9b0 : decide (x4_1 < (l0_6.length : Int)) = true := decide_eq_true c9
      clear c9
      by_cases c10 : 0 ≤ x4_1
      ·rw [if_pos c10] at H
       have c10b0 : decide (0 ≤ x4_1) = true := decide_eq_true c10
       clear c10
       by_cases c11 : ((rd_T33 l0_6 x4_1).f0) = 1
       ·rw [if_pos c11] at H
        have c11b0 : (((rd_T33 l0_6 x4_1).f0) == 1) = true := beq_iff_eq.mpr c11
        have c11b1 : (((rd_T33 l0_6 x4_1).f0) != 1) = false := bne_eq_false_iff_eq.mpr c11
        clear c11
        by_cases c12 : ((rd_T33 l0_6 x4_1).f0) = 2
        ·rw [if_pos c12] at H
         have c12b0 : (((rd_T33 l0_6 x4_1).f0) == 2) = true := beq_iff_eq.mpr c12
         have c12b1 : (((rd_T33 l0_6 x4_1).f0) != 2) = false := bne_eq_false_iff_eq.mpr c12
         clear c12
         obtain rfl := Option.some.inj H
         obtain ⟨hcz13_0, hcz13_1, hcz13_2, hcz13_3, hcz13_4, hcz13_5, hcz13_6, hcz13_7⟩ := bc8 BK191.out
         have p198 : 0 ≤ (x4_1 : Int) := odt
         have q198 : x4_1 < (l0_6.length : Int) := odt
         obtain ⟨ad198, A198_4, c198_4, A198_5, c198_5, A198_6, c198_6, e198, hx198_0, hx198_1, hx198_2, hx198_3, hx198_4, hx198_5, hx198_6, hx198_7, hl198_4, hi198_4, hl198_5, hi198_5, hl198_6, hi198_6⟩ := at_T33 (Kd.V_reads' HO_192006.out).2.2 x4_1 p198 q198
         cases e198
         obtain ⟨ce198, hce198, hMe198, hcc198⟩ := Kd.V_get HO_192006.out z33 x4_1 p198 (by first | exact q198 | exact odt | (have e_ := (Kd.V_reads' HO_192006.out).1; omega))
         obtain ⟨ua198_4, uc198_4, ua198_5, uc198_5, ua198_6, uc198_6, rfl, ul198_4, ge198_4, ul198_5, ge198_5, ul198_6, ge198_6⟩ := k33_openF hMe198
         have hv198_4 := hcc198 4 _ rfl
         rw [add_field _ _ 4 (by omega)] at hv198_4
         replace hv198_4 := Option.some.inj (hv198_4.symm.trans hx198_4)
         injection hv198_4 with hva_ hvn_ hvc_
         rw [hva_] at ge198_4
         rw [hvc_] at ul198_4
         have HL198_4 := Aside0.mk (show Kd.V k80 80 _ w.heap.size _ _ ((rd_T33 l0_6 x4_1).f4) from Kd.V_mk ul198_4 ge198_4)
         clear hva_ hvn_ hvc_ ge198_4 ul198_4
         have hv198_5 := hcc198 5 _ rfl
         rw [add_field _ _ 5 (by omega)] at hv198_5
         replace hv198_5 := Option.some.inj (hv198_5.symm.trans hx198_5)
         injection hv198_5 with hva_ hvn_ hvc_
         rw [hva_] at ge198_5
         rw [hvc_] at ul198_5
         have HL198_5 := Aside0.mk (show Kd.V k75 75 _ w.heap.size _ _ ((rd_T33 l0_6 x4_1).f5) from Kd.V_mk ul198_5 ge198_5)
         clear hva_ hvn_ hvc_ ge198_5 ul198_5
         have hv198_6 := hcc198 6 _ rfl
         rw [add_field _ _ 6 (by omega)] at hv198_6
         replace hv198_6 := Option.some.inj (hv198_6.symm.trans hx198_6)
         injection hv198_6 with hva_ hvn_ hvc_
         rw [hva_] at ge198_6
         rw [hvc_] at ul198_6
         have HL198_6 := Aside0.mk (show Kd.V k33 33 _ w.heap.size _ _ ((rd_T33 l0_6 x4_1).f6) from Kd.V_mk ul198_6 ge198_6)
         clear hva_ hvn_ hvc_ ge198_6 ul198_6
         clear hcc198 hce198
         have HR198_4 := Aside0.mk hi198_4
         have HC198_4 := Aside0.mk hl198_4
         clear hi198_4 hl198_4
         have HR198_5 := Aside0.mk hi198_5
         have HC198_5 := Aside0.mk hl198_5
         clear hi198_5 hl198_5
         have HR198_6 := Aside0.mk hi198_6
         have HC198_6 := Aside0.mk hl198_6
         clear hi198_6 hl198_6
         replace p198 := eq_true p198
         replace q198 := eq_true q198
         have p199 : 0 ≤ (x4_1 : Int) := odt
         have q199 : x4_1 < (l0_6.length : Int) := odt
         obtain ⟨ad199, A199_4, c199_4, A199_5, c199_5, A199_6, c199_6, e199, hx199_0, hx199_1, hx199_2, hx199_3, hx199_4, hx199_5, hx199_6, hx199_7, hl199_4, hi199_4, hl199_5, hi199_5, hl199_6, hi199_6⟩ := at_T33 (Kd.V_reads' HO_192006.out).2.2 x4_1 p199 q199
         obtain rfl : ad198 = ad199 := (by injection e199)
         obtain ⟨ce199, hce199, hMe199, hcc199⟩ := Kd.V_get HO_192006.out z33 x4_1 p199 (by first | exact q199 | exact odt | (have e_ := (Kd.V_reads' HO_192006.out).1; omega))
         obtain ⟨ua199_4, uc199_4, ua199_5, uc199_5, ua199_6, uc199_6, rfl, ul199_4, ge199_4, ul199_5, ge199_5, ul199_6, ge199_6⟩ := k33_openF hMe199
         have hv199_4 := hcc199 4 _ rfl
         rw [add_field _ _ 4 (by omega)] at hv199_4
         replace hv199_4 := Option.some.inj (hv199_4.symm.trans hx199_4)
         injection hv199_4 with hva_ hvn_ hvc_
         rw [hva_] at ge199_4
         rw [hvc_] at ul199_4
         have HL199_4 := Aside0.mk (show Kd.V k80 80 _ w.heap.size _ _ ((rd_T33 l0_6 x4_1).f4) from Kd.V_mk ul199_4 ge199_4)
         clear hva_ hvn_ hvc_ ge199_4 ul199_4
         have hv199_5 := hcc199 5 _ rfl
         rw [add_field _ _ 5 (by omega)] at hv199_5
         replace hv199_5 := Option.some.inj (hv199_5.symm.trans hx199_5)
         injection hv199_5 with hva_ hvn_ hvc_
         rw [hva_] at ge199_5
         rw [hvc_] at ul199_5
         have HL199_5 := Aside0.mk (show Kd.V k75 75 _ w.heap.size _ _ ((rd_T33 l0_6 x4_1).f5) from Kd.V_mk ul199_5 ge199_5)
         clear hva_ hvn_ hvc_ ge199_5 ul199_5
         have hv199_6 := hcc199 6 _ rfl
         rw [add_field _ _ 6 (by omega)] at hv199_6
         replace hv199_6 := Option.some.inj (hv199_6.symm.trans hx199_6)
         injection hv199_6 with hva_ hvn_ hvc_
         rw [hva_] at ge199_6
         rw [hvc_] at ul199_6
         have HL199_6 := Aside0.mk (show Kd.V k33 33 _ w.heap.size _ _ ((rd_T33 l0_6 x4_1).f6) from Kd.V_mk ul199_6 ge199_6)
         clear hva_ hvn_ hvc_ ge199_6 ul199_6
         clear hcc199 hce199
         have HR199_4 := Aside0.mk hi199_4
         have HC199_4 := Aside0.mk hl199_4
         clear hi199_4 hl199_4
         have HR199_5 := Aside0.mk hi199_5
         have HC199_5 := Aside0.mk hl199_5
         clear hi199_5 hl199_5
         have HR199_6 := Aside0.mk hi199_6
         have HC199_6 := Aside0.mk hl199_6
         clear hi199_6 hl199_6
         replace p199 := eq_true p199
         replace q199 := eq_true q199
         have ea_ := Option.some.inj (hx198_4.symm.trans hx199_4)
         injection ea_ with ea_ en_ ec_
         subst ea_
         subst ec_
         clear en_
         have ea_ := Option.some.inj (hx198_5.symm.trans hx199_5)
         injection ea_ with ea_ en_ ec_
         subst ea_
         subst ec_
         clear en_
         have ea_ := Option.some.inj (hx198_6.symm.trans hx199_6)
         injection ea_ with ea_ en_ ec_
         subst ea_
         subst ec_
         clear en_
         go_wp2
         go_ret
         exact ⟨rE, by repeat (first|(with_reducible first|exact HB.out|apply zA|apply zN|apply zD | refine below_set ?_ GE191.out) | exact HB.out)⟩
        ·rw [if_neg c12] at H
         have c12b0 : (((rd_T33 l0_6 x4_1).f0) == 2) = false := beq_eq_false_iff_ne.mpr c12
         have c12b1 : (((rd_T33 l0_6 x4_1).f0) != 2) = true := bne_iff_ne.mpr c12
         have H' := Aside0.mk H
         clear H
         obtain ⟨hcz14_0, hcz14_1, hcz14_2, hcz14_3, hcz14_4, hcz14_5, hcz14_6, hcz14_7⟩ := bc8 BK191.out
         have p198 : 0 ≤ (x4_1 : Int) := odt
         have q198 : x4_1 < (l0_6.length : Int) := odt
         obtain ⟨ad198, A198_4, c198_4, A198_5, c198_5, A198_6, c198_6, e198, hx198_0, hx198_1, hx198_2, hx198_3, hx198_4, hx198_5, hx198_6, hx198_7, hl198_4, hi198_4, hl198_5, hi198_5, hl198_6, hi198_6⟩ := at_T33 (Kd.V_reads' HO_192006.out).2.2 x4_1 p198 q198
         cases e198
         obtain ⟨ce198, hce198, hMe198, hcc198⟩ := Kd.V_get HO_192006.out z33 x4_1 p198 (by first | exact q198 | exact odt | (have e_ := (Kd.V_reads' HO_192006.out).1; omega))
         obtain ⟨ua198_4, uc198_4, ua198_5, uc198_5, ua198_6, uc198_6, rfl, ul198_4, ge198_4, ul198_5, ge198_5, ul198_6, ge198_6⟩ := k33_openF hMe198
         have hv198_4 := hcc198 4 _ rfl
         rw [add_field _ _ 4 (by omega)] at hv198_4
         replace hv198_4 := Option.some.inj (hv198_4.symm.trans hx198_4)
         injection hv198_4 with hva_ hvn_ hvc_
         rw [hva_] at ge198_4
         rw [hvc_] at ul198_4
         have HL198_4 := Aside0.mk (show Kd.V k80 80 _ w.heap.size _ _ ((rd_T33 l0_6 x4_1).f4) from Kd.V_mk ul198_4 ge198_4)
         clear hva_ hvn_ hvc_ ge198_4 ul198_4
         have hv198_5 := hcc198 5 _ rfl
         rw [add_field _ _ 5 (by omega)] at hv198_5
         replace hv198_5 := Option.some.inj (hv198_5.symm.trans hx198_5)
         injection hv198_5 with hva_ hvn_ hvc_
         rw [hva_] at ge198_5
         rw [hvc_] at ul198_5
         have HL198_5 := Aside0.mk (show Kd.V k75 75 _ w.heap.size _ _ ((rd_T33 l0_6 x4_1).f5) from Kd.V_mk ul198_5 ge198_5)
         clear hva_ hvn_ hvc_ ge198_5 ul198_5
         have hv198_6 := hcc198 6 _ rfl
         rw [add_field _ _ 6 (by omega)] at hv198_6
         replace hv198_6 := Option.some.inj (hv198_6.symm.trans hx198_6)
         injection hv198_6 with hva_ hvn_ hvc_
         rw [hva_] at ge198_6
         rw [hvc_] at ul198_6
         have HL198_6 := Aside0.mk (show Kd.V k33 33 _ w.heap.size _ _ ((rd_T33 l0_6 x4_1).f6) from Kd.V_mk ul198_6 ge198_6)
         clear hva_ hvn_ hvc_ ge198_6 ul198_6
         clear hcc198 hce198
         have HR198_4 := Aside0.mk hi198_4
         have HC198_4 := Aside0.mk hl198_4
         clear hi198_4 hl198_4
         have HR198_5 := Aside0.mk hi198_5
         have HC198_5 := Aside0.mk hl198_5
         clear hi198_5 hl198_5
         have HR198_6 := Aside0.mk hi198_6
         have HC198_6 := Aside0.mk hl198_6
         clear hi198_6 hl198_6
         replace p198 := eq_true p198
         replace q198 := eq_true q198
         have p199 : 0 ≤ (x4_1 : Int) := odt
         have q199 : x4_1 < (l0_6.length : Int) := odt
         obtain ⟨ad199, A199_4, c199_4, A199_5, c199_5, A199_6, c199_6, e199, hx199_0, hx199_1, hx199_2, hx199_3, hx199_4, hx199_5, hx199_6, hx199_7, hl199_4, hi199_4, hl199_5, hi199_5, hl199_6, hi199_6⟩ := at_T33 (Kd.V_reads' HO_192006.out).2.2 x4_1 p199 q199
         obtain rfl : ad198 = ad199 := (by injection e199)
         obtain ⟨ce199, hce199, hMe199, hcc199⟩ := Kd.V_get HO_192006.out z33 x4_1 p199 (by first | exact q199 | exact odt | (have e_ := (Kd.V_reads' HO_192006.out).1; omega))
         obtain ⟨ua199_4, uc199_4, ua199_5, uc199_5, ua199_6, uc199_6, rfl, ul199_4, ge199_4, ul199_5, ge199_5, ul199_6, ge199_6⟩ := k33_openF hMe199
         have hv199_4 := hcc199 4 _ rfl
         rw [add_field _ _ 4 (by omega)] at hv199_4
         replace hv199_4 := Option.some.inj (hv199_4.symm.trans hx199_4)
         injection hv199_4 with hva_ hvn_ hvc_
         rw [hva_] at ge199_4
         rw [hvc_] at ul199_4
         have HL199_4 := Aside0.mk (show Kd.V k80 80 _ w.heap.size _ _ ((rd_T33 l0_6 x4_1).f4) from Kd.V_mk ul199_4 ge199_4)
         clear hva_ hvn_ hvc_ ge199_4 ul199_4
         have hv199_5 := hcc199 5 _ rfl
         rw [add_field _ _ 5 (by omega)] at hv199_5
         replace hv199_5 := Option.some.inj (hv199_5.symm.trans hx199_5)
         injection hv199_5 with hva_ hvn_ hvc_
         rw [hva_] at ge199_5
         rw [hvc_] at ul199_5
         have HL199_5 := Aside0.mk (show Kd.V k75 75 _ w.heap.size _ _ ((rd_T33 l0_6 x4_1).f5) from Kd.V_mk ul199_5 ge199_5)
         clear hva_ hvn_ hvc_ ge199_5 ul199_5
         have hv199_6 := hcc199 6 _ rfl
         rw [add_field _ _ 6 (by omega)] at hv199_6
         replace hv199_6 := Option.some.inj (hv199_6.symm.trans hx199_6)
         injection hv199_6 with hva_ hvn_ hvc_
         rw [hva_] at ge199_6
         rw [hvc_] at ul199_6
         have HL199_6 := Aside0.mk (show Kd.V k33 33 _ w.heap.size _ _ ((rd_T33 l0_6 x4_1).f6) from Kd.V_mk ul199_6 ge199_6)
         clear hva_ hvn_ hvc_ ge199_6 ul199_6
         clear hcc199 hce199
         have HR199_4 := Aside0.mk hi199_4
         have HC199_4 := Aside0.mk hl199_4
         clear hi199_4 hl199_4
         have HR199_5 := Aside0.mk hi199_5
         have HC199_5 := Aside0.mk hl199_5
         clear hi199_5 hl199_5
         have HR199_6 := Aside0.mk hi199_6
         have HC199_6 := Aside0.mk hl199_6
         clear hi199_6 hl199_6
         replace p199 := eq_true p199
         replace q199 := eq_true q199
         have ea_ := Option.some.inj (hx198_4.symm.trans hx199_4)
         injection ea_ with ea_ en_ ec_
         subst ea_
         subst ec_
         clear en_
         have ea_ := Option.some.inj (hx198_5.symm.trans hx199_5)
         injection ea_ with ea_ en_ ec_
         subst ea_
         subst ec_
         clear en_
         have ea_ := Option.some.inj (hx198_6.symm.trans hx199_6)
         injection ea_ with ea_ en_ ec_
         subst ea_
         subst ec_
         clear en_
         go_wp2
         go_roundg k1
         case measure => have := HK1.out; omega
         case rel => exact ⟨(wrap64 (x3_1 + 1)), (wrap64 (x4_1 + 1)), rG, rG, H', ⟨by have := HK1.out; omega⟩, ⟨by (with_reducible repeat (first | apply Kd.V_alloc | apply Kd.V_drewN | apply Kd.V_drew)); exact HO_192004.out⟩, ⟨by (with_reducible repeat (first | apply Kd.V_alloc | apply Kd.V_drewN | apply Kd.V_drew)); exact HO_192005.out⟩, ⟨by (with_reducible repeat (first | apply Kd.V_alloc | apply Kd.V_drewN | apply Kd.V_drew)); exact HO_192006.out⟩, ⟨by (with_reducible repeat (first | refine bN ?_ _|refine bD ?_|refine bA ?_ _)); exact BK191.out⟩, ⟨by repeat (first|(with_reducible first|exact HB.out|apply zA|apply zN|apply zD | refine below_set ?_ GE191.out) | exact HB.out)⟩⟩
       ·rw [if_neg c11] at H
        have c11b0 : (((rd_T33 l0_6 x4_1).f0) == 1) = false := beq_eq_false_iff_ne.mpr c11
        have c11b1 : (((rd_T33 l0_6 x4_1).f0) != 1) = true := bne_iff_ne.mpr c11
        by_cases c15 : ((rd_T33 l0_6 x4_1).f0) = 2
        ·rw [if_pos c15] at H
         have c15b0 : (((rd_T33 l0_6 x4_1).f0) == 2) = true := beq_iff_eq.mpr c15
         have c15b1 : (((rd_T33 l0_6 x4_1).f0) != 2) = false := bne_eq_false_iff_eq.mpr c15
         clear c15
         obtain rfl := Option.some.inj H
         obtain ⟨hcz16_0, hcz16_1, hcz16_2, hcz16_3, hcz16_4, hcz16_5, hcz16_6, hcz16_7⟩ := bc8 BK191.out
         have p198 : 0 ≤ (x4_1 : Int) := odt
         have q198 : x4_1 < (l0_6.length : Int) := odt
         obtain ⟨ad198, A198_4, c198_4, A198_5, c198_5, A198_6, c198_6, e198, hx198_0, hx198_1, hx198_2, hx198_3, hx198_4, hx198_5, hx198_6, hx198_7, hl198_4, hi198_4, hl198_5, hi198_5, hl198_6, hi198_6⟩ := at_T33 (Kd.V_reads' HO_192006.out).2.2 x4_1 p198 q198
         cases e198
         obtain ⟨ce198, hce198, hMe198, hcc198⟩ := Kd.V_get HO_192006.out z33 x4_1 p198 (by first | exact q198 | exact odt | (have e_ := (Kd.V_reads' HO_192006.out).1; omega))
         obtain ⟨ua198_4, uc198_4, ua198_5, uc198_5, ua198_6, uc198_6, rfl, ul198_4, ge198_4, ul198_5, ge198_5, ul198_6, ge198_6⟩ := k33_openF hMe198
         have hv198_4 := hcc198 4 _ rfl
         rw [add_field _ _ 4 (by omega)] at hv198_4
         replace hv198_4 := Option.some.inj (hv198_4.symm.trans hx198_4)
         injection hv198_4 with hva_ hvn_ hvc_
         rw [hva_] at ge198_4
         rw [hvc_] at ul198_4
         have HL198_4 := Aside0.mk (show Kd.V k80 80 _ w.heap.size _ _ ((rd_T33 l0_6 x4_1).f4) from Kd.V_mk ul198_4 ge198_4)
         clear hva_ hvn_ hvc_ ge198_4 ul198_4
         have hv198_5 := hcc198 5 _ rfl
         rw [add_field _ _ 5 (by omega)] at hv198_5
         replace hv198_5 := Option.some.inj (hv198_5.symm.trans hx198_5)
         injection hv198_5 with hva_ hvn_ hvc_
         rw [hva_] at ge198_5
         rw [hvc_] at ul198_5
         have HL198_5 := Aside0.mk (show Kd.V k75 75 _ w.heap.size _ _ ((rd_T33 l0_6 x4_1).f5) from Kd.V_mk ul198_5 ge198_5)
         clear hva_ hvn_ hvc_ ge198_5 ul198_5
         have hv198_6 := hcc198 6 _ rfl
         rw [add_field _ _ 6 (by omega)] at hv198_6
         replace hv198_6 := Option.some.inj (hv198_6.symm.trans hx198_6)
         injection hv198_6 with hva_ hvn_ hvc_
         rw [hva_] at ge198_6
         rw [hvc_] at ul198_6
         have HL198_6 := Aside0.mk (show Kd.V k33 33 _ w.heap.size _ _ ((rd_T33 l0_6 x4_1).f6) from Kd.V_mk ul198_6 ge198_6)
         clear hva_ hvn_ hvc_ ge198_6 ul198_6
         clear hcc198 hce198
         have HR198_4 := Aside0.mk hi198_4
         have HC198_4 := Aside0.mk hl198_4
         clear hi198_4 hl198_4
         have HR198_5 := Aside0.mk hi198_5
         have HC198_5 := Aside0.mk hl198_5
         clear hi198_5 hl198_5
         have HR198_6 := Aside0.mk hi198_6
         have HC198_6 := Aside0.mk hl198_6
         clear hi198_6 hl198_6
         replace p198 := eq_true p198
         replace q198 := eq_true q198
         have p200 : 0 ≤ (x4_1 : Int) := odt
         have q200 : x4_1 < (l0_6.length : Int) := odt
         obtain ⟨ad200, A200_4, c200_4, A200_5, c200_5, A200_6, c200_6, e200, hx200_0, hx200_1, hx200_2, hx200_3, hx200_4, hx200_5, hx200_6, hx200_7, hl200_4, hi200_4, hl200_5, hi200_5, hl200_6, hi200_6⟩ := at_T33 (Kd.V_reads' HO_192006.out).2.2 x4_1 p200 q200
         obtain rfl : ad198 = ad200 := (by injection e200)
         obtain ⟨ce200, hce200, hMe200, hcc200⟩ := Kd.V_get HO_192006.out z33 x4_1 p200 (by first | exact q200 | exact odt | (have e_ := (Kd.V_reads' HO_192006.out).1; omega))
         obtain ⟨ua200_4, uc200_4, ua200_5, uc200_5, ua200_6, uc200_6, rfl, ul200_4, ge200_4, ul200_5, ge200_5, ul200_6, ge200_6⟩ := k33_openF hMe200
         have hv200_4 := hcc200 4 _ rfl
         rw [add_field _ _ 4 (by omega)] at hv200_4
         replace hv200_4 := Option.some.inj (hv200_4.symm.trans hx200_4)
         injection hv200_4 with hva_ hvn_ hvc_
         rw [hva_] at ge200_4
         rw [hvc_] at ul200_4
         have HL200_4 := Aside0.mk (show Kd.V k80 80 _ w.heap.size _ _ ((rd_T33 l0_6 x4_1).f4) from Kd.V_mk ul200_4 ge200_4)
         clear hva_ hvn_ hvc_ ge200_4 ul200_4
         have hv200_5 := hcc200 5 _ rfl
         rw [add_field _ _ 5 (by omega)] at hv200_5
         replace hv200_5 := Option.some.inj (hv200_5.symm.trans hx200_5)
         injection hv200_5 with hva_ hvn_ hvc_
         rw [hva_] at ge200_5
         rw [hvc_] at ul200_5
         have HL200_5 := Aside0.mk (show Kd.V k75 75 _ w.heap.size _ _ ((rd_T33 l0_6 x4_1).f5) from Kd.V_mk ul200_5 ge200_5)
         clear hva_ hvn_ hvc_ ge200_5 ul200_5
         have hv200_6 := hcc200 6 _ rfl
         rw [add_field _ _ 6 (by omega)] at hv200_6
         replace hv200_6 := Option.some.inj (hv200_6.symm.trans hx200_6)
         injection hv200_6 with hva_ hvn_ hvc_
         rw [hva_] at ge200_6
         rw [hvc_] at ul200_6
         have HL200_6 := Aside0.mk (show Kd.V k33 33 _ w.heap.size _ _ ((rd_T33 l0_6 x4_1).f6) from Kd.V_mk ul200_6 ge200_6)
         clear hva_ hvn_ hvc_ ge200_6 ul200_6
         clear hcc200 hce200
         have HR200_4 := Aside0.mk hi200_4
         have HC200_4 := Aside0.mk hl200_4
         clear hi200_4 hl200_4
         have HR200_5 := Aside0.mk hi200_5
         have HC200_5 := Aside0.mk hl200_5
         clear hi200_5 hl200_5
         have HR200_6 := Aside0.mk hi200_6
         have HC200_6 := Aside0.mk hl200_6
         clear hi200_6 hl200_6
         replace p200 := eq_true p200
         replace q200 := eq_true q200
         have ea_ := Option.some.inj (hx198_4.symm.trans hx200_4)
         injection ea_ with ea_ en_ ec_
         subst ea_
         subst ec_
         clear en_
         have ea_ := Option.some.inj (hx198_5.symm.trans hx200_5)
         injection ea_ with ea_ en_ ec_
         subst ea_
         subst ec_
         clear en_
         have ea_ := Option.some.inj (hx198_6.symm.trans hx200_6)
         injection ea_ with ea_ en_ ec_
         subst ea_
         subst ec_
         clear en_
         go_wp2
         go_ret
         exact ⟨rE, by repeat (first|(with_reducible first|exact HB.out|apply zA|apply zN|apply zD | refine below_set ?_ GE191.out) | exact HB.out)⟩
        ·rw [if_neg c15] at H
         have c15b0 : (((rd_T33 l0_6 x4_1).f0) == 2) = false := beq_eq_false_iff_ne.mpr c15
         have c15b1 : (((rd_T33 l0_6 x4_1).f0) != 2) = true := bne_iff_ne.mpr c15
         have H' := Aside0.mk H
         clear H
         obtain ⟨hcz17_0, hcz17_1, hcz17_2, hcz17_3, hcz17_4, hcz17_5, hcz17_6, hcz17_7⟩ := bc8 BK191.out
         have p198 : 0 ≤ (x4_1 : Int) := odt
         have q198 : x4_1 < (l0_6.length : Int) := odt
         obtain ⟨ad198, A198_4, c198_4, A198_5, c198_5, A198_6, c198_6, e198, hx198_0, hx198_1, hx198_2, hx198_3, hx198_4, hx198_5, hx198_6, hx198_7, hl198_4, hi198_4, hl198_5, hi198_5, hl198_6, hi198_6⟩ := at_T33 (Kd.V_reads' HO_192006.out).2.2 x4_1 p198 q198
         cases e198
         obtain ⟨ce198, hce198, hMe198, hcc198⟩ := Kd.V_get HO_192006.out z33 x4_1 p198 (by first | exact q198 | exact odt | (have e_ := (Kd.V_reads' HO_192006.out).1; omega))
         obtain ⟨ua198_4, uc198_4, ua198_5, uc198_5, ua198_6, uc198_6, rfl, ul198_4, ge198_4, ul198_5, ge198_5, ul198_6, ge198_6⟩ := k33_openF hMe198
         have hv198_4 := hcc198 4 _ rfl
         rw [add_field _ _ 4 (by omega)] at hv198_4
         replace hv198_4 := Option.some.inj (hv198_4.symm.trans hx198_4)
         injection hv198_4 with hva_ hvn_ hvc_
         rw [hva_] at ge198_4
         rw [hvc_] at ul198_4
         have HL198_4 := Aside0.mk (show Kd.V k80 80 _ w.heap.size _ _ ((rd_T33 l0_6 x4_1).f4) from Kd.V_mk ul198_4 ge198_4)
         clear hva_ hvn_ hvc_ ge198_4 ul198_4
         have hv198_5 := hcc198 5 _ rfl
         rw [add_field _ _ 5 (by omega)] at hv198_5
         replace hv198_5 := Option.some.inj (hv198_5.symm.trans hx198_5)
         injection hv198_5 with hva_ hvn_ hvc_
         rw [hva_] at ge198_5
         rw [hvc_] at ul198_5
         have HL198_5 := Aside0.mk (show Kd.V k75 75 _ w.heap.size _ _ ((rd_T33 l0_6 x4_1).f5) from Kd.V_mk ul198_5 ge198_5)
         clear hva_ hvn_ hvc_ ge198_5 ul198_5
         have hv198_6 := hcc198 6 _ rfl
         rw [add_field _ _ 6 (by omega)] at hv198_6
         replace hv198_6 := Option.some.inj (hv198_6.symm.trans hx198_6)
         injection hv198_6 with hva_ hvn_ hvc_
         rw [hva_] at ge198_6
         rw [hvc_] at ul198_6
         have HL198_6 := Aside0.mk (show Kd.V k33 33 _ w.heap.size _ _ ((rd_T33 l0_6 x4_1).f6) from Kd.V_mk ul198_6 ge198_6)
         clear hva_ hvn_ hvc_ ge198_6 ul198_6
         clear hcc198 hce198
         have HR198_4 := Aside0.mk hi198_4
         have HC198_4 := Aside0.mk hl198_4
         clear hi198_4 hl198_4
         have HR198_5 := Aside0.mk hi198_5
         have HC198_5 := Aside0.mk hl198_5
         clear hi198_5 hl198_5
         have HR198_6 := Aside0.mk hi198_6
         have HC198_6 := Aside0.mk hl198_6
         clear hi198_6 hl198_6
         replace p198 := eq_true p198
         replace q198 := eq_true q198
         have p200 : 0 ≤ (x4_1 : Int) := odt
         have q200 : x4_1 < (l0_6.length : Int) := odt
         obtain ⟨ad200, A200_4, c200_4, A200_5, c200_5, A200_6, c200_6, e200, hx200_0, hx200_1, hx200_2, hx200_3, hx200_4, hx200_5, hx200_6, hx200_7, hl200_4, hi200_4, hl200_5, hi200_5, hl200_6, hi200_6⟩ := at_T33 (Kd.V_reads' HO_192006.out).2.2 x4_1 p200 q200
         obtain rfl : ad198 = ad200 := (by injection e200)
         obtain ⟨ce200, hce200, hMe200, hcc200⟩ := Kd.V_get HO_192006.out z33 x4_1 p200 (by first | exact q200 | exact odt | (have e_ := (Kd.V_reads' HO_192006.out).1; omega))
         obtain ⟨ua200_4, uc200_4, ua200_5, uc200_5, ua200_6, uc200_6, rfl, ul200_4, ge200_4, ul200_5, ge200_5, ul200_6, ge200_6⟩ := k33_openF hMe200
         have hv200_4 := hcc200 4 _ rfl
         rw [add_field _ _ 4 (by omega)] at hv200_4
         replace hv200_4 := Option.some.inj (hv200_4.symm.trans hx200_4)
         injection hv200_4 with hva_ hvn_ hvc_
         rw [hva_] at ge200_4
         rw [hvc_] at ul200_4
         have HL200_4 := Aside0.mk (show Kd.V k80 80 _ w.heap.size _ _ ((rd_T33 l0_6 x4_1).f4) from Kd.V_mk ul200_4 ge200_4)
         clear hva_ hvn_ hvc_ ge200_4 ul200_4
         have hv200_5 := hcc200 5 _ rfl
         rw [add_field _ _ 5 (by omega)] at hv200_5
         replace hv200_5 := Option.some.inj (hv200_5.symm.trans hx200_5)
         injection hv200_5 with hva_ hvn_ hvc_
         rw [hva_] at ge200_5
         rw [hvc_] at ul200_5
         have HL200_5 := Aside0.mk (show Kd.V k75 75 _ w.heap.size _ _ ((rd_T33 l0_6 x4_1).f5) from Kd.V_mk ul200_5 ge200_5)
         clear hva_ hvn_ hvc_ ge200_5 ul200_5
         have hv200_6 := hcc200 6 _ rfl
         rw [add_field _ _ 6 (by omega)] at hv200_6
         replace hv200_6 := Option.some.inj (hv200_6.symm.trans hx200_6)
         injection hv200_6 with hva_ hvn_ hvc_
         rw [hva_] at ge200_6
         rw [hvc_] at ul200_6
         have HL200_6 := Aside0.mk (show Kd.V k33 33 _ w.heap.size _ _ ((rd_T33 l0_6 x4_1).f6) from Kd.V_mk ul200_6 ge200_6)
         clear hva_ hvn_ hvc_ ge200_6 ul200_6
         clear hcc200 hce200
         have HR200_4 := Aside0.mk hi200_4
         have HC200_4 := Aside0.mk hl200_4
         clear hi200_4 hl200_4
         have HR200_5 := Aside0.mk hi200_5
         have HC200_5 := Aside0.mk hl200_5
         clear hi200_5 hl200_5
         have HR200_6 := Aside0.mk hi200_6
         have HC200_6 := Aside0.mk hl200_6
         clear hi200_6 hl200_6
         replace p200 := eq_true p200
         replace q200 := eq_true q200
         have ea_ := Option.some.inj (hx198_4.symm.trans hx200_4)
         injection ea_ with ea_ en_ ec_
         subst ea_
         subst ec_
         clear en_
         have ea_ := Option.some.inj (hx198_5.symm.trans hx200_5)
         injection ea_ with ea_ en_ ec_
         subst ea_
         subst ec_
         clear en_
         have ea_ := Option.some.inj (hx198_6.symm.trans hx200_6)
         injection ea_ with ea_ en_ ec_
         subst ea_
         subst ec_
         clear en_
         go_wp2
         go_roundg k1
         case measure => have := HK1.out; omega
         case rel => exact ⟨(x3_1), (wrap64 (x4_1 + 1)), rG, rG, H', ⟨by have := HK1.out; omega⟩, ⟨by (with_reducible repeat (first | apply Kd.V_alloc | apply Kd.V_drewN | apply Kd.V_drew)); exact HO_192004.out⟩, ⟨by (with_reducible repeat (first | apply Kd.V_alloc | apply Kd.V_drewN | apply Kd.V_drew)); exact HO_192005.out⟩, ⟨by (with_reducible repeat (first | apply Kd.V_alloc | apply Kd.V_drewN | apply Kd.V_drew)); exact HO_192006.out⟩, ⟨by (with_reducible repeat (first | refine bN ?_ _|refine bD ?_|refine bA ?_ _)); exact BK191.out⟩, ⟨by repeat (first|(with_reducible first|exact HB.out|apply zA|apply zN|apply zD | refine below_set ?_ GE191.out) | exact HB.out)⟩⟩
      ·rw [if_neg c10] at H
       exact absurd H (by simp)
     ·rw [if_neg c9] at H
      have c9b0 : decide (x4_1 < (l0_6.length : Int)) = false := decide_eq_false c9
      clear c9
      by_cases c18 : x3_1 = 1
      ·rw [if_pos c18] at H
       have c18b0 : (x3_1 == 1) = true := beq_iff_eq.mpr c18
       have c18b1 : (x3_1 != 1) = false := bne_eq_false_iff_eq.mpr c18
       clear c18
       by_cases c19 : a0_1.toList = ([] : List UInt8)
       ·rw [if_pos c19] at H
        have c19b0 : (a0_1.toList == ([] : List UInt8)) = true := beq_iff_eq.mpr c19
        have c19b1 : (a0_1.toList != ([] : List UInt8)) = false := bne_eq_false_iff_eq.mpr c19
        clear c19
        by_cases c20 : a0_2.toList = ([] : List UInt8)
        ·rw [if_pos c20] at H
         have c20b0 : (a0_2.toList == ([] : List UInt8)) = true := beq_iff_eq.mpr c20
         have c20b1 : (a0_2.toList != ([] : List UInt8)) = false := bne_eq_false_iff_eq.mpr c20
         clear c20
         by_cases c21 : a0_3.toList = ([] : List UInt8)
         ·rw [if_pos c21] at H
          have c21b0 : (a0_3.toList == ([] : List UInt8)) = true := beq_iff_eq.mpr c21
          have c21b1 : (a0_3.toList != ([] : List UInt8)) = false := bne_eq_false_iff_eq.mpr c21
          clear c21
          by_cases c22 : a0_7.toList = ([] : List UInt8)
          ·rw [if_pos c22] at H
           have c22b0 : (a0_7.toList == ([] : List UInt8)) = true := beq_iff_eq.mpr c22
           have c22b1 : (a0_7.toList != ([] : List UInt8)) = false := bne_eq_false_iff_eq.mpr c22
           clear c22
           by_cases c23 : (l0_4.length : Int) = 0
           ·rw [if_pos c23] at H
            have c23b0 : ((l0_4.length : Int) == 0) = true := beq_iff_eq.mpr c23
            have c23b1 : ((l0_4.length : Int) != 0) = false := bne_eq_false_iff_eq.mpr c23
            clear c23
            by_cases c24 : (l0_5.length : Int) = 0
            ·rw [if_pos c24] at H
             have c24b0 : ((l0_5.length : Int) == 0) = true := beq_iff_eq.mpr c24
             have c24b1 : ((l0_5.length : Int) != 0) = false := bne_eq_false_iff_eq.mpr c24
             clear c24
             replace H := Option.bind_eq_some_iff.mp H
             obtain ⟨t197, A250, H⟩ := H
             try dsimp only at H
             have A25 := Aside0.mk A250
             clear A250
             obtain rfl := Option.some.inj H
             obtain ⟨hcz26_0, hcz26_1, hcz26_2, hcz26_3, hcz26_4, hcz26_5, hcz26_6, hcz26_7⟩ := bc8 BK191.out
             go_wp2_with (first | (go_at_call 56; (with_reducible refine (spec_l5Kids.calls k1 _ _ l0_6 0 t197 _ ?side1 ?side2 A25.out).mono ?_); (case side1 => repeat (first | exact (Kd.V_reads' HO_192006.out).2.2 | (with_reducible refine Kd.C_alloc ?_ _) | (with_reducible refine Kd.C_drewN ?_ _) | (with_reducible refine Kd.C_drew ?_))); (case side2 => exact (Kd.V_reads' HO_192006.out).2.1); rintro e w27 ⟨rfl, hb⟩; replace HO_192004 := Aside0.mk (Kd.V_below (by (with_reducible repeat (first | apply Kd.V_alloc | apply Kd.V_drewN | apply Kd.V_drew)); exact HO_192004.out) hb); replace HO_192005 := Aside0.mk (Kd.V_below (by (with_reducible repeat (first | apply Kd.V_alloc | apply Kd.V_drewN | apply Kd.V_drew)); exact HO_192005.out) hb); replace HO_192006 := Aside0.mk (Kd.V_below (by (with_reducible repeat (first | apply Kd.V_alloc | apply Kd.V_drewN | apply Kd.V_drew)); exact HO_192006.out) hb); replace BK191 := Aside0.mk (blk_below (g := gb191) (by (with_reducible repeat (first | refine bN ?_ _|refine bD ?_|refine bA ?_ _)); exact BK191.out) hb); replace HB := Aside0.mk (below_step (by repeat (first|(with_reducible first|exact HB.out|apply zA|apply zN|apply zD | refine below_set ?_ GE191.out) | exact HB.out)) hb); (try clear hb); (try clear hb2); (try clear hk); (try clear hi)))
             go_ret
             exact ⟨rE, by repeat (first|(with_reducible first|exact HB.out|apply zA|apply zN|apply zD | refine below_set ?_ GE191.out) | exact HB.out)⟩
            ·rw [if_neg c24] at H
             have c24b0 : ((l0_5.length : Int) == 0) = false := beq_eq_false_iff_ne.mpr c24
             have c24b1 : ((l0_5.length : Int) != 0) = true := bne_iff_ne.mpr c24
             have c24b2 : ¬ (l0_5 = []) := fun h_ => c24 (by rw [h_]; rfl)
             obtain rfl := Option.some.inj H
             obtain ⟨hcz28_0, hcz28_1, hcz28_2, hcz28_3, hcz28_4, hcz28_5, hcz28_6, hcz28_7⟩ := bc8 BK191.out
             go_wp2
             go_ret
             exact ⟨rE, by repeat (first|(with_reducible first|exact HB.out|apply zA|apply zN|apply zD | refine below_set ?_ GE191.out) | exact HB.out)⟩
           ·rw [if_neg c23] at H
            have c23b0 : ((l0_4.length : Int) == 0) = false := beq_eq_false_iff_ne.mpr c23
            have c23b1 : ((l0_4.length : Int) != 0) = true := bne_iff_ne.mpr c23
            have c23b2 : ¬ (l0_4 = []) := fun h_ => c23 (by rw [h_]; rfl)
            obtain rfl := Option.some.inj H
            obtain ⟨hcz29_0, hcz29_1, hcz29_2, hcz29_3, hcz29_4, hcz29_5, hcz29_6, hcz29_7⟩ := bc8 BK191.out
            go_wp2
            go_ret
            exact ⟨rE, by repeat (first|(with_reducible first|exact HB.out|apply zA|apply zN|apply zD | refine below_set ?_ GE191.out) | exact HB.out)⟩
          ·rw [if_neg c22] at H
           have c22b0 : (a0_7.toList == ([] : List UInt8)) = false := beq_eq_false_iff_ne.mpr c22
           have c22b1 : (a0_7.toList != ([] : List UInt8)) = true := bne_iff_ne.mpr c22
           obtain rfl := Option.some.inj H
           obtain ⟨hcz30_0, hcz30_1, hcz30_2, hcz30_3, hcz30_4, hcz30_5, hcz30_6, hcz30_7⟩ := bc8 BK191.out
           go_wp2
           go_ret
           exact ⟨rE, by repeat (first|(with_reducible first|exact HB.out|apply zA|apply zN|apply zD | refine below_set ?_ GE191.out) | exact HB.out)⟩
         ·rw [if_neg c21] at H
          have c21b0 : (a0_3.toList == ([] : List UInt8)) = false := beq_eq_false_iff_ne.mpr c21
          have c21b1 : (a0_3.toList != ([] : List UInt8)) = true := bne_iff_ne.mpr c21
          obtain rfl := Option.some.inj H
          obtain ⟨hcz31_0, hcz31_1, hcz31_2, hcz31_3, hcz31_4, hcz31_5, hcz31_6, hcz31_7⟩ := bc8 BK191.out
          go_wp2
          go_ret
          exact ⟨rE, by repeat (first|(with_reducible first|exact HB.out|apply zA|apply zN|apply zD | refine below_set ?_ GE191.out) | exact HB.out)⟩
        ·rw [if_neg c20] at H
         have c20b0 : (a0_2.toList == ([] : List UInt8)) = false := beq_eq_false_iff_ne.mpr c20
         have c20b1 : (a0_2.toList != ([] : List UInt8)) = true := bne_iff_ne.mpr c20
         obtain rfl := Option.some.inj H
         obtain ⟨hcz32_0, hcz32_1, hcz32_2, hcz32_3, hcz32_4, hcz32_5, hcz32_6, hcz32_7⟩ := bc8 BK191.out
         go_wp2
         go_ret
         exact ⟨rE, by repeat (first|(with_reducible first|exact HB.out|apply zA|apply zN|apply zD | refine below_set ?_ GE191.out) | exact HB.out)⟩
       ·rw [if_neg c19] at H
        have c19b0 : (a0_1.toList == ([] : List UInt8)) = false := beq_eq_false_iff_ne.mpr c19
        have c19b1 : (a0_1.toList != ([] : List UInt8)) = true := bne_iff_ne.mpr c19
        obtain rfl := Option.some.inj H
        obtain ⟨hcz33_0, hcz33_1, hcz33_2, hcz33_3, hcz33_4, hcz33_5, hcz33_6, hcz33_7⟩ := bc8 BK191.out
        go_wp2
        go_ret
        exact ⟨rE, by repeat (first|(with_reducible first|exact HB.out|apply zA|apply zN|apply zD | refine below_set ?_ GE191.out) | exact HB.out)⟩
      ·rw [if_neg c18] at H
       have c18b0 : (x3_1 == 1) = false := beq_eq_false_iff_ne.mpr c18
       have c18b1 : (x3_1 != 1) = true := bne_iff_ne.mpr c18
       obtain rfl := Option.some.inj H
       obtain ⟨hcz34_0, hcz34_1, hcz34_2, hcz34_3, hcz34_4, hcz34_5, hcz34_6, hcz34_7⟩ := bc8 BK191.out
       go_wp2
       go_ret
       exact ⟨rE, by repeat (first|(with_reducible first|exact HB.out|apply zA|apply zN|apply zD | refine below_set ?_ GE191.out) | exact HB.out)⟩
  ·rw [if_neg c7] at H
   have c7b0 : (a0_0 == 0) = false := beq_eq_false_iff_ne.mpr c7
   have c7b1 : (a0_0 != 0) = true := bne_iff_ne.mpr c7
   obtain ⟨y193, hy193⟩ : ∃ y_ : List (S33), y_ = (([(⟨a0_0, a0_1, a0_2, a0_3, l0_4, l0_5, l0_6, a0_7⟩ : S33)] : List (S33))) := ⟨_, rfl⟩
   replace H : ((spec_l5Kids.f k y193 0).bind fun t196 => (some t196)) = some r := by first | (rw [hy193]; with_reducible exact H) | (have H2_ := (Option.bind_some _ _).symm.trans H; rw [hy193]; with_reducible exact H2_) | (have H2_ := (Option.bind_some _ _).symm.trans H; with_reducible exact H2_) | with_reducible exact H | (rw [hy193]; exact H) | exact H
   have Ny193 := Aside0.mk hy193
   clear hy193
   replace H := Option.bind_eq_some_iff.mp H
   obtain ⟨t196, A350, H⟩ := H
   try dsimp only at H
   have A35 := Aside0.mk A350
   clear A350
   obtain rfl := Option.some.inj H
   obtain ⟨hcz36_0, hcz36_1, hcz36_2, hcz36_3, hcz36_4, hcz36_5, hcz36_6, hcz36_7⟩ := bc8 BK191.out
   go_wp2_with (first | ((with_reducible refine gate_dst (N := 12) rfl ?_); (try (refine gate_guard (by rfl) ?_; dsimp only)); refine Kd.N_lit k33 _ 33 ?hg (N' := 12) ?hd (xs := ([(⟨a0_0, a0_1, a0_2, a0_3, l0_4, l0_5, l0_6, a0_7⟩ : S33)] : List (S33))) (inner := [.int .i64 a0_0, .string a0_1, .string a0_2, .string a0_3, .slice A0_4 l0_4.length c0_4, .slice A0_5 l0_5.length c0_5, .slice A0_6 l0_6.length c0_6, .string a0_7]) (ok := (fun k_ => ((P0_4_ k_ ∨ P0_5_ k_ ∨ P0_6_ k_) ∨ w.heap.size ≤ k_) ∧ k_ ≠ gb191)) (okp := (fun k_ => ((P0_4_ k_ ∨ P0_5_ k_ ∨ P0_6_ k_) ∨ w.heap.size ≤ k_) ∧ k_ ≠ gb191)) ?hr ?hp (fun _ hk => hk) ((show ∀ k_, w5.heap.size ≤ k_ → (fun k_ => ((P0_4_ k_ ∨ P0_5_ k_ ∨ P0_6_ k_) ∨ w.heap.size ≤ k_) ∧ k_ ≠ gb191) k_ from fun k_ hk => ⟨(.inr (Nat.le_trans (below_size (by repeat (first|(with_reducible first|exact HB.out|apply zA|apply zN|apply zD | refine below_set ?_ GE191.out) | exact HB.out))) hk)), Kd.freshB (g := gb191) (by (with_reducible repeat (first | refine bN ?_ _|refine bD ?_|refine bA ?_ _)); exact BK191.out) k_ hk⟩) _ (Nat.le_refl _)) (Below.refl _ _) (Nat.le_refl _) (by simp) ?_; (case hd => rfl); (case hg => rfl); (case hr => first | (go_simp; done) | (go_simp; rfl)); (case hp => exact (Reps.c8 (show Kd.FK k33 _ _ (⟨a0_0, a0_1, a0_2, a0_3, l0_4, l0_5, l0_6, a0_7⟩ : S33) [.int .i64 a0_0, .string a0_1, .string a0_2, .string a0_3, .slice A0_4 l0_4.length c0_4, .slice A0_5 l0_5.length c0_5, .slice A0_6 l0_6.length c0_6, .string a0_7] from (k33_mkF _ _ (⟨a0_0, a0_1, a0_2, a0_3, l0_4, l0_5, l0_6, a0_7⟩ : S33) (Kd.V_reads' (Kd.V_mono (ok' := (fun k_ => ((P0_4_ k_ ∨ P0_5_ k_ ∨ P0_6_ k_) ∨ w.heap.size ≤ k_) ∧ k_ ≠ gb191)) (HO0_4.out) (fun k_ hk => ⟨hk.1, hk.2⟩))).2.1 (Kd.V_F (Kd.V_mono (ok' := (fun k_ => ((P0_4_ k_ ∨ P0_5_ k_ ∨ P0_6_ k_) ∨ w.heap.size ≤ k_) ∧ k_ ≠ gb191)) (HO0_4.out) (fun k_ hk => ⟨hk.1, hk.2⟩))) (Kd.V_reads' (Kd.V_mono (ok' := (fun k_ => ((P0_4_ k_ ∨ P0_5_ k_ ∨ P0_6_ k_) ∨ w.heap.size ≤ k_) ∧ k_ ≠ gb191)) (HO0_5.out) (fun k_ hk => ⟨hk.1, hk.2⟩))).2.1 (Kd.V_F (Kd.V_mono (ok' := (fun k_ => ((P0_4_ k_ ∨ P0_5_ k_ ∨ P0_6_ k_) ∨ w.heap.size ≤ k_) ∧ k_ ≠ gb191)) (HO0_5.out) (fun k_ hk => ⟨hk.1, hk.2⟩))) (Kd.V_reads' (Kd.V_mono (ok' := (fun k_ => ((P0_4_ k_ ∨ P0_5_ k_ ∨ P0_6_ k_) ∨ w.heap.size ≤ k_) ∧ k_ ≠ gb191)) (HO0_6.out) (fun k_ hk => ⟨hk.1, hk.2⟩))).2.1 (Kd.V_F (Kd.V_mono (ok' := (fun k_ => ((P0_4_ k_ ∨ P0_5_ k_ ∨ P0_6_ k_) ∨ w.heap.size ≤ k_) ∧ k_ ≠ gb191)) (HO0_6.out) (fun k_ hk => ⟨hk.1, hk.2⟩))))) (Reps.none _ _))); intro v194 w37 ho38 hb hg_ hnew_; clear hg_ hnew_; (first | rw [← Ny193.out] at ho38 | (simp only [Int.reduceToNat] at ho38; rw [← Ny193.out] at ho38)); replace HO0_4 := Aside0.mk (Kd.V_elder' (by (with_reducible repeat (first | apply Kd.V_alloc | apply Kd.V_drewN | apply Kd.V_drew)); exact HO0_4.out) (Kd.N_base ho38) hb); replace HO0_5 := Aside0.mk (Kd.V_elder' (by (with_reducible repeat (first | apply Kd.V_alloc | apply Kd.V_drewN | apply Kd.V_drew)); exact HO0_5.out) (Kd.N_base ho38) hb); replace HO0_6 := Aside0.mk (Kd.V_elder' (by (with_reducible repeat (first | apply Kd.V_alloc | apply Kd.V_drewN | apply Kd.V_drew)); exact HO0_6.out) (Kd.N_base ho38) hb); have HO195 := Aside0.mk (Kd.N_lower ho38 (below_size (by repeat (first|(with_reducible first|exact HB.out|apply zA|apply zN|apply zD | refine below_set ?_ GE191.out) | exact HB.out)))); replace BK191 := Aside0.mk (blk_below (g := gb191) (by (with_reducible repeat (first | refine bN ?_ _|refine bD ?_|refine bA ?_ _)); exact BK191.out) hb); replace HB := Aside0.mk (below_step (by repeat (first|(with_reducible first|exact HB.out|apply zA|apply zN|apply zD | refine below_set ?_ GE191.out) | exact HB.out)) hb); clear hb ho38; obtain ⟨Ao39, co39, eo39⟩ := Kd.N_slice HO195.out; subst eo39) | ((with_reducible refine gate_callee (f := 56) rfl ?_); refine goesL_ (some 13) rfl rfl Tryz.func56 (by kernel_rfl) rfl #[.slice Ao39 y193.length co39, .int .i64 0] rfl (by (try simp only [List.map_toArray, List.map_cons, List.map_nil]); first | done | rfl | (simp only [List.length_drop, List.length_take]; rfl)) ?_; (with_reducible refine (spec_l5Kids.calls k _ _ y193 0 t196 _ ?side1 ?side2 A35.out).mono ?_); (case side1 => repeat (first | exact (Kd.N_reads' HO195.out).2.2 | (with_reducible refine Kd.C_alloc ?_ _) | (with_reducible refine Kd.C_drewN ?_ _) | (with_reducible refine Kd.C_drew ?_))); (case side2 => exact (Kd.N_reads' HO195.out).2.1); rintro e w40 ⟨rfl, hb⟩; refine ⟨_, rfl, ?_⟩; replace HO0_4 := Aside0.mk (Kd.V_below (by (with_reducible repeat (first | apply Kd.V_alloc | apply Kd.V_drewN | apply Kd.V_drew)); exact HO0_4.out) hb); replace HO0_5 := Aside0.mk (Kd.V_below (by (with_reducible repeat (first | apply Kd.V_alloc | apply Kd.V_drewN | apply Kd.V_drew)); exact HO0_5.out) hb); replace HO0_6 := Aside0.mk (Kd.V_below (by (with_reducible repeat (first | apply Kd.V_alloc | apply Kd.V_drewN | apply Kd.V_drew)); exact HO0_6.out) hb); replace HO195 := Aside0.mk (Kd.N_below (by (with_reducible repeat (first | apply Kd.N_alloc | apply Kd.N_drewN | apply Kd.N_drew)); exact HO195.out) hb); replace BK191 := Aside0.mk (blk_below (g := gb191) (by (with_reducible repeat (first | refine bN ?_ _|refine bD ?_|refine bA ?_ _)); exact BK191.out) hb); replace HB := Aside0.mk (below_step (by repeat (first|(with_reducible first|exact HB.out|apply zA|apply zN|apply zD | refine below_set ?_ GE191.out) | exact HB.out)) hb); (try clear hb); (try clear hb2); (try clear hk); (try clear hi)))
   go_ret
   exact ⟨rE, by repeat (first|(with_reducible first|exact HB.out|apply zA|apply zN|apply zD | refine below_set ?_ GE191.out) | exact HB.out)⟩

/-! ### spec_Inner: function 64 -/
def spec_Inner.f (l0 : List (S80)) (l1 : List (S80)) : Option ((List (S80))) := (some (([] : List (S80)) : List (S80))).bind fun y201 => (if y201.length + l0.length < 4398046511104 then ((some (y201 ++ l0 : List (S80))).bind fun y204 => (if y204.length + l1.length < 4398046511104 then (some (y204 ++ l1)) else (none))) else (none))
theorem spec_Inner.calls (A0 : Option Addr) (c0 : Nat) (l0 : List (S80)) (A1 : Option Addr) (c1 : Nat) (l1 : List (S80)) (r : List (S80)) (w : World) (hr0 : Kd.C k80 w A0 l0.length l0) (hc0 : l0.length ≤ c0) (hr1 : Kd.C k80 w A1 l1.length l1) (hc1 : l1.length ≤ c1) (h : spec_Inner.f l0 l1 = some r) :
  Calls Tryz.prog 64 #[.slice A0 l0.length c0, .slice A1 l1.length c1] w fun e w' => ∃ v0_ : Value, e = .returned (v0_) ∧ Kd.R k80 80 w' w.heap.size (fun _ => True) v0_ r ∧ Below w.heap.size w w' := by
 have HR0 := Aside0.mk hr0
 have HC0 := Aside0.mk hc0
 clear hr0 hc0
 have HR1 := Aside0.mk hr1
 have HC1 := Aside0.mk hc1
 clear hr1 hc1
 have HB := Aside0.mk (Below.refl w.heap.size w)
 have H : ((some (([] : List (S80)) : List (S80))).bind fun y201 => (if y201.length + l0.length < 4398046511104 then ((some (y201 ++ l0 : List (S80))).bind fun y204 => (if y204.length + l1.length < 4398046511104 then (some (y204 ++ l1)) else (none))) else (none))) = some r := h
 clear h
 obtain ⟨y201, hy201⟩ : ∃ y_ : List (S80), y_ = (([] : List (S80))) := ⟨_, rfl⟩
 replace H : (if y201.length + l0.length < 4398046511104 then ((some (y201 ++ l0 : List (S80))).bind fun y204 => (if y204.length + l1.length < 4398046511104 then (some (y204 ++ l1)) else (none))) else (none)) = some r := by first | (rw [hy201]; with_reducible exact H) | (have H2_ := (Option.bind_some _ _).symm.trans H; rw [hy201]; with_reducible exact H2_) | (have H2_ := (Option.bind_some _ _).symm.trans H; with_reducible exact H2_) | with_reducible exact H | (rw [hy201]; exact H) | exact H
 have Ny201 := Aside0.mk hy201
 clear hy201
 by_cases c3 : y201.length + l0.length < 4398046511104
 ·rw [if_pos c3] at H
  have LMc3 := Aside0.mk c3
  clear c3
  obtain ⟨y204, hy204⟩ : ∃ y_ : List (S80), y_ = (y201 ++ l0) := ⟨_, rfl⟩
  replace H : (if y204.length + l1.length < 4398046511104 then (some (y204 ++ l1)) else (none)) = some r := by first | (rw [hy204]; with_reducible exact H) | (have H2_ := (Option.bind_some _ _).symm.trans H; rw [hy204]; with_reducible exact H2_) | (have H2_ := (Option.bind_some _ _).symm.trans H; with_reducible exact H2_) | with_reducible exact H | (rw [hy204]; exact H) | exact H
  have Ny204 := Aside0.mk hy204
  clear hy204
  by_cases c4 : y204.length + l1.length < 4398046511104
  ·rw [if_pos c4] at H
   have LMc4 := Aside0.mk c4
   clear c4
   obtain ⟨y207, hy207⟩ : ∃ y_ : List (S80), y_ = (y204 ++ l1) := ⟨_, rfl⟩
   replace H : (some y207) = some r := by first | (rw [hy207]; with_reducible exact H) | (have H2_ := (Option.bind_some _ _).symm.trans H; rw [hy207]; with_reducible exact H2_) | (have H2_ := (Option.bind_some _ _).symm.trans H; with_reducible exact H2_) | with_reducible exact H | (rw [hy207]; exact H) | exact H
   have Ny207 := Aside0.mk hy207
   clear hy207
   obtain rfl := Option.some.inj H
   go_enter Tryz.func64, Tryz.ntmps64
   go_wp2_with (first | ((with_reducible refine gate_dst (N := 5) rfl ?_); refine Kd.R_lit k80 _ 80 ?hg (N := 5) ?hd (xs := ([] : List (S80))) (inner := []) (ok := fun _ => True) (okp := fun _ => True) ?hr ?hp (fun _ hk => hk) trivial (Below.refl _ _) (Nat.le_refl _) (by simp) ?_; (case hd => rfl); (case hg => rfl); (case hr => first | (go_simp; done) | (go_simp; rfl)); (case hp => exact (Reps.none _ _)); intro v202 w5 ho6 hb hg_ hnew_; clear hg_ hnew_; (first | rw [← Ny201.out] at ho6 | (simp only [Int.reduceToNat] at ho6; rw [← Ny201.out] at ho6)); have HO203 := Aside0.mk (Kd.R_lower ho6 (below_size (by repeat (first|(with_reducible first|exact HB.out|apply zA|apply zN|apply zD) | exact HB.out)))); replace HB := Aside0.mk (below_step (by repeat (first|(with_reducible first|exact HB.out|apply zA|apply zN|apply zD) | exact HB.out)) hb); clear hb ho6) | ((with_reducible refine gate_builtin (b := .append) (xs := #[.tmp 5, .tmp 6]) rfl ?_); at_builtin; refine Kd.R_append_rows k80 (w0 := w) w.heap.size rfl (.tmp 5) (.tmp 6) 29 80 (.agg #[(.string ⟨#[]⟩), (.string ⟨#[]⟩)]) 32 rfl Tryz.underlying29 info80 rfl (by decide) (by omega) v202 y201 l0 _ _ _ (fun _ => True) (fun _ => False) rfl rfl ?aO ?aR (fun _ _ h => h) (fun _ h => h.elim) ?aF ?aB ?aS ?aL ?_; (case aR => repeat (first | exact (Kd.C_below HR0.out HB.out) | (with_reducible refine Kd.C_alloc ?_ _) | (with_reducible refine Kd.C_drewN ?_ _) | (with_reducible refine Kd.C_drew ?_))); (case aB => exact (by repeat (first|(with_reducible first|exact HB.out|apply zA|apply zN|apply zD) | exact HB.out))); (case aF => exact (fun _ _ => trivial)); (case aO => exact (by (with_reducible repeat (first|apply rA|apply rN|apply rD)); exact HO203.out)); (case aS => exact (below_size (by repeat (first|(with_reducible first|exact HB.out|apply zA|apply zN|apply zD) | exact HB.out)))); (case aL => have := LMc3.out; omega); intro v205 w7 ho hb hg hat; rw [← Ny204.out] at ho; replace HB := Aside0.mk (hb); have HO206 := Aside0.mk (ho); clear HO203; clear ho hb hg hat) | ((with_reducible refine gate_builtin (b := .append) (xs := #[.tmp 7, .tmp 8]) rfl ?_); at_builtin; refine Kd.R_append_rows k80 (w0 := w) w.heap.size rfl (.tmp 7) (.tmp 8) 29 80 (.agg #[(.string ⟨#[]⟩), (.string ⟨#[]⟩)]) 32 rfl Tryz.underlying29 info80 rfl (by decide) (by omega) v205 y204 l1 _ _ _ (fun _ => True) (fun _ => False) rfl rfl ?aO ?aR (fun _ _ h => h) (fun _ h => h.elim) ?aF ?aB ?aS ?aL ?_; (case aR => repeat (first | exact (Kd.C_below HR1.out HB.out) | (with_reducible refine Kd.C_alloc ?_ _) | (with_reducible refine Kd.C_drewN ?_ _) | (with_reducible refine Kd.C_drew ?_))); (case aB => exact (by repeat (first|(with_reducible first|exact HB.out|apply zA|apply zN|apply zD) | exact HB.out))); (case aF => exact (fun _ _ => trivial)); (case aO => exact (by (with_reducible repeat (first|apply rA|apply rN|apply rD)); exact HO206.out)); (case aS => exact (below_size (by repeat (first|(with_reducible first|exact HB.out|apply zA|apply zN|apply zD) | exact HB.out)))); (case aL => have := LMc4.out; omega); intro v208 w8 ho hb hg hat; rw [← Ny207.out] at ho; replace HB := Aside0.mk (hb); have HO209 := Aside0.mk (ho); clear HO206; clear ho hb hg hat))
   go_ret
   exact ⟨_, rE, by (with_reducible repeat (first|apply rA|apply rN|apply rD)); exact HO209.out, by repeat (first|(with_reducible first|exact HB.out|apply zA|apply zN|apply zD) | exact HB.out)⟩
  ·rw [if_neg c4] at H
   exact absurd H (by simp)
 ·rw [if_neg c3] at H
  exact absurd H (by simp)

/-! ### spec_SpaceOf: function 65 -/
def spec_SpaceOf.l0 : Nat → List (S80) → ByteArray → Int → Option (ByteArray × Bool)
 | 0, _, _, _ => none
 | k + 1, x0, x1, x6 => if x6 ≥ 0 then (if 0 ≤ x6 then (if x6 < (x0.length : Int) then (if ((rd_T80 x0 x6).f0).toList = x1.toList then (some ((rd_T80 x0 x6).f1, true)) else (spec_SpaceOf.l0 k x0 x1 (wrap64 (x6 - 1)))) else (none)) else (none)) else (some ((⟨#[]⟩ : ByteArray), (x1.toList == ([] : List UInt8))))
def spec_SpaceOf.f (k : Nat) (l0 : List (S80)) (a1 : ByteArray) : Option (ByteArray × Bool) := spec_SpaceOf.l0 k l0 a1 (wrap64 ((l0.length : Int) - 1))
theorem spec_SpaceOf.calls (k : Nat) (A0 : Option Addr) (c0 : Nat) (l0 : List (S80)) (a1 : ByteArray) (r1 : ByteArray) (r2 : Bool) (w : World) (hr0 : Kd.C k80 w A0 l0.length l0) (hc0 : l0.length ≤ c0) (h : spec_SpaceOf.f k l0 a1 = some (r1, r2)) :
  Calls Tryz.prog 65 #[.slice A0 l0.length c0, .string a1] w fun e w' => e = .returned (.tuple #[.string r1, .bool r2]) ∧ Drawn0 w w' := by
 have HR0 := Aside0.mk hr0
 have HC0 := Aside0.mk hc0
 clear hr0 hc0
 have H : (spec_SpaceOf.l0 k l0 a1 (wrap64 ((l0.length : Int) - 1))) = some (r1, r2) := h
 clear h
 have H' := Aside0.mk H
 clear H
 go_enter Tryz.func65, Tryz.ntmps65
 go_wp2
 go_loopg [6] k (fun kq v6 w' => ∃ (x6_1 : Int), v6 = .int .i64 x6_1 ∧ Aside0 (spec_SpaceOf.l0 kq l0 a1 x6_1 = some (r1, r2)) ∧ Aside0 (kq ≤ k) ∧ Drawn0 w w')
 case atStart => exact ⟨(wrap64 ((l0.length : Int) - 1)), rG, H', ⟨Nat.le_refl _⟩, by repeat (first | exact Drawn0.refl _ | apply Drawn0.step)⟩
 case round =>
  clear H'
  try clear p2
  try clear p2
  obtain ⟨x6_1, rfl, HA, HK1, ⟨m1, rfl⟩⟩ := hrel
  cases gk with
  | zero => exact absurd HA.out (by simp [spec_SpaceOf.l0])
  | succ k1 =>
   have H := HA.out
   clear HA
   simp only [spec_SpaceOf.l0] at H
   by_cases c3 : x6_1 ≥ 0
   ·rw [if_pos c3] at H
    have c3b0 : decide (0 ≤ x6_1) = true := decide_eq_true c3
    clear c3
    by_cases c4 : 0 ≤ x6_1
    ·rw [if_pos c4] at H
     have c4b0 : decide (0 ≤ x6_1) = true := decide_eq_true c4
     clear c4
     by_cases c5 : x6_1 < (l0.length : Int)
     ·rw [if_pos c5] at H
      have c5b0 : decide (x6_1 < (l0.length : Int)) = true := decide_eq_true c5
      clear c5
      by_cases c6 : ((rd_T80 l0 x6_1).f0).toList = a1.toList
      ·rw [if_pos c6] at H
       have c6b0 : (((rd_T80 l0 x6_1).f0).toList == a1.toList) = true := beq_iff_eq.mpr c6
       have c6b1 : (((rd_T80 l0 x6_1).f0).toList != a1.toList) = false := bne_eq_false_iff_eq.mpr c6
       clear c6
       simp only [Option.some.injEq, Prod.mk.injEq] at H
       obtain ⟨rfl, rfl⟩ := H
       have p210 : 0 ≤ (x6_1 : Int) := odt
       have q210 : x6_1 < (l0.length : Int) := odt
       obtain ⟨ad210, e210, hx210_0, hx210_1⟩ := at_T80 HR0.out x6_1 p210 q210
       cases e210
       replace p210 := eq_true p210
       replace q210 := eq_true q210
       have p211 : 0 ≤ (x6_1 : Int) := odt
       have q211 : x6_1 < (l0.length : Int) := odt
       obtain ⟨ad211, e211, hx211_0, hx211_1⟩ := at_T80 HR0.out x6_1 p211 q211
       obtain rfl : ad210 = ad211 := (by injection e211)
       replace p211 := eq_true p211
       replace q211 := eq_true q211
       go_wp2
       go_ret2
       exact ⟨by first | rfl | (simp; done) | (simp [*]; done), by repeat (first | exact Drawn0.refl _ | apply Drawn0.step)⟩
      ·rw [if_neg c6] at H
       have c6b0 : (((rd_T80 l0 x6_1).f0).toList == a1.toList) = false := beq_eq_false_iff_ne.mpr c6
       have c6b1 : (((rd_T80 l0 x6_1).f0).toList != a1.toList) = true := bne_iff_ne.mpr c6
       have H' := Aside0.mk H
       clear H
       have p210 : 0 ≤ (x6_1 : Int) := odt
       have q210 : x6_1 < (l0.length : Int) := odt
       obtain ⟨ad210, e210, hx210_0, hx210_1⟩ := at_T80 HR0.out x6_1 p210 q210
       cases e210
       replace p210 := eq_true p210
       replace q210 := eq_true q210
       go_wp2
       go_roundg k1
       case measure => have := HK1.out; omega
       case rel => exact ⟨(wrap64 (x6_1 - 1)), rG, H', ⟨by have := HK1.out; omega⟩, by repeat (first | exact Drawn0.refl _ | apply Drawn0.step)⟩
     ·rw [if_neg c5] at H
      exact absurd H (by simp)
    ·rw [if_neg c4] at H
     exact absurd H (by simp)
   ·rw [if_neg c3] at H
    have c3b0 : decide (0 ≤ x6_1) = false := decide_eq_false c3
    clear c3
    simp only [Option.some.injEq, Prod.mk.injEq] at H
    obtain ⟨rfl, rfl⟩ := H
    go_wp2
    go_ret2
    exact ⟨by first | rfl | (simp; done) | (simp [*]; done), by repeat (first | exact Drawn0.refl _ | apply Drawn0.step)⟩

end Go.Proofs.YtlfjdaoibjjakaaGreatDoor.PT
