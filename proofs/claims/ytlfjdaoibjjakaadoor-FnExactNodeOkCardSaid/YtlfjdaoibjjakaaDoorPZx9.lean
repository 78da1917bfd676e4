-- Written by the session's program hprint.py, over the kit's print program. Lean checks it.
import Derived.Test.YtlfjdaoibjjakaaDoorPZx0
import Derived.Test.YtlfjdaoibjjakaaDoorPZx1
import Derived.Test.YtlfjdaoibjjakaaDoorPZx8
namespace Go.Proofs.YtlfjdaoibjjakaaDoor.PZ
open Go.RowKit Go.Proofs.YtlfjdaoibjjakaaDoorW.PrintWords Go.Proofs.YtlfjdaoibjjakaaDoorW.PrintLast Go.Proofs.YtlfjdaoibjjakaaDoorW.PrintMore
attribute [local go_sem] max2_int min2_int max_two min_two max_three min_three max_four min_four   -- for this text's walks alone
set_option linter.unusedVariables false
set_option linter.unusedSimpArgs false

/-! ### spec_NodeOk: function 6 -/
def spec_NodeOk.l0 : Nat → Int → Int → Int → ByteArray → ByteArray → ByteArray → List (S84) → List (S72) → List (S33) → ByteArray → Option (Bool)
 | 0, _, _, _, _, _, _, _, _, _, _ => none
 | k + 1, x3, x4, x192000, x192001, x192002, x192003, x192004, x192005, x192006, x192007 => if x4 < (x192006.length : Int) then (if 0 ≤ x4 then (if ((rd_T33 x192006 x4).f0) = 1 then (if ((rd_T33 x192006 x4).f0) = 2 then (some false) else (spec_NodeOk.l0 k (wrap64 (x3 + 1)) (wrap64 (x4 + 1)) x192000 x192001 x192002 x192003 x192004 x192005 x192006 x192007)) else (if ((rd_T33 x192006 x4).f0) = 2 then (some false) else (spec_NodeOk.l0 k x3 (wrap64 (x4 + 1)) x192000 x192001 x192002 x192003 x192004 x192005 x192006 x192007))) else (none)) else (if x3 = 1 then (if x192001.toList = ([] : List UInt8) then (if x192002.toList = ([] : List UInt8) then (if x192003.toList = ([] : List UInt8) then (if x192007.toList = ([] : List UInt8) then (if (x192004.length : Int) = 0 then (if (x192005.length : Int) = 0 then ((spec_l5Kids.f k x192006 0).bind fun t197 => (some t197)) else (some false)) else (some false)) else (some false)) else (some false)) else (some false)) else (some false)) else (some false))
def spec_NodeOk.f (k : Nat) (a0_0 : Int) (a0_1 : ByteArray) (a0_2 : ByteArray) (a0_3 : ByteArray) (l0_4 : List (S84)) (l0_5 : List (S72)) (l0_6 : List (S33)) (a0_7 : ByteArray) : Option (Bool) := (spec_CountOf.f k a0_0 a0_1 a0_2 a0_3 l0_4 l0_5 l0_6 a0_7).bind fun t192 => (if t192 > 60 then (some false) else (if a0_0 = 0 then (spec_NodeOk.l0 k 0 0 a0_0 a0_1 a0_2 a0_3 l0_4 l0_5 l0_6 a0_7) else ((spec_l5Kids.f k (([(⟨a0_0, a0_1, a0_2, a0_3, l0_4, l0_5, l0_6, a0_7⟩ : S33)] : List (S33))) 0).bind fun t196 => (some t196))))
set_option maxHeartbeats 8000000 in
set_option maxRecDepth 100000 in
theorem spec_NodeOk.calls (k : Nat) (a0_0 : Int) (a0_1 : ByteArray) (a0_2 : ByteArray) (a0_3 : ByteArray) (P0_4_ : Nat → Prop) (A0_4 : Option Addr) (c0_4 : Nat) (l0_4 : List (S84)) (P0_5_ : Nat → Prop) (A0_5 : Option Addr) (c0_5 : Nat) (l0_5 : List (S72)) (P0_6_ : Nat → Prop) (A0_6 : Option Addr) (c0_6 : Nat) (l0_6 : List (S33)) (a0_7 : ByteArray) (r : Bool) (w : World) (hs0_4 : Kd.V k84 84 w w.heap.size (fun k_ => P0_4_ k_) (.slice A0_4 l0_4.length c0_4) l0_4) (hs0_5 : Kd.V k72 72 w w.heap.size (fun k_ => P0_5_ k_) (.slice A0_5 l0_5.length c0_5) l0_5) (hs0_6 : Kd.V k33 33 w w.heap.size (fun k_ => P0_6_ k_) (.slice A0_6 l0_6.length c0_6) l0_6) (h : spec_NodeOk.f k a0_0 a0_1 a0_2 a0_3 l0_4 l0_5 l0_6 a0_7 = some r) :
  Calls Tryd.prog 6 #[.agg #[.int .i64 a0_0, .string a0_1, .string a0_2, .string a0_3, .slice A0_4 l0_4.length c0_4, .slice A0_5 l0_5.length c0_5, .slice A0_6 l0_6.length c0_6, .string a0_7]] w fun e w' => e = .returned (.bool r) ∧ Below w.heap.size w w' := by
 have hu33 := Tryd.underlying33
 have HO0_4 := Aside0.mk (show Kd.V k84 84 w w.heap.size (fun k_ => ((P0_4_ k_ ∨ P0_5_ k_ ∨ P0_6_ k_) ∨ w.heap.size ≤ k_)) (.slice A0_4 l0_4.length c0_4) l0_4 from Kd.V_mono hs0_4 (fun k_ hk => .inl (.inl hk)))
 have HO0_5 := Aside0.mk (show Kd.V k72 72 w w.heap.size (fun k_ => ((P0_4_ k_ ∨ P0_5_ k_ ∨ P0_6_ k_) ∨ w.heap.size ≤ k_)) (.slice A0_5 l0_5.length c0_5) l0_5 from Kd.V_mono hs0_5 (fun k_ hk => .inl (.inr (.inl hk))))
 have HO0_6 := Aside0.mk (show Kd.V k33 33 w w.heap.size (fun k_ => ((P0_4_ k_ ∨ P0_5_ k_ ∨ P0_6_ k_) ∨ w.heap.size ≤ k_)) (.slice A0_6 l0_6.length c0_6) l0_6 from Kd.V_mono hs0_6 (fun k_ hk => .inl (.inr (.inr hk))))
 have HB := Aside0.mk (Below.refl w.heap.size w)
 have H : ((spec_CountOf.f k a0_0 a0_1 a0_2 a0_3 l0_4 l0_5 l0_6 a0_7).bind fun t192 => (if t192 > 60 then (some false) else (if a0_0 = 0 then (spec_NodeOk.l0 k 0 0 a0_0 a0_1 a0_2 a0_3 l0_4 l0_5 l0_6 a0_7) else ((spec_l5Kids.f k (([(⟨a0_0, a0_1, a0_2, a0_3, l0_4, l0_5, l0_6, a0_7⟩ : S33)] : List (S33))) 0).bind fun t196 => (some t196))))) = some r := h
 clear h
 replace H := Option.bind_eq_some_iff.mp H
 obtain ⟨t192, A20, H⟩ := H
 try dsimp only at H
 have A2 := Aside0.mk A20
 clear A20
 go_enter Tryd.func6, Tryd.ntmps6
 go_wp2_with (first | ((with_reducible refine gate_dst (N := 1) rfl ?_); (try (refine gate_guard (by rfl) ?_; dsimp only)); refine box_event ?hg (N := 1) ?hd (cs := #[.int .i64 a0_0, .string a0_1, .string a0_2, .string a0_3, .slice A0_4 l0_4.length c0_4, .slice A0_5 l0_5.length c0_5, .slice A0_6 l0_6.length c0_6, .string a0_7]) (t := 33) ?hr ?_; (case hd => rfl); (case hg => rfl); (case hr => first | (go_simp; done) | (go_simp; rfl)); intro gb191 hg w3 hbox hb; replace HO0_4 := Aside0.mk (Kd.V_below (Kd.V_elderB (by (with_reducible repeat (first | apply Kd.V_alloc | apply Kd.V_drewN | apply Kd.V_drew)); exact HO0_4.out) gb191 (Nat.le_of_eq hg.symm)) hb); replace HO0_5 := Aside0.mk (Kd.V_below (Kd.V_elderB (by (with_reducible repeat (first | apply Kd.V_alloc | apply Kd.V_drewN | apply Kd.V_drew)); exact HO0_5.out) gb191 (Nat.le_of_eq hg.symm)) hb); replace HO0_6 := Aside0.mk (Kd.V_below (Kd.V_elderB (by (with_reducible repeat (first | apply Kd.V_alloc | apply Kd.V_drewN | apply Kd.V_drew)); exact HO0_6.out) gb191 (Nat.le_of_eq hg.symm)) hb); have BK191 := Aside0.mk (hbox); have GW191 := Aside0.mk ((by rw [hg]; exact (below_size (by repeat (first|(with_reducible first|exact HB.out|apply zA|apply zN|apply zD) | exact HB.out))) : w.heap.size ≤ gb191)); have GE191 := Aside0.mk ((by rw [hg]; exact (below_size (by repeat (first|(with_reducible first|exact HB.out|apply zA|apply zN|apply zD) | exact HB.out))) : w.heap.size ≤ gb191)); replace HB := Aside0.mk (below_step (by repeat (first|(with_reducible first|exact HB.out|apply zA|apply zN|apply zD) | exact HB.out)) hb); clear hb hbox hg; obtain ⟨hcz4_0, hcz4_1, hcz4_2, hcz4_3, hcz4_4, hcz4_5, hcz4_6, hcz4_7⟩ := bc8 BK191.out) | ((with_reducible refine gate_callee (f := 23) rfl ?_); refine goesL_ (some 6) rfl rfl Tryd.func23 (by kernel_rfl) rfl #[.agg #[.int .i64 a0_0, .string a0_1, .string a0_2, .string a0_3, .slice A0_4 l0_4.length c0_4, .slice A0_5 l0_5.length c0_5, .slice A0_6 l0_6.length c0_6, .string a0_7]] rfl (by (try simp only [List.map_toArray, List.map_cons, List.map_nil]); first | done | rfl | (simp only [List.length_drop, List.length_take]; rfl)) ?_; (with_reducible refine (spec_CountOf.calls k a0_0 a0_1 a0_2 a0_3 _ _ l0_4 _ _ l0_5 _ _ l0_6 a0_7 t192 _ ?side1 ?side2 ?side3 ?side4 ?side5 ?side6 A2.out).mono ?_); (case side1 => repeat (first | exact (Kd.V_reads' HO0_4.out).2.2 | (with_reducible refine Kd.C_alloc ?_ _) | (with_reducible refine Kd.C_drewN ?_ _) | (with_reducible refine Kd.C_drew ?_))); (case side2 => exact (Kd.V_reads' HO0_4.out).2.1); (case side3 => repeat (first | exact (Kd.V_reads' HO0_5.out).2.2 | (with_reducible refine Kd.C_alloc ?_ _) | (with_reducible refine Kd.C_drewN ?_ _) | (with_reducible refine Kd.C_drew ?_))); (case side4 => exact (Kd.V_reads' HO0_5.out).2.1); (case side5 => repeat (first | exact (Kd.V_reads' HO0_6.out).2.2 | (with_reducible refine Kd.C_alloc ?_ _) | (with_reducible refine Kd.C_drewN ?_ _) | (with_reducible refine Kd.C_drew ?_))); (case side6 => exact (Kd.V_reads' HO0_6.out).2.1); rintro e w5 ⟨rfl, hb⟩; refine ⟨_, rfl, ?_⟩; replace HO0_4 := Aside0.mk (Kd.V_below (by (with_reducible repeat (first | apply Kd.V_alloc | apply Kd.V_drewN | apply Kd.V_drew)); exact HO0_4.out) hb); replace HO0_5 := Aside0.mk (Kd.V_below (by (with_reducible repeat (first | apply Kd.V_alloc | apply Kd.V_drewN | apply Kd.V_drew)); exact HO0_5.out) hb); replace HO0_6 := Aside0.mk (Kd.V_below (by (with_reducible repeat (first | apply Kd.V_alloc | apply Kd.V_drewN | apply Kd.V_drew)); exact HO0_6.out) hb); replace BK191 := Aside0.mk (blk_below (g := gb191) (by (with_reducible repeat (first | refine bN ?_ _|refine bD ?_|refine bA ?_ _)); exact BK191.out) hb); replace HB := Aside0.mk (below_step (by repeat (first|(with_reducible first|exact HB.out|apply zA|apply zN|apply zD | refine below_set ?_ GE191.out) | exact HB.out)) hb); (try clear hb); (try clear hb2); (try clear hk); (try clear hi); refine halt_ ?_; intro q_ hq_))
 obtain ⟨rfl⟩ := hq_
 by_cases c6 : t192 > 60
 ·rw [if_pos c6] at H
  have c6b0 : decide (60 < t192) = true := decide_eq_true c6
  clear c6
  obtain rfl := Option.some.inj H
  go_wp2
  go_ret
  exact ⟨rE, by repeat (first|(with_reducible first|exact HB.out|apply zA|apply zN|apply zD | refine below_set ?_ GE191.out) | exact HB.out)⟩
 ·rw [if_neg c6] at H
  have c6b0 : decide (60 < t192) = false := decide_eq_false c6
  clear c6
  by_cases c7 : a0_0 = 0
  ·rw [if_pos c7] at H
   have c7b0 : (a0_0 == 0) = true := beq_iff_eq.mpr c7
   have c7b1 : (a0_0 != 0) = false := bne_eq_false_iff_eq.mpr c7
   clear c7
   have H' := Aside0.mk H
   clear H
   obtain ⟨hcz8_0, hcz8_1, hcz8_2, hcz8_3, hcz8_4, hcz8_5, hcz8_6, hcz8_7⟩ := bc8 BK191.out
   go_wp2
   go_loopg [3, 4] k (fun kq v3 v4 w' => ∃ (x3_1 : Int) (x4_1 : Int), v3 = .int .i64 x3_1 ∧ v4 = .int .i64 x4_1 ∧ Aside0 (spec_NodeOk.l0 kq x3_1 x4_1 a0_0 a0_1 a0_2 a0_3 l0_4 l0_5 l0_6 a0_7 = some r) ∧ Aside0 (kq ≤ k) ∧ Aside0 (Kd.V k84 84 w' w.heap.size (fun k_ => ((P0_4_ k_ ∨ P0_5_ k_ ∨ P0_6_ k_) ∨ w.heap.size ≤ k_) ∧ k_ ≠ gb191) (.slice A0_4 l0_4.length c0_4) l0_4) ∧ Aside0 (Kd.V k72 72 w' w.heap.size (fun k_ => ((P0_4_ k_ ∨ P0_5_ k_ ∨ P0_6_ k_) ∨ w.heap.size ≤ k_) ∧ k_ ≠ gb191) (.slice A0_5 l0_5.length c0_5) l0_5) ∧ Aside0 (Kd.V k33 33 w' w.heap.size (fun k_ => ((P0_4_ k_ ∨ P0_5_ k_ ∨ P0_6_ k_) ∨ w.heap.size ≤ k_) ∧ k_ ≠ gb191) (.slice A0_6 l0_6.length c0_6) l0_6) ∧ Aside0 (w'.heap[gb191]? = some (.cells #[.int .i64 a0_0, .string a0_1, .string a0_2, .string a0_3, (.slice A0_4 l0_4.length c0_4), (.slice A0_5 l0_5.length c0_5), (.slice A0_6 l0_6.length c0_6), .string a0_7] 33 (0, 0))) ∧ Aside0 (Below w.heap.size w w'))
   case atStart => exact ⟨(0), (0), rG, rG, H', ⟨Nat.le_refl _⟩, ⟨by (with_reducible repeat (first | apply Kd.V_alloc | apply Kd.V_drewN | apply Kd.V_drew)); exact HO0_4.out⟩, ⟨by (with_reducible repeat (first | apply Kd.V_alloc | apply Kd.V_drewN | apply Kd.V_drew)); exact HO0_5.out⟩, ⟨by (with_reducible repeat (first | apply Kd.V_alloc | apply Kd.V_drewN | apply Kd.V_drew)); exact HO0_6.out⟩, ⟨by (with_reducible repeat (first | refine bN ?_ _|refine bD ?_|refine bA ?_ _)); exact BK191.out⟩, ⟨by repeat (first|(with_reducible first|exact HB.out|apply zA|apply zN|apply zD | refine below_set ?_ GE191.out) | exact HB.out)⟩⟩
   case round =>
    clear H'
    try clear c2
    try clear p2
    try clear c6
    try clear c6b0
    try clear c7
    try clear c7b0
    try clear c7b1
    try clear c8
    try clear hcz4_0 hcz4_1 hcz4_2 hcz4_3 hcz4_4 hcz4_5 hcz4_6 hcz4_7
    try clear hcz8_0 hcz8_1 hcz8_2 hcz8_3 hcz8_4 hcz8_5 hcz8_6 hcz8_7
    try clear p2
    obtain ⟨x3_1, x4_1, rfl, rfl, HA, HK1, HO_192004, HO_192005, HO_192006, BK191, HB⟩ := hrel
    cases gk with
    | zero => exact absurd HA.out (by simp [spec_NodeOk.l0])
    | succ k1 =>
     have H := HA.out
     clear HA
     simp only [spec_NodeOk.l0] at H
     by_cases c9 : x4_1 < (l0_6.length : Int)
     ·rw [if_pos c9] at H
      have c9b0 : decide (x4_1 < (l0_6.length : Int)) = true := decide_eq_true c9
      clear c9
      by_cases c10 : 0 ≤ x4_1
      ·rw [if_pos c10] at H
       have c10b0 : decide (0 ≤ x4_1) = true := decide_eq_true c10
       clear c10
       by_cases c11 : ((rd_T33 l0_6 x4_1).f0) = 1
       ·rw [if_pos c11] at H
        have c11b0 : (((rd_T33 l0_6 x4_1).f0) == 1) = true := beq_iff_eq.mpr c11
        have c11b1 : (((rd_T33 l0_6 x4_1).f0) != 1) = false := bne_eq_false_iff_eq.mpr c11
        clear c11
        by_cases c12 : ((rd_T33 l0_6 x4_1).f0) = 2
        ·rw [if_pos c12] at H
         have c12b0 : (((rd_T33 l0_6 x4_1).f0) == 2) = true := beq_iff_eq.mpr c12
         have c12b1 : (((rd_T33 l0_6 x4_1).f0) != 2) = false := bne_eq_false_iff_eq.mpr c12
         clear c12
         obtain rfl := Option.some.inj H
         obtain ⟨hcz13_0, hcz13_1, hcz13_2, hcz13_3, hcz13_4, hcz13_5, hcz13_6, hcz13_7⟩ := bc8 BK191.out
         have p198 : 0 ≤ (x4_1 : Int) := odt
         have q198 : x4_1 < (l0_6.length : Int) := odt
         obtain ⟨ad198, A198_4, c198_4, A198_5, c198_5, A198_6, c198_6, e198, hx198_0, hx198_1, hx198_2, hx198_3, hx198_4, hx198_5, hx198_6, hx198_7, hl198_4, hi198_4, hl198_5, hi198_5, hl198_6, hi198_6⟩ := at_T33 (Kd.V_reads' HO_192006.out).2.2 x4_1 p198 q198
         cases e198
         obtain ⟨ce198, hce198, hMe198, hcc198⟩ := Kd.V_get HO_192006.out z33 x4_1 p198 (by first | exact q198 | exact odt | (have e_ := (Kd.V_reads' HO_192006.out).1; omega))
         obtain ⟨ua198_4, uc198_4, ua198_5, uc198_5, ua198_6, uc198_6, rfl, ul198_4, ge198_4, ul198_5, ge198_5, ul198_6, ge198_6⟩ := k33_openF hMe198
         have hv198_4 := hcc198 4 _ rfl
         rw [add_field _ _ 4 (by omega)] at hv198_4
         replace hv198_4 := Option.some.inj (hv198_4.symm.trans hx198_4)
         injection hv198_4 with hva_ hvn_ hvc_
         rw [hva_] at ge198_4
         rw [hvc_] at ul198_4
         have HL198_4 := Aside0.mk (show Kd.V k84 84 _ w.heap.size _ _ ((rd_T33 l0_6 x4_1).f4) from Kd.V_mk ul198_4 ge198_4)
         clear hva_ hvn_ hvc_ ge198_4 ul198_4
         have hv198_5 := hcc198 5 _ rfl
         rw [add_field _ _ 5 (by omega)] at hv198_5
         replace hv198_5 := Option.some.inj (hv198_5.symm.trans hx198_5)
         injection hv198_5 with hva_ hvn_ hvc_
         rw [hva_] at ge198_5
         rw [hvc_] at ul198_5
         have HL198_5 := Aside0.mk (show Kd.V k72 72 _ w.heap.size _ _ ((rd_T33 l0_6 x4_1).f5) from Kd.V_mk ul198_5 ge198_5)
         clear hva_ hvn_ hvc_ ge198_5 ul198_5
         have hv198_6 := hcc198 6 _ rfl
         rw [add_field _ _ 6 (by omega)] at hv198_6
         replace hv198_6 := Option.some.inj (hv198_6.symm.trans hx198_6)
         injection hv198_6 with hva_ hvn_ hvc_
         rw [hva_] at ge198_6
         rw [hvc_] at ul198_6
         have HL198_6 := Aside0.mk (show Kd.V k33 33 _ w.heap.size _ _ ((rd_T33 l0_6 x4_1).f6) from Kd.V_mk ul198_6 ge198_6)
         clear hva_ hvn_ hvc_ ge198_6 ul198_6
         clear hcc198 hce198
         have HR198_4 := Aside0.mk hi198_4
         have HC198_4 := Aside0.mk hl198_4
         clear hi198_4 hl198_4
         have HR198_5 := Aside0.mk hi198_5
         have HC198_5 := Aside0.mk hl198_5
         clear hi198_5 hl198_5
         have HR198_6 := Aside0.mk hi198_6
         have HC198_6 := Aside0.mk hl198_6
         clear hi198_6 hl198_6
         replace p198 := eq_true p198
         replace q198 := eq_true q198
         have p199 : 0 ≤ (x4_1 : Int) := odt
         have q199 : x4_1 < (l0_6.length : Int) := odt
         obtain ⟨ad199, A199_4, c199_4, A199_5, c199_5, A199_6, c199_6, e199, hx199_0, hx199_1, hx199_2, hx199_3, hx199_4, hx199_5, hx199_6, hx199_7, hl199_4, hi199_4, hl199_5, hi199_5, hl199_6, hi199_6⟩ := at_T33 (Kd.V_reads' HO_192006.out).2.2 x4_1 p199 q199
         obtain rfl : ad198 = ad199 := (by injection e199)
         obtain ⟨ce199, hce199, hMe199, hcc199⟩ := Kd.V_get HO_192006.out z33 x4_1 p199 (by first | exact q199 | exact odt | (have e_ := (Kd.V_reads' HO_192006.out).1; omega))
         obtain ⟨ua199_4, uc199_4, ua199_5, uc199_5, ua199_6, uc199_6, rfl, ul199_4, ge199_4, ul199_5, ge199_5, ul199_6, ge199_6⟩ := k33_openF hMe199
         have hv199_4 := hcc199 4 _ rfl
         rw [add_field _ _ 4 (by omega)] at hv199_4
         replace hv199_4 := Option.some.inj (hv199_4.symm.trans hx199_4)
         injection hv199_4 with hva_ hvn_ hvc_
         rw [hva_] at ge199_4
         rw [hvc_] at ul199_4
         have HL199_4 := Aside0.mk (show Kd.V k84 84 _ w.heap.size _ _ ((rd_T33 l0_6 x4_1).f4) from Kd.V_mk ul199_4 ge199_4)
         clear hva_ hvn_ hvc_ ge199_4 ul199_4
         have hv199_5 := hcc199 5 _ rfl
         rw [add_field _ _ 5 (by omega)] at hv199_5
         replace hv199_5 := Option.some.inj (hv199_5.symm.trans hx199_5)
         injection hv199_5 with hva_ hvn_ hvc_
         rw [hva_] at ge199_5
         rw [hvc_] at ul199_5
         have HL199_5 := Aside0.mk (show Kd.V k72 72 _ w.heap.size _ _ ((rd_T33 l0_6 x4_1).f5) from Kd.V_mk ul199_5 ge199_5)
         clear hva_ hvn_ hvc_ ge199_5 ul199_5
         have hv199_6 := hcc199 6 _ rfl
         rw [add_field _ _ 6 (by omega)] at hv199_6
         replace hv199_6 := Option.some.inj (hv199_6.symm.trans hx199_6)
         injection hv199_6 with hva_ hvn_ hvc_
         rw [hva_] at ge199_6
         rw [hvc_] at ul199_6
         have HL199_6 := Aside0.mk (show Kd.V k33 33 _ w.heap.size _ _ ((rd_T33 l0_6 x4_1).f6) from Kd.V_mk ul199_6 ge199_6)
         clear hva_ hvn_ hvc_ ge199_6 ul199_6
         clear hcc199 hce199
         have HR199_4 := Aside0.mk hi199_4
         have HC199_4 := Aside0.mk hl199_4
         clear hi199_4 hl199_4
         have HR199_5 := Aside0.mk hi199_5
         have HC199_5 := Aside0.mk hl199_5
         clear hi199_5 hl199_5
         have HR199_6 := Aside0.mk hi199_6
         have HC199_6 := Aside0.mk hl199_6
         clear hi199_6 hl199_6
         replace p199 := eq_true p199
         replace q199 := eq_true q199
         have ea_ := Option.some.inj (hx198_4.symm.trans hx199_4)
         injection ea_ with ea_ en_ ec_
         subst ea_
         subst ec_
         clear en_
         have ea_ := Option.some.inj (hx198_5.symm.trans hx199_5)
         injection ea_ with ea_ en_ ec_
         subst ea_
         subst ec_
         clear en_
         have ea_ := Option.some.inj (hx198_6.symm.trans hx199_6)
         injection ea_ with ea_ en_ ec_
         subst ea_
         subst ec_
         clear en_
         go_wp2
         go_ret
         exact ⟨rE, by repeat (first|(with_reducible first|exact HB.out|apply zA|apply zN|apply zD | refine below_set ?_ GE191.out) | exact HB.out)⟩
        ·rw [if_neg c12] at H
         have c12b0 : (((rd_T33 l0_6 x4_1).f0) == 2) = false := beq_eq_false_iff_ne.mpr c12
         have c12b1 : (((rd_T33 l0_6 x4_1).f0) != 2) = true := bne_iff_ne.mpr c12
         have H' := Aside0.mk H
         clear H
         obtain ⟨hcz14_0, hcz14_1, hcz14_2, hcz14_3, hcz14_4, hcz14_5, hcz14_6, hcz14_7⟩ := bc8 BK191.out
         have p198 : 0 ≤ (x4_1 : Int) := odt
         have q198 : x4_1 < (l0_6.length : Int) := odt
         obtain ⟨ad198, A198_4, c198_4, A198_5, c198_5, A198_6, c198_6, e198, hx198_0, hx198_1, hx198_2, hx198_3, hx198_4, hx198_5, hx198_6, hx198_7, hl198_4, hi198_4, hl198_5, hi198_5, hl198_6, hi198_6⟩ := at_T33 (Kd.V_reads' HO_192006.out).2.2 x4_1 p198 q198
         cases e198
         obtain ⟨ce198, hce198, hMe198, hcc198⟩ := Kd.V_get HO_192006.out z33 x4_1 p198 (by first | exact q198 | exact odt | (have e_ := (Kd.V_reads' HO_192006.out).1; omega))
         obtain ⟨ua198_4, uc198_4, ua198_5, uc198_5, ua198_6, uc198_6, rfl, ul198_4, ge198_4, ul198_5, ge198_5, ul198_6, ge198_6⟩ := k33_openF hMe198
         have hv198_4 := hcc198 4 _ rfl
         rw [add_field _ _ 4 (by omega)] at hv198_4
         replace hv198_4 := Option.some.inj (hv198_4.symm.trans hx198_4)
         injection hv198_4 with hva_ hvn_ hvc_
         rw [hva_] at ge198_4
         rw [hvc_] at ul198_4
         have HL198_4 := Aside0.mk (show Kd.V k84 84 _ w.heap.size _ _ ((rd_T33 l0_6 x4_1).f4) from Kd.V_mk ul198_4 ge198_4)
         clear hva_ hvn_ hvc_ ge198_4 ul198_4
         have hv198_5 := hcc198 5 _ rfl
         rw [add_field _ _ 5 (by omega)] at hv198_5
         replace hv198_5 := Option.some.inj (hv198_5.symm.trans hx198_5)
         injection hv198_5 with hva_ hvn_ hvc_
         rw [hva_] at ge198_5
         rw [hvc_] at ul198_5
         have HL198_5 := Aside0.mk (show Kd.V k72 72 _ w.heap.size _ _ ((rd_T33 l0_6 x4_1).f5) from Kd.V_mk ul198_5 ge198_5)
         clear hva_ hvn_ hvc_ ge198_5 ul198_5
         have hv198_6 := hcc198 6 _ rfl
         rw [add_field _ _ 6 (by omega)] at hv198_6
         replace hv198_6 := Option.some.inj (hv198_6.symm.trans hx198_6)
         injection hv198_6 with hva_ hvn_ hvc_
         rw [hva_] at ge198_6
         rw [hvc_] at ul198_6
         have HL198_6 := Aside0.mk (show Kd.V k33 33 _ w.heap.size _ _ ((rd_T33 l0_6 x4_1).f6) from Kd.V_mk ul198_6 ge198_6)
         clear hva_ hvn_ hvc_ ge198_6 ul198_6
         clear hcc198 hce198
         have HR198_4 := Aside0.mk hi198_4
         have HC198_4 := Aside0.mk hl198_4
         clear hi198_4 hl198_4
         have HR198_5 := Aside0.mk hi198_5
         have HC198_5 := Aside0.mk hl198_5
         clear hi198_5 hl198_5
         have HR198_6 := Aside0.mk hi198_6
         have HC198_6 := Aside0.mk hl198_6
         clear hi198_6 hl198_6
         replace p198 := eq_true p198
         replace q198 := eq_true q198
         have p199 : 0 ≤ (x4_1 : Int) := odt
         have q199 : x4_1 < (l0_6.length : Int) := odt
         obtain ⟨ad199, A199_4, c199_4, A199_5, c199_5, A199_6, c199_6, e199, hx199_0, hx199_1, hx199_2, hx199_3, hx199_4, hx199_5, hx199_6, hx199_7, hl199_4, hi199_4, hl199_5, hi199_5, hl199_6, hi199_6⟩ := at_T33 (Kd.V_reads' HO_192006.out).2.2 x4_1 p199 q199
         obtain rfl : ad198 = ad199 := (by injection e199)
         obtain ⟨ce199, hce199, hMe199, hcc199⟩ := Kd.V_get HO_192006.out z33 x4_1 p199 (by first | exact q199 | exact odt | (have e_ := (Kd.V_reads' HO_192006.out).1; omega))
         obtain ⟨ua199_4, uc199_4, ua199_5, uc199_5, ua199_6, uc199_6, rfl, ul199_4, ge199_4, ul199_5, ge199_5, ul199_6, ge199_6⟩ := k33_openF hMe199
         have hv199_4 := hcc199 4 _ rfl
         rw [add_field _ _ 4 (by omega)] at hv199_4
         replace hv199_4 := Option.some.inj (hv199_4.symm.trans hx199_4)
         injection hv199_4 with hva_ hvn_ hvc_
         rw [hva_] at ge199_4
         rw [hvc_] at ul199_4
         have HL199_4 := Aside0.mk (show Kd.V k84 84 _ w.heap.size _ _ ((rd_T33 l0_6 x4_1).f4) from Kd.V_mk ul199_4 ge199_4)
         clear hva_ hvn_ hvc_ ge199_4 ul199_4
         have hv199_5 := hcc199 5 _ rfl
         rw [add_field _ _ 5 (by omega)] at hv199_5
         replace hv199_5 := Option.some.inj (hv199_5.symm.trans hx199_5)
         injection hv199_5 with hva_ hvn_ hvc_
         rw [hva_] at ge199_5
         rw [hvc_] at ul199_5
         have HL199_5 := Aside0.mk (show Kd.V k72 72 _ w.heap.size _ _ ((rd_T33 l0_6 x4_1).f5) from Kd.V_mk ul199_5 ge199_5)
         clear hva_ hvn_ hvc_ ge199_5 ul199_5
         have hv199_6 := hcc199 6 _ rfl
         rw [add_field _ _ 6 (by omega)] at hv199_6
         replace hv199_6 := Option.some.inj (hv199_6.symm.trans hx199_6)
         injection hv199_6 with hva_ hvn_ hvc_
         rw [hva_] at ge199_6
         rw [hvc_] at ul199_6
         have HL199_6 := Aside0.mk (show Kd.V k33 33 _ w.heap.size _ _ ((rd_T33 l0_6 x4_1).f6) from Kd.V_mk ul199_6 ge199_6)
         clear hva_ hvn_ hvc_ ge199_6 ul199_6
         clear hcc199 hce199
         have HR199_4 := Aside0.mk hi199_4
         have HC199_4 := Aside0.mk hl199_4
         clear hi199_4 hl199_4
         have HR199_5 := Aside0.mk hi199_5
         have HC199_5 := Aside0.mk hl199_5
         clear hi199_5 hl199_5
         have HR199_6 := Aside0.mk hi199_6
         have HC199_6 := Aside0.mk hl199_6
         clear hi199_6 hl199_6
         replace p199 := eq_true p199
         replace q199 := eq_true q199
         have ea_ := Option.some.inj (hx198_4.symm.trans hx199_4)
         injection ea_ with ea_ en_ ec_
         subst ea_
         subst ec_
         clear en_
         have ea_ := Option.some.inj (hx198_5.symm.trans hx199_5)
         injection ea_ with ea_ en_ ec_
         subst ea_
         subst ec_
         clear en_
         have ea_ := Option.some.inj (hx198_6.symm.trans hx199_6)
         injection ea_ with ea_ en_ ec_
         subst ea_
         subst ec_
         clear en_
         go_wp2
         go_roundg k1
         case measure => have := HK1.out; omega
         case rel => exact ⟨(wrap64 (x3_1 + 1)), (wrap64 (x4_1 + 1)), rG, rG, H', ⟨by have := HK1.out; omega⟩, ⟨by (with_reducible repeat (first | apply Kd.V_alloc | apply Kd.V_drewN | apply Kd.V_drew)); exact HO_192004.out⟩, ⟨by (with_reducible repeat (first | apply Kd.V_alloc | apply Kd.V_drewN | apply Kd.V_drew)); exact HO_192005.out⟩, ⟨by (with_reducible repeat (first | apply Kd.V_alloc | apply Kd.V_drewN | apply Kd.V_drew)); exact HO_192006.out⟩, ⟨by (with_reducible repeat (first | refine bN ?_ _|refine bD ?_|refine bA ?_ _)); exact BK191.out⟩, ⟨by repeat (first|(with_reducible first|exact HB.out|apply zA|apply zN|apply zD | refine below_set ?_ GE191.out) | exact HB.out)⟩⟩
       ·rw [if_neg c11] at H
        have c11b0 : (((rd_T33 l0_6 x4_1).f0) == 1) = false := beq_eq_false_iff_ne.mpr c11
        have c11b1 : (((rd_T33 l0_6 x4_1).f0) != 1) = true := bne_iff_ne.mpr c11
        by_cases c15 : ((rd_T33 l0_6 x4_1).f0) = 2
        ·rw [if_pos c15] at H
         have c15b0 : (((rd_T33 l0_6 x4_1).f0) == 2) = true := beq_iff_eq.mpr c15
         have c15b1 : (((rd_T33 l0_6 x4_1).f0) != 2) = false := bne_eq_false_iff_eq.mpr c15
         clear c15
         obtain rfl := Option.some.inj H
         obtain ⟨hcz16_0, hcz16_1, hcz16_2, hcz16_3, hcz16_4, hcz16_5, hcz16_6, hcz16_7⟩ := bc8 BK191.out
         have p198 : 0 ≤ (x4_1 : Int) := odt
         have q198 : x4_1 < (l0_6.length : Int) := odt
         obtain ⟨ad198, A198_4, c198_4, A198_5, c198_5, A198_6, c198_6, e198, hx198_0, hx198_1, hx198_2, hx198_3, hx198_4, hx198_5, hx198_6, hx198_7, hl198_4, hi198_4, hl198_5, hi198_5, hl198_6, hi198_6⟩ := at_T33 (Kd.V_reads' HO_192006.out).2.2 x4_1 p198 q198
         cases e198
         obtain ⟨ce198, hce198, hMe198, hcc198⟩ := Kd.V_get HO_192006.out z33 x4_1 p198 (by first | exact q198 | exact odt | (have e_ := (Kd.V_reads' HO_192006.out).1; omega))
         obtain ⟨ua198_4, uc198_4, ua198_5, uc198_5, ua198_6, uc198_6, rfl, ul198_4, ge198_4, ul198_5, ge198_5, ul198_6, ge198_6⟩ := k33_openF hMe198
         have hv198_4 := hcc198 4 _ rfl
         rw [add_field _ _ 4 (by omega)] at hv198_4
         replace hv198_4 := Option.some.inj (hv198_4.symm.trans hx198_4)
         injection hv198_4 with hva_ hvn_ hvc_
         rw [hva_] at ge198_4
         rw [hvc_] at ul198_4
         have HL198_4 := Aside0.mk (show Kd.V k84 84 _ w.heap.size _ _ ((rd_T33 l0_6 x4_1).f4) from Kd.V_mk ul198_4 ge198_4)
         clear hva_ hvn_ hvc_ ge198_4 ul198_4
         have hv198_5 := hcc198 5 _ rfl
         rw [add_field _ _ 5 (by omega)] at hv198_5
         replace hv198_5 := Option.some.inj (hv198_5.symm.trans hx198_5)
         injection hv198_5 with hva_ hvn_ hvc_
         rw [hva_] at ge198_5
         rw [hvc_] at ul198_5
         have HL198_5 := Aside0.mk (show Kd.V k72 72 _ w.heap.size _ _ ((rd_T33 l0_6 x4_1).f5) from Kd.V_mk ul198_5 ge198_5)
         clear hva_ hvn_ hvc_ ge198_5 ul198_5
         have hv198_6 := hcc198 6 _ rfl
         rw [add_field _ _ 6 (by omega)] at hv198_6
         replace hv198_6 := Option.some.inj (hv198_6.symm.trans hx198_6)
         injection hv198_6 with hva_ hvn_ hvc_
         rw [hva_] at ge198_6
         rw [hvc_] at ul198_6
         have HL198_6 := Aside0.mk (show Kd.V k33 33 _ w.heap.size _ _ ((rd_T33 l0_6 x4_1).f6) from Kd.V_mk ul198_6 ge198_6)
         clear hva_ hvn_ hvc_ ge198_6 ul198_6
         clear hcc198 hce198
         have HR198_4 := Aside0.mk hi198_4
         have HC198_4 := Aside0.mk hl198_4
         clear hi198_4 hl198_4
         have HR198_5 := Aside0.mk hi198_5
         have HC198_5 := Aside0.mk hl198_5
         clear hi198_5 hl198_5
         have HR198_6 := Aside0.mk hi198_6
         have HC198_6 := Aside0.mk hl198_6
         clear hi198_6 hl198_6
         replace p198 := eq_true p198
         replace q198 := eq_true q198
         have p200 : 0 ≤ (x4_1 : Int) := odt
         have q200 : x4_1 < (l0_6.length : Int) := odt
         obtain ⟨ad200, A200_4, c200_4, A200_5, c200_5, A200_6, c200_6, e200, hx200_0, hx200_1, hx200_2, hx200_3, hx200_4, hx200_5, hx200_6, hx200_7, hl200_4, hi200_4, hl200_5, hi200_5, hl200_6, hi200_6⟩ := at_T33 (Kd.V_reads' HO_192006.out).2.2 x4_1 p200 q200
         obtain rfl : ad198 = ad200 := (by injection e200)
         obtain ⟨ce200, hce200, hMe200, hcc200⟩ := Kd.V_get HO_192006.out z33 x4_1 p200 (by first | exact q200 | exact odt | (have e_ := (Kd.V_reads' HO_192006.out).1; omega))
         obtain ⟨ua200_4, uc200_4, ua200_5, uc200_5, ua200_6, uc200_6, rfl, ul200_4, ge200_4, ul200_5, ge200_5, ul200_6, ge200_6⟩ := k33_openF hMe200
         have hv200_4 := hcc200 4 _ rfl
         rw [add_field _ _ 4 (by omega)] at hv200_4
         replace hv200_4 := Option.some.inj (hv200_4.symm.trans hx200_4)
         injection hv200_4 with hva_ hvn_ hvc_
         rw [hva_] at ge200_4
         rw [hvc_] at ul200_4
         have HL200_4 := Aside0.mk (show Kd.V k84 84 _ w.heap.size _ _ ((rd_T33 l0_6 x4_1).f4) from Kd.V_mk ul200_4 ge200_4)
         clear hva_ hvn_ hvc_ ge200_4 ul200_4
         have hv200_5 := hcc200 5 _ rfl
         rw [add_field _ _ 5 (by omega)] at hv200_5
         replace hv200_5 := Option.some.inj (hv200_5.symm.trans hx200_5)
         injection hv200_5 with hva_ hvn_ hvc_
         rw [hva_] at ge200_5
         rw [hvc_] at ul200_5
         have HL200_5 := Aside0.mk (show Kd.V k72 72 _ w.heap.size _ _ ((rd_T33 l0_6 x4_1).f5) from Kd.V_mk ul200_5 ge200_5)
         clear hva_ hvn_ hvc_ ge200_5 ul200_5
         have hv200_6 := hcc200 6 _ rfl
         rw [add_field _ _ 6 (by omega)] at hv200_6
         replace hv200_6 := Option.some.inj (hv200_6.symm.trans hx200_6)
         injection hv200_6 with hva_ hvn_ hvc_
         rw [hva_] at ge200_6
         rw [hvc_] at ul200_6
         have HL200_6 := Aside0.mk (show Kd.V k33 33 _ w.heap.size _ _ ((rd_T33 l0_6 x4_1).f6) from Kd.V_mk ul200_6 ge200_6)
         clear hva_ hvn_ hvc_ ge200_6 ul200_6
         clear hcc200 hce200
         have HR200_4 := Aside0.mk hi200_4
         have HC200_4 := Aside0.mk hl200_4
         clear hi200_4 hl200_4
         have HR200_5 := Aside0.mk hi200_5
         have HC200_5 := Aside0.mk hl200_5
         clear hi200_5 hl200_5
         have HR200_6 := Aside0.mk hi200_6
         have HC200_6 := Aside0.mk hl200_6
         clear hi200_6 hl200_6
         replace p200 := eq_true p200
         replace q200 := eq_true q200
         have ea_ := Option.some.inj (hx198_4.symm.trans hx200_4)
         injection ea_ with ea_ en_ ec_
         subst ea_
         subst ec_
         clear en_
         have ea_ := Option.some.inj (hx198_5.symm.trans hx200_5)
         injection ea_ with ea_ en_ ec_
         subst ea_
         subst ec_
         clear en_
         have ea_ := Option.some.inj (hx198_6.symm.trans hx200_6)
         injection ea_ with ea_ en_ ec_
         subst ea_
         subst ec_
         clear en_
         go_wp2
         go_ret
         exact ⟨rE, by repeat (first|(with_reducible first|exact HB.out|apply zA|apply zN|apply zD | refine below_set ?_ GE191.out) | exact HB.out)⟩
        ·rw [if_neg c15] at H
         have c15b0 : (((rd_T33 l0_6 x4_1).f0) == 2) = false := beq_eq_false_iff_ne.mpr c15
         have c15b1 : (((rd_T33 l0_6 x4_1).f0) != 2) = true := bne_iff_ne.mpr c15
         have H' := Aside0.mk H
         clear H
         obtain ⟨hcz17_0, hcz17_1, hcz17_2, hcz17_3, hcz17_4, hcz17_5, hcz17_6, hcz17_7⟩ := bc8 BK191.out
         have p198 : 0 ≤ (x4_1 : Int) := odt
         have q198 : x4_1 < (l0_6.length : Int) := odt
         obtain ⟨ad198, A198_4, c198_4, A198_5, c198_5, A198_6, c198_6, e198, hx198_0, hx198_1, hx198_2, hx198_3, hx198_4, hx198_5, hx198_6, hx198_7, hl198_4, hi198_4, hl198_5, hi198_5, hl198_6, hi198_6⟩ := at_T33 (Kd.V_reads' HO_192006.out).2.2 x4_1 p198 q198
         cases e198
         obtain ⟨ce198, hce198, hMe198, hcc198⟩ := Kd.V_get HO_192006.out z33 x4_1 p198 (by first | exact q198 | exact odt | (have e_ := (Kd.V_reads' HO_192006.out).1; omega))
         obtain ⟨ua198_4, uc198_4, ua198_5, uc198_5, ua198_6, uc198_6, rfl, ul198_4, ge198_4, ul198_5, ge198_5, ul198_6, ge198_6⟩ := k33_openF hMe198
         have hv198_4 := hcc198 4 _ rfl
         rw [add_field _ _ 4 (by omega)] at hv198_4
         replace hv198_4 := Option.some.inj (hv198_4.symm.trans hx198_4)
         injection hv198_4 with hva_ hvn_ hvc_
         rw [hva_] at ge198_4
         rw [hvc_] at ul198_4
         have HL198_4 := Aside0.mk (show Kd.V k84 84 _ w.heap.size _ _ ((rd_T33 l0_6 x4_1).f4) from Kd.V_mk ul198_4 ge198_4)
         clear hva_ hvn_ hvc_ ge198_4 ul198_4
         have hv198_5 := hcc198 5 _ rfl
         rw [add_field _ _ 5 (by omega)] at hv198_5
         replace hv198_5 := Option.some.inj (hv198_5.symm.trans hx198_5)
         injection hv198_5 with hva_ hvn_ hvc_
         rw [hva_] at ge198_5
         rw [hvc_] at ul198_5
         have HL198_5 := Aside0.mk (show Kd.V k72 72 _ w.heap.size _ _ ((rd_T33 l0_6 x4_1).f5) from Kd.V_mk ul198_5 ge198_5)
         clear hva_ hvn_ hvc_ ge198_5 ul198_5
         have hv198_6 := hcc198 6 _ rfl
         rw [add_field _ _ 6 (by omega)] at hv198_6
         replace hv198_6 := Option.some.inj (hv198_6.symm.trans hx198_6)
         injection hv198_6 with hva_ hvn_ hvc_
         rw [hva_] at ge198_6
         rw [hvc_] at ul198_6
         have HL198_6 := Aside0.mk (show Kd.V k33 33 _ w.heap.size _ _ ((rd_T33 l0_6 x4_1).f6) from Kd.V_mk ul198_6 ge198_6)
         clear hva_ hvn_ hvc_ ge198_6 ul198_6
         clear hcc198 hce198
         have HR198_4 := Aside0.mk hi198_4
         have HC198_4 := Aside0.mk hl198_4
         clear hi198_4 hl198_4
         have HR198_5 := Aside0.mk hi198_5
         have HC198_5 := Aside0.mk hl198_5
         clear hi198_5 hl198_5
         have HR198_6 := Aside0.mk hi198_6
         have HC198_6 := Aside0.mk hl198_6
         clear hi198_6 hl198_6
         replace p198 := eq_true p198
         replace q198 := eq_true q198
         have p200 : 0 ≤ (x4_1 : Int) := odt
         have q200 : x4_1 < (l0_6.length : Int) := odt
         obtain ⟨ad200, A200_4, c200_4, A200_5, c200_5, A200_6, c200_6, e200, hx200_0, hx200_1, hx200_2, hx200_3, hx200_4, hx200_5, hx200_6, hx200_7, hl200_4, hi200_4, hl200_5, hi200_5, hl200_6, hi200_6⟩ := at_T33 (Kd.V_reads' HO_192006.out).2.2 x4_1 p200 q200
         obtain rfl : ad198 = ad200 := (by injection e200)
         obtain ⟨ce200, hce200, hMe200, hcc200⟩ := Kd.V_get HO_192006.out z33 x4_1 p200 (by first | exact q200 | exact odt | (have e_ := (Kd.V_reads' HO_192006.out).1; omega))
         obtain ⟨ua200_4, uc200_4, ua200_5, uc200_5, ua200_6, uc200_6, rfl, ul200_4, ge200_4, ul200_5, ge200_5, ul200_6, ge200_6⟩ := k33_openF hMe200
         have hv200_4 := hcc200 4 _ rfl
         rw [add_field _ _ 4 (by omega)] at hv200_4
         replace hv200_4 := Option.some.inj (hv200_4.symm.trans hx200_4)
         injection hv200_4 with hva_ hvn_ hvc_
         rw [hva_] at ge200_4
         rw [hvc_] at ul200_4
         have HL200_4 := Aside0.mk (show Kd.V k84 84 _ w.heap.size _ _ ((rd_T33 l0_6 x4_1).f4) from Kd.V_mk ul200_4 ge200_4)
         clear hva_ hvn_ hvc_ ge200_4 ul200_4
         have hv200_5 := hcc200 5 _ rfl
         rw [add_field _ _ 5 (by omega)] at hv200_5
         replace hv200_5 := Option.some.inj (hv200_5.symm.trans hx200_5)
         injection hv200_5 with hva_ hvn_ hvc_
         rw [hva_] at ge200_5
         rw [hvc_] at ul200_5
         have HL200_5 := Aside0.mk (show Kd.V k72 72 _ w.heap.size _ _ ((rd_T33 l0_6 x4_1).f5) from Kd.V_mk ul200_5 ge200_5)
         clear hva_ hvn_ hvc_ ge200_5 ul200_5
         have hv200_6 := hcc200 6 _ rfl
         rw [add_field _ _ 6 (by omega)] at hv200_6
         replace hv200_6 := Option.some.inj (hv200_6.symm.trans hx200_6)
         injection hv200_6 with hva_ hvn_ hvc_
         rw [hva_] at ge200_6
         rw [hvc_] at ul200_6
         have HL200_6 := Aside0.mk (show Kd.V k33 33 _ w.heap.size _ _ ((rd_T33 l0_6 x4_1).f6) from Kd.V_mk ul200_6 ge200_6)
         clear hva_ hvn_ hvc_ ge200_6 ul200_6
         clear hcc200 hce200
         have HR200_4 := Aside0.mk hi200_4
         have HC200_4 := Aside0.mk hl200_4
         clear hi200_4 hl200_4
         have HR200_5 := Aside0.mk hi200_5
         have HC200_5 := Aside0.mk hl200_5
         clear hi200_5 hl200_5
         have HR200_6 := Aside0.mk hi200_6
         have HC200_6 := Aside0.mk hl200_6
         clear hi200_6 hl200_6
         replace p200 := eq_true p200
         replace q200 := eq_true q200
         have ea_ := Option.some.inj (hx198_4.symm.trans hx200_4)
         injection ea_ with ea_ en_ ec_
         subst ea_
         subst ec_
         clear en_
         have ea_ := Option.some.inj (hx198_5.symm.trans hx200_5)
         injection ea_ with ea_ en_ ec_
         subst ea_
         subst ec_
         clear en_
         have ea_ := Option.some.inj (hx198_6.symm.trans hx200_6)
         injection ea_ with ea_ en_ ec_
         subst ea_
         subst ec_
         clear en_
         go_wp2
         go_roundg k1
         case measure => have := HK1.out; omega
         case rel => exact ⟨(x3_1), (wrap64 (x4_1 + 1)), rG, rG, H', ⟨by have := HK1.out; omega⟩, ⟨by (with_reducible repeat (first | apply Kd.V_alloc | apply Kd.V_drewN | apply Kd.V_drew)); exact HO_192004.out⟩, ⟨by (with_reducible repeat (first | apply Kd.V_alloc | apply Kd.V_drewN | apply Kd.V_drew)); exact HO_192005.out⟩, ⟨by (with_reducible repeat (first | apply Kd.V_alloc | apply Kd.V_drewN | apply Kd.V_drew)); exact HO_192006.out⟩, ⟨by (with_reducible repeat (first | refine bN ?_ _|refine bD ?_|refine bA ?_ _)); exact BK191.out⟩, ⟨by repeat (first|(with_reducible first|exact HB.out|apply zA|apply zN|apply zD | refine below_set ?_ GE191.out) | exact HB.out)⟩⟩
      ·rw [if_neg c10] at H
       exact absurd H (by simp)
     ·rw [if_neg c9] at H
      have c9b0 : decide (x4_1 < (l0_6.length : Int)) = false := decide_eq_false c9
      clear c9
      by_cases c18 : x3_1 = 1
      ·rw [if_pos c18] at H
       have c18b0 : (x3_1 == 1) = true := beq_iff_eq.mpr c18
       have c18b1 : (x3_1 != 1) = false := bne_eq_false_iff_eq.mpr c18
       clear c18
       by_cases c19 : a0_1.toList = ([] : List UInt8)
       ·rw [if_pos c19] at H
        have c19b0 : (a0_1.toList == ([] : List UInt8)) = true := beq_iff_eq.mpr c19
        have c19b1 : (a0_1.toList != ([] : List UInt8)) = false := bne_eq_false_iff_eq.mpr c19
        clear c19
        by_cases c20 : a0_2.toList = ([] : List UInt8)
        ·rw [if_pos c20] at H
         have c20b0 : (a0_2.toList == ([] : List UInt8)) = true := beq_iff_eq.mpr c20
         have c20b1 : (a0_2.toList != ([] : List UInt8)) = false := bne_eq_false_iff_eq.mpr c20
         clear c20
         by_cases c21 : a0_3.toList = ([] : List UInt8)
         ·rw [if_pos c21] at H
          have c21b0 : (a0_3.toList == ([] : List UInt8)) = true := beq_iff_eq.mpr c21
          have c21b1 : (a0_3.toList != ([] : List UInt8)) = false := bne_eq_false_iff_eq.mpr c21
          clear c21
          by_cases c22 : a0_7.toList = ([] : List UInt8)
          ·rw [if_pos c22] at H
           have c22b0 : (a0_7.toList == ([] : List UInt8)) = true := beq_iff_eq.mpr c22
           have c22b1 : (a0_7.toList != ([] : List UInt8)) = false := bne_eq_false_iff_eq.mpr c22
           clear c22
           by_cases c23 : (l0_4.length : Int) = 0
           ·rw [if_pos c23] at H
            have c23b0 : ((l0_4.length : Int) == 0) = true := beq_iff_eq.mpr c23
            have c23b1 : ((l0_4.length : Int) != 0) = false := bne_eq_false_iff_eq.mpr c23
            clear c23
            by_cases c24 : (l0_5.length : Int) = 0
            ·rw [if_pos c24] at H
             have c24b0 : ((l0_5.length : Int) == 0) = true := beq_iff_eq.mpr c24
             have c24b1 : ((l0_5.length : Int) != 0) = false := bne_eq_false_iff_eq.mpr c24
             clear c24
             replace H := Option.bind_eq_some_iff.mp H
             obtain ⟨t197, A250, H⟩ := H
             try dsimp only at H
             have A25 := Aside0.mk A250
             clear A250
             obtain rfl := Option.some.inj H
             obtain ⟨hcz26_0, hcz26_1, hcz26_2, hcz26_3, hcz26_4, hcz26_5, hcz26_6, hcz26_7⟩ := bc8 BK191.out
             go_wp2_with (first | (go_at_call 24; (with_reducible refine (spec_l5Kids.calls k1 _ _ l0_6 0 t197 _ ?side1 ?side2 A25.out).mono ?_); (case side1 => repeat (first | exact (Kd.V_reads' HO_192006.out).2.2 | (with_reducible refine Kd.C_alloc ?_ _) | (with_reducible refine Kd.C_drewN ?_ _) | (with_reducible refine Kd.C_drew ?_))); (case side2 => exact (Kd.V_reads' HO_192006.out).2.1); rintro e w27 ⟨rfl, hb⟩; replace HO_192004 := Aside0.mk (Kd.V_below (by (with_reducible repeat (first | apply Kd.V_alloc | apply Kd.V_drewN | apply Kd.V_drew)); exact HO_192004.out) hb); replace HO_192005 := Aside0.mk (Kd.V_below (by (with_reducible repeat (first | apply Kd.V_alloc | apply Kd.V_drewN | apply Kd.V_drew)); exact HO_192005.out) hb); replace HO_192006 := Aside0.mk (Kd.V_below (by (with_reducible repeat (first | apply Kd.V_alloc | apply Kd.V_drewN | apply Kd.V_drew)); exact HO_192006.out) hb); replace BK191 := Aside0.mk (blk_below (g := gb191) (by (with_reducible repeat (first | refine bN ?_ _|refine bD ?_|refine bA ?_ _)); exact BK191.out) hb); replace HB := Aside0.mk (below_step (by repeat (first|(with_reducible first|exact HB.out|apply zA|apply zN|apply zD | refine below_set ?_ GE191.out) | exact HB.out)) hb); (try clear hb); (try clear hb2); (try clear hk); (try clear hi)))
             go_ret
             exact ⟨rE, by repeat (first|(with_reducible first|exact HB.out|apply zA|apply zN|apply zD | refine below_set ?_ GE191.out) | exact HB.out)⟩
            ·rw [if_neg c24] at H
             have c24b0 : ((l0_5.length : Int) == 0) = false := beq_eq_false_iff_ne.mpr c24
             have c24b1 : ((l0_5.length : Int) != 0) = true := bne_iff_ne.mpr c24
             have c24b2 : ¬ (l0_5 = []) := fun h_ => c24 (by rw [h_]; rfl)
             obtain rfl := Option.some.inj H
             obtain ⟨hcz28_0, hcz28_1, hcz28_2, hcz28_3, hcz28_4, hcz28_5, hcz28_6, hcz28_7⟩ := bc8 BK191.out
             go_wp2
             go_ret
             exact ⟨rE, by repeat (first|(with_reducible first|exact HB.out|apply zA|apply zN|apply zD | refine below_set ?_ GE191.out) | exact HB.out)⟩
           ·rw [if_neg c23] at H
            have c23b0 : ((l0_4.length : Int) == 0) = false := beq_eq_false_iff_ne.mpr c23
            have c23b1 : ((l0_4.length : Int) != 0) = true := bne_iff_ne.mpr c23
            have c23b2 : ¬ (l0_4 = []) := fun h_ => c23 (by rw [h_]; rfl)
            obtain rfl := Option.some.inj H
            obtain ⟨hcz29_0, hcz29_1, hcz29_2, hcz29_3, hcz29_4, hcz29_5, hcz29_6, hcz29_7⟩ := bc8 BK191.out
            go_wp2
            go_ret
            exact ⟨rE, by repeat (first|(with_reducible first|exact HB.out|apply zA|apply zN|apply zD | refine below_set ?_ GE191.out) | exact HB.out)⟩
          ·rw [if_neg c22] at H
           have c22b0 : (a0_7.toList == ([] : List UInt8)) = false := beq_eq_false_iff_ne.mpr c22
           have c22b1 : (a0_7.toList != ([] : List UInt8)) = true := bne_iff_ne.mpr c22
           obtain rfl := Option.some.inj H
           obtain ⟨hcz30_0, hcz30_1, hcz30_2, hcz30_3, hcz30_4, hcz30_5, hcz30_6, hcz30_7⟩ := bc8 BK191.out
           go_wp2
           go_ret
           exact ⟨rE, by repeat (first|(with_reducible first|exact HB.out|apply zA|apply zN|apply zD | refine below_set ?_ GE191.out) | exact HB.out)⟩
         ·rw [if_neg c21] at H
          have c21b0 : (a0_3.toList == ([] : List UInt8)) = false := beq_eq_false_iff_ne.mpr c21
          have c21b1 : (a0_3.toList != ([] : List UInt8)) = true := bne_iff_ne.mpr c21
          obtain rfl := Option.some.inj H
          obtain ⟨hcz31_0, hcz31_1, hcz31_2, hcz31_3, hcz31_4, hcz31_5, hcz31_6, hcz31_7⟩ := bc8 BK191.out
          go_wp2
          go_ret
          exact ⟨rE, by repeat (first|(with_reducible first|exact HB.out|apply zA|apply zN|apply zD | refine below_set ?_ GE191.out) | exact HB.out)⟩
        ·rw [if_neg c20] at H
         have c20b0 : (a0_2.toList == ([] : List UInt8)) = false := beq_eq_false_iff_ne.mpr c20
         have c20b1 : (a0_2.toList != ([] : List UInt8)) = true := bne_iff_ne.mpr c20
         obtain rfl := Option.some.inj H
         obtain ⟨hcz32_0, hcz32_1, hcz32_2, hcz32_3, hcz32_4, hcz32_5, hcz32_6, hcz32_7⟩ := bc8 BK191.out
         go_wp2
         go_ret
         exact ⟨rE, by repeat (first|(with_reducible first|exact HB.out|apply zA|apply zN|apply zD | refine below_set ?_ GE191.out) | exact HB.out)⟩
       ·rw [if_neg c19] at H
        have c19b0 : (a0_1.toList == ([] : List UInt8)) = false := beq_eq_false_iff_ne.mpr c19
        have c19b1 : (a0_1.toList != ([] : List UInt8)) = true := bne_iff_ne.mpr c19
        obtain rfl := Option.some.inj H
        obtain ⟨hcz33_0, hcz33_1, hcz33_2, hcz33_3, hcz33_4, hcz33_5, hcz33_6, hcz33_7⟩ := bc8 BK191.out
        go_wp2
        go_ret
        exact ⟨rE, by repeat (first|(with_reducible first|exact HB.out|apply zA|apply zN|apply zD | refine below_set ?_ GE191.out) | exact HB.out)⟩
      ·rw [if_neg c18] at H
       have c18b0 : (x3_1 == 1) = false := beq_eq_false_iff_ne.mpr c18
       have c18b1 : (x3_1 != 1) = true := bne_iff_ne.mpr c18
       obtain rfl := Option.some.inj H
       obtain ⟨hcz34_0, hcz34_1, hcz34_2, hcz34_3, hcz34_4, hcz34_5, hcz34_6, hcz34_7⟩ := bc8 BK191.out
       go_wp2
       go_ret
       exact ⟨rE, by repeat (first|(with_reducible first|exact HB.out|apply zA|apply zN|apply zD | refine below_set ?_ GE191.out) | exact HB.out)⟩
  ·rw [if_neg c7] at H
   have c7b0 : (a0_0 == 0) = false := beq_eq_false_iff_ne.mpr c7
   have c7b1 : (a0_0 != 0) = true := bne_iff_ne.mpr c7
   obtain ⟨y193, hy193⟩ : ∃ y_ : List (S33), y_ = (([(⟨a0_0, a0_1, a0_2, a0_3, l0_4, l0_5, l0_6, a0_7⟩ : S33)] : List (S33))) := ⟨_, rfl⟩
   replace H : ((spec_l5Kids.f k y193 0).bind fun t196 => (some t196)) = some r := by first | (rw [hy193]; with_reducible exact H) | (have H2_ := (Option.bind_some _ _).symm.trans H; rw [hy193]; with_reducible exact H2_) | (have H2_ := (Option.bind_some _ _).symm.trans H; with_reducible exact H2_) | with_reducible exact H | (rw [hy193]; exact H) | exact H
   have Ny193 := Aside0.mk hy193
   clear hy193
   replace H := Option.bind_eq_some_iff.mp H
   obtain ⟨t196, A350, H⟩ := H
   try dsimp only at H
   have A35 := Aside0.mk A350
   clear A350
   obtain rfl := Option.some.inj H
   obtain ⟨hcz36_0, hcz36_1, hcz36_2, hcz36_3, hcz36_4, hcz36_5, hcz36_6, hcz36_7⟩ := bc8 BK191.out
   go_wp2_with (first | ((with_reducible refine gate_dst (N := 12) rfl ?_); (try (refine gate_guard (by rfl) ?_; dsimp only)); refine Kd.N_lit k33 _ 33 ?hg (N' := 12) ?hd (xs := ([(⟨a0_0, a0_1, a0_2, a0_3, l0_4, l0_5, l0_6, a0_7⟩ : S33)] : List (S33))) (inner := [.int .i64 a0_0, .string a0_1, .string a0_2, .string a0_3, .slice A0_4 l0_4.length c0_4, .slice A0_5 l0_5.length c0_5, .slice A0_6 l0_6.length c0_6, .string a0_7]) (ok := (fun k_ => ((P0_4_ k_ ∨ P0_5_ k_ ∨ P0_6_ k_) ∨ w.heap.size ≤ k_) ∧ k_ ≠ gb191)) (okp := (fun k_ => ((P0_4_ k_ ∨ P0_5_ k_ ∨ P0_6_ k_) ∨ w.heap.size ≤ k_) ∧ k_ ≠ gb191)) ?hr ?hp (fun _ hk => hk) ((show ∀ k_, w5.heap.size ≤ k_ → (fun k_ => ((P0_4_ k_ ∨ P0_5_ k_ ∨ P0_6_ k_) ∨ w.heap.size ≤ k_) ∧ k_ ≠ gb191) k_ from fun k_ hk => ⟨(.inr (Nat.le_trans (below_size (by repeat (first|(with_reducible first|exact HB.out|apply zA|apply zN|apply zD | refine below_set ?_ GE191.out) | exact HB.out))) hk)), Kd.freshB (g := gb191) (by (with_reducible repeat (first | refine bN ?_ _|refine bD ?_|refine bA ?_ _)); exact BK191.out) k_ hk⟩) _ (Nat.le_refl _)) (Below.refl _ _) (Nat.le_refl _) (by simp) ?_; (case hd => rfl); (case hg => rfl); (case hr => first | (go_simp; done) | (go_simp; rfl)); (case hp => exact (Reps.c8 (show Kd.FK k33 _ _ (⟨a0_0, a0_1, a0_2, a0_3, l0_4, l0_5, l0_6, a0_7⟩ : S33) [.int .i64 a0_0, .string a0_1, .string a0_2, .string a0_3, .slice A0_4 l0_4.length c0_4, .slice A0_5 l0_5.length c0_5, .slice A0_6 l0_6.length c0_6, .string a0_7] from (k33_mkF _ _ (⟨a0_0, a0_1, a0_2, a0_3, l0_4, l0_5, l0_6, a0_7⟩ : S33) (Kd.V_reads' (Kd.V_mono (ok' := (fun k_ => ((P0_4_ k_ ∨ P0_5_ k_ ∨ P0_6_ k_) ∨ w.heap.size ≤ k_) ∧ k_ ≠ gb191)) (HO0_4.out) (fun k_ hk => ⟨hk.1, hk.2⟩))).2.1 (Kd.V_F (Kd.V_mono (ok' := (fun k_ => ((P0_4_ k_ ∨ P0_5_ k_ ∨ P0_6_ k_) ∨ w.heap.size ≤ k_) ∧ k_ ≠ gb191)) (HO0_4.out) (fun k_ hk => ⟨hk.1, hk.2⟩))) (Kd.V_reads' (Kd.V_mono (ok' := (fun k_ => ((P0_4_ k_ ∨ P0_5_ k_ ∨ P0_6_ k_) ∨ w.heap.size ≤ k_) ∧ k_ ≠ gb191)) (HO0_5.out) (fun k_ hk => ⟨hk.1, hk.2⟩))).2.1 (Kd.V_F (Kd.V_mono (ok' := (fun k_ => ((P0_4_ k_ ∨ P0_5_ k_ ∨ P0_6_ k_) ∨ w.heap.size ≤ k_) ∧ k_ ≠ gb191)) (HO0_5.out) (fun k_ hk => ⟨hk.1, hk.2⟩))) (Kd.V_reads' (Kd.V_mono (ok' := (fun k_ => ((P0_4_ k_ ∨ P0_5_ k_ ∨ P0_6_ k_) ∨ w.heap.size ≤ k_) ∧ k_ ≠ gb191)) (HO0_6.out) (fun k_ hk => ⟨hk.1, hk.2⟩))).2.1 (Kd.V_F (Kd.V_mono (ok' := (fun k_ => ((P0_4_ k_ ∨ P0_5_ k_ ∨ P0_6_ k_) ∨ w.heap.size ≤ k_) ∧ k_ ≠ gb191)) (HO0_6.out) (fun k_ hk => ⟨hk.1, hk.2⟩))))) (Reps.none _ _))); intro v194 w37 ho38 hb hg_ hnew_; clear hg_ hnew_; (first | rw [← Ny193.out] at ho38 | (simp only [Int.reduceToNat] at ho38; rw [← Ny193.out] at ho38)); replace HO0_4 := Aside0.mk (Kd.V_elder' (by (with_reducible repeat (first | apply Kd.V_alloc | apply Kd.V_drewN | apply Kd.V_drew)); exact HO0_4.out) (Kd.N_base ho38) hb); replace HO0_5 := Aside0.mk (Kd.V_elder' (by (with_reducible repeat (first | apply Kd.V_alloc | apply Kd.V_drewN | apply Kd.V_drew)); exact HO0_5.out) (Kd.N_base ho38) hb); replace HO0_6 := Aside0.mk (Kd.V_elder' (by (with_reducible repeat (first | apply Kd.V_alloc | apply Kd.V_drewN | apply Kd.V_drew)); exact HO0_6.out) (Kd.N_base ho38) hb); have HO195 := Aside0.mk (Kd.N_lower ho38 (below_size (by repeat (first|(with_reducible first|exact HB.out|apply zA|apply zN|apply zD | refine below_set ?_ GE191.out) | exact HB.out)))); replace BK191 := Aside0.mk (blk_below (g := gb191) (by (with_reducible repeat (first | refine bN ?_ _|refine bD ?_|refine bA ?_ _)); exact BK191.out) hb); replace HB := Aside0.mk (below_step (by repeat (first|(with_reducible first|exact HB.out|apply zA|apply zN|apply zD | refine below_set ?_ GE191.out) | exact HB.out)) hb); clear hb ho38; obtain ⟨Ao39, co39, eo39⟩ := Kd.N_slice HO195.out; subst eo39) | ((with_reducible refine gate_callee (f := 24) rfl ?_); refine goesL_ (some 13) rfl rfl Tryd.func24 (by kernel_rfl) rfl #[.slice Ao39 y193.length co39, .int .i64 0] rfl (by (try simp only [List.map_toArray, List.map_cons, List.map_nil]); first | done | rfl | (simp only [List.length_drop, List.length_take]; rfl)) ?_; (with_reducible refine (spec_l5Kids.calls k _ _ y193 0 t196 _ ?side1 ?side2 A35.out).mono ?_); (case side1 => repeat (first | exact (Kd.N_reads' HO195.out).2.2 | (with_reducible refine Kd.C_alloc ?_ _) | (with_reducible refine Kd.C_drewN ?_ _) | (with_reducible refine Kd.C_drew ?_))); (case side2 => exact (Kd.N_reads' HO195.out).2.1); rintro e w40 ⟨rfl, hb⟩; refine ⟨_, rfl, ?_⟩; replace HO0_4 := Aside0.mk (Kd.V_below (by (with_reducible repeat (first | apply Kd.V_alloc | apply Kd.V_drewN | apply Kd.V_drew)); exact HO0_4.out) hb); replace HO0_5 := Aside0.mk (Kd.V_below (by (with_reducible repeat (first | apply Kd.V_alloc | apply Kd.V_drewN | apply Kd.V_drew)); exact HO0_5.out) hb); replace HO0_6 := Aside0.mk (Kd.V_below (by (with_reducible repeat (first | apply Kd.V_alloc | apply Kd.V_drewN | apply Kd.V_drew)); exact HO0_6.out) hb); replace HO195 := Aside0.mk (Kd.N_below (by (with_reducible repeat (first | apply Kd.N_alloc | apply Kd.N_drewN | apply Kd.N_drew)); exact HO195.out) hb); replace BK191 := Aside0.mk (blk_below (g := gb191) (by (with_reducible repeat (first | refine bN ?_ _|refine bD ?_|refine bA ?_ _)); exact BK191.out) hb); replace HB := Aside0.mk (below_step (by repeat (first|(with_reducible first|exact HB.out|apply zA|apply zN|apply zD | refine below_set ?_ GE191.out) | exact HB.out)) hb); (try clear hb); (try clear hb2); (try clear hk); (try clear hi)))
   go_ret
   exact ⟨rE, by repeat (first|(with_reducible first|exact HB.out|apply zA|apply zN|apply zD | refine below_set ?_ GE191.out) | exact HB.out)⟩

/-! ### laws_toDecl: function 51 -/
def laws_toDecl.f (a0_0 : ByteArray) (a0_1 : ByteArray) : Option (ByteArray × ByteArray) := some (a0_0, a0_1)
set_option maxHeartbeats 8000000 in
set_option maxRecDepth 100000 in
theorem laws_toDecl.calls (a0_0 : ByteArray) (a0_1 : ByteArray) (r1 : ByteArray) (r2 : ByteArray) (w : World) (h : laws_toDecl.f a0_0 a0_1 = some (r1, r2)) :
  Calls Tryd.prog 51 #[.agg #[.string a0_0, .string a0_1]] w fun e w' => e = .returned (.agg #[.string r1, .string r2]) ∧ Below w.heap.size w w' := by
 have hu81 := Tryd.underlying81
 have hu84 := Tryd.underlying84
 have HB := Aside0.mk (Below.refl w.heap.size w)
 have H : (some (a0_0, a0_1)) = some (r1, r2) := h
 clear h
 simp only [Option.some.injEq, Prod.mk.injEq] at H
 obtain ⟨rfl, rfl⟩ := H
 go_enter Tryd.func51, Tryd.ntmps51
 go_wp2_with (first | ((with_reducible refine gate_dst (N := 1) rfl ?_); refine box_event ?hg (N := 1) ?hd (cs := #[.string a0_0, .string a0_1]) (t := 81) ?hr ?_; (case hd => rfl); (case hg => rfl); (case hr => first | (go_simp; done) | (go_simp; rfl)); intro gb201 hg w2 hbox hb; have BK201 := Aside0.mk (hbox); have GW201 := Aside0.mk ((by rw [hg]; exact (below_size (by repeat (first|(with_reducible first|exact HB.out|apply zA|apply zN|apply zD) | exact HB.out))) : w.heap.size ≤ gb201)); have GE201 := Aside0.mk ((by rw [hg]; exact (below_size (by repeat (first|(with_reducible first|exact HB.out|apply zA|apply zN|apply zD) | exact HB.out))) : w.heap.size ≤ gb201)); replace HB := Aside0.mk (below_step (by repeat (first|(with_reducible first|exact HB.out|apply zA|apply zN|apply zD) | exact HB.out)) hb); clear hb hbox hg) | ((with_reducible refine gate_dst (N := 2) rfl ?_); refine box_event ?hg (N := 2) ?hd (cs := #[.string (⟨#[]⟩ : ByteArray), .string (⟨#[]⟩ : ByteArray)]) (t := 84) ?hr ?_; (case hd => rfl); (case hg => rfl); (case hr => first | (go_simp; done) | (go_simp; rfl)); intro gb202 hg w3 hbox hb; have BK202 := Aside0.mk (hbox); have GW202 := Aside0.mk ((by rw [hg]; exact (below_size (by repeat (first|(with_reducible first|exact HB.out|apply zA|apply zN|apply zD | refine below_set ?_ GE201.out) | exact HB.out))) : w.heap.size ≤ gb202)); have GE202 := Aside0.mk ((by rw [hg]; exact (below_size (by repeat (first|(with_reducible first|exact HB.out|apply zA|apply zN|apply zD | refine below_set ?_ GE201.out) | exact HB.out))) : w.heap.size ≤ gb202)); replace HB := Aside0.mk (below_step (by repeat (first|(with_reducible first|exact HB.out|apply zA|apply zN|apply zD | refine below_set ?_ GE201.out) | exact HB.out)) hb); have NB201_202 := Aside0.mk ((by rw [hg]; exact Nat.ne_of_lt (blk_lt (g := gb201) (by (with_reducible repeat (first | refine bN ?_ _|refine bD ?_|refine bA ?_ _)); exact BK201.out)) : gb201 ≠ gb202)); have NB202_201 := Aside0.mk ((by rw [hg]; exact Nat.ne_of_gt (blk_lt (g := gb201) (by (with_reducible repeat (first | refine bN ?_ _|refine bD ?_|refine bA ?_ _)); exact BK201.out)) : gb202 ≠ gb201)); replace BK201 := Aside0.mk (blk_below (g := gb201) (by (with_reducible repeat (first | refine bN ?_ _|refine bD ?_|refine bA ?_ _)); exact BK201.out) hb); clear hb hbox hg) | ((with_reducible refine gate_dst (N := 3) rfl ?_); refine box_event ?hg (N := 3) ?hd (cs := #[.string (⟨#[]⟩ : ByteArray), .string (⟨#[]⟩ : ByteArray)]) (t := 84) ?hr ?_; (case hd => rfl); (case hg => rfl); (case hr => first | (go_simp; done) | (go_simp; rfl)); intro gb203 hg w4 hbox hb; have BK203 := Aside0.mk (hbox); have GW203 := Aside0.mk ((by rw [hg]; exact (below_size (by repeat (first|(with_reducible first|exact HB.out|apply zA|apply zN|apply zD | refine below_set ?_ GE201.out | refine below_set ?_ GE202.out) | exact HB.out))) : w.heap.size ≤ gb203)); have GE203 := Aside0.mk ((by rw [hg]; exact (below_size (by repeat (first|(with_reducible first|exact HB.out|apply zA|apply zN|apply zD | refine below_set ?_ GE201.out | refine below_set ?_ GE202.out) | exact HB.out))) : w.heap.size ≤ gb203)); replace HB := Aside0.mk (below_step (by repeat (first|(with_reducible first|exact HB.out|apply zA|apply zN|apply zD | refine below_set ?_ GE201.out | refine below_set ?_ GE202.out) | exact HB.out)) hb); have NB201_203 := Aside0.mk ((by rw [hg]; exact Nat.ne_of_lt (blk_lt (g := gb201) (by (with_reducible repeat (first | refine bN ?_ _|refine bD ?_|refine bA ?_ _)); exact BK201.out)) : gb201 ≠ gb203)); have NB203_201 := Aside0.mk ((by rw [hg]; exact Nat.ne_of_gt (blk_lt (g := gb201) (by (with_reducible repeat (first | refine bN ?_ _|refine bD ?_|refine bA ?_ _)); exact BK201.out)) : gb203 ≠ gb201)); replace BK201 := Aside0.mk (blk_below (g := gb201) (by (with_reducible repeat (first | refine bN ?_ _|refine bD ?_|refine bA ?_ _)); exact BK201.out) hb); have NB202_203 := Aside0.mk ((by rw [hg]; exact Nat.ne_of_lt (blk_lt (g := gb202) (by (with_reducible repeat (first | refine bN ?_ _|refine bD ?_|refine bA ?_ _)); exact BK202.out)) : gb202 ≠ gb203)); have NB203_202 := Aside0.mk ((by rw [hg]; exact Nat.ne_of_gt (blk_lt (g := gb202) (by (with_reducible repeat (first | refine bN ?_ _|refine bD ?_|refine bA ?_ _)); exact BK202.out)) : gb203 ≠ gb202)); replace BK202 := Aside0.mk (blk_below (g := gb202) (by (with_reducible repeat (first | refine bN ?_ _|refine bD ?_|refine bA ?_ _)); exact BK202.out) hb); clear hb hbox hg; have hnb5 := NB201_202.out; have hnc5 := NB202_201.out; have hnb6 := NB201_203.out; have hnc6 := NB203_201.out; obtain ⟨hcz7_0, hcz7_1⟩ := bc2 BK201.out; obtain ⟨hfz7_0, hfz7_1⟩ := bf2 BK201.out; have hnb8 := NB203_202.out; have hnc8 := NB202_203.out; obtain ⟨hcz9_0, hcz9_1⟩ := bc2 BK203.out; obtain ⟨hfz9_0, hfz9_1⟩ := bf2 BK203.out; obtain ⟨hcz10_0, hcz10_1⟩ := bc2 BK202.out; obtain ⟨hfz10_0, hfz10_1⟩ := bf2 BK202.out))
 refine bodyPost_ret (results_cell_row rfl _ _ gb202 84 #[.string a0_0, .string a0_1] (0, 0) _ rfl (by (with_reducible repeat (first | refine bN ?_ _|refine bD ?_|refine bA ?_ _)); exact put2 (by (with_reducible repeat (first | refine bN ?_ _|refine bD ?_|refine bA ?_ _)); exact pfa2 (hn := NB202_203.out) (by (with_reducible repeat (first | refine bN ?_ _|refine bD ?_|refine bA ?_ _)); exact BK202.out))) Tryd.underlying84 rfl (by kernel_rfl)) rfl ?_
 exact ⟨rE, by repeat (first|(with_reducible first|exact HB.out|apply zA|apply zN|apply zD | refine below_set ?_ GE201.out | refine below_set ?_ GE202.out | refine below_set ?_ GE203.out) | exact HB.out)⟩

/-! ### laws_toDeclS: function 25 -/
def laws_toDeclS.l0 : Nat → List (S81) → List (S84) → Int → Option ((List (S84)))
 | 0, _, _, _ => none
 | k + 1, x0, x3, x4 => if x4 < (x0.length : Int) then (if 0 ≤ x4 then ((laws_toDecl.f ((rd_T81 x0 x4).f0) ((rd_T81 x0 x4).f1)).bind fun bt208 => (if x4 < (x3.length : Int) then (laws_toDeclS.l0 k x0 (x3.set (x4 : Int).toNat (⟨bt208.1, bt208.2⟩ : S84)) (wrap64 (x4 + 1))) else (none))) else (none)) else (some x3)
def laws_toDeclS.f (k : Nat) (l0 : List (S81)) : Option ((List (S84))) := if 0 ≤ (l0.length : Int) then (if ((l0.length : Int) : Int).toNat ≤ 8796093022208 then (laws_toDeclS.l0 k l0 (List.replicate ((l0.length : Int) : Int).toNat z84) 0) else (none)) else (none)
theorem laws_toDeclS.mono_l : ∀ k, (∀ y0 y1 y2, LeO (laws_toDeclS.l0 k y0 y1 y2) (laws_toDeclS.l0 (k + 1) y0 y1 y2))
 | 0 => fun _ _ _ r h => by simp [laws_toDeclS.l0] at h
 | k + 1 => by
  have ih0 := laws_toDeclS.mono_l k
  ·intro y0 y1 y2
   unfold laws_toDeclS.l0
   repeat' first
   | (with_reducible exact ih0 _ _ _)
   | (with_reducible exact LeO.refl _)
   | (with_reducible exact LeO.none _)
   | (with_reducible refine LeO.ite ?_ ?_)
   | (with_reducible refine LeO.bind ?_ (fun _ => ?_))
   | exact ih0 _ _ _
   | exact LeO.none _
   | refine LeO.ite ?_ ?_
   | refine LeO.bind ?_ (fun _ => ?_)
theorem laws_toDeclS.mono : ∀ a0 k, LeO (laws_toDeclS.f k a0) (laws_toDeclS.f (k + 1) a0) := by
 intro a0 k
 have ih0 := laws_toDeclS.mono_l k
 unfold laws_toDeclS.f
 repeat' first
   | (with_reducible exact ih0 _ _ _)
   | (with_reducible exact LeO.refl _)
   | (with_reducible exact LeO.none _)
   | (with_reducible refine LeO.ite ?_ ?_)
   | (with_reducible refine LeO.bind ?_ (fun _ => ?_))
   | exact ih0 _ _ _
   | exact LeO.none _
   | refine LeO.ite ?_ ?_
   | refine LeO.bind ?_ (fun _ => ?_)
set_option maxHeartbeats 8000000 in
set_option maxRecDepth 100000 in
theorem laws_toDeclS.calls (k : Nat) (A0 : Option Addr) (c0 : Nat) (l0 : List (S81)) (r : List (S84)) (w : World) (hr0 : Kd.C k81 w A0 l0.length l0) (hc0 : l0.length ≤ c0) (h : laws_toDeclS.f k l0 = some r) :
  Calls Tryd.prog 25 #[.slice A0 l0.length c0] w fun e w' => ∃ v0_ : Value, e = .returned (v0_) ∧ Kd.R k84 84 w' w.heap.size (fun _ => True) v0_ r ∧ Below w.heap.size w w' := by
 have hu81 := Tryd.underlying81
 have hu84 := Tryd.underlying84
 have HR0 := Aside0.mk hr0
 have HC0 := Aside0.mk hc0
 clear hr0 hc0
 have HB := Aside0.mk (Below.refl w.heap.size w)
 have H : (if 0 ≤ (l0.length : Int) then (if ((l0.length : Int) : Int).toNat ≤ 8796093022208 then (laws_toDeclS.l0 k l0 (List.replicate ((l0.length : Int) : Int).toNat z84) 0) else (none)) else (none)) = some r := h
 clear h
 by_cases c2 : 0 ≤ (l0.length : Int)
 ·rw [if_pos c2] at H
  have c2b0 := eq_true c2
  have c2b1 : decide (0 ≤ (l0.length : Int)) = true := decide_eq_true c2
  clear c2
  by_cases c3 : ((l0.length : Int) : Int).toNat ≤ 8796093022208
  ·rw [if_pos c3] at H
   have c3b0 := eq_true c3
   have c3b1 : decide (((l0.length : Int) : Int).toNat ≤ 8796093022208) = true := decide_eq_true c3
   clear c3
   obtain ⟨y204, hy204⟩ : ∃ y_ : List (S84), y_ = (List.replicate ((l0.length : Int) : Int).toNat z84) := ⟨_, rfl⟩
   replace H : (laws_toDeclS.l0 k l0 y204 0) = some r := by first | (rw [hy204]; with_reducible exact H) | (have H2_ := (Option.bind_some _ _).symm.trans H; rw [hy204]; with_reducible exact H2_) | (have H2_ := (Option.bind_some _ _).symm.trans H; with_reducible exact H2_) | with_reducible exact H | (rw [hy204]; exact H) | exact H
   have Ny204 := Aside0.mk hy204
   clear hy204
   have H' := Aside0.mk H
   clear H
   go_enter Tryd.func25, Tryd.ntmps25
   go_wp2_with (first | ((with_reducible refine gate_dst (N := 7) rfl ?_); refine Kd.R_make k84 _ 84 rfl (N := 7) rfl 29 _ _ rfl (l0.length : Int) rfl rfl Tryd.underlying29 (.agg #[(.string ⟨#[]⟩), (.string ⟨#[]⟩)]) 32 info84 rfl (by decide) (by omega) z84 (ok := fun _ => True) (okp := fun _ => True) (k84_mkM _ _ _ z84 ) (fun _ hk => hk) trivial (odt) (Nat.le_trans (Nat.mul_le_mul_right _ (odt : (l0.length : Int).toNat ≤ 8796093022208)) (by omega)) (Below.refl _ _) (Nat.le_refl _) ?_; intro v205 w4 ho5 hb hg_ hnew_; clear hg_ hnew_; (first | rw [← Ny204.out] at ho5 | (simp only [Int.reduceToNat] at ho5; rw [← Ny204.out] at ho5)); have HO206 := Aside0.mk (Kd.R_lower ho5 (below_size (by repeat (first|(with_reducible first|exact HB.out|apply zA|apply zN|apply zD) | exact HB.out)))); replace HB := Aside0.mk (below_step (by repeat (first|(with_reducible first|exact HB.out|apply zA|apply zN|apply zD) | exact HB.out)) hb); clear hb ho5))
   go_loopg [4] k (fun kq v4 w' => ∃ (x3_1 : List (S84)) (x4_1 : Int), v4 = .int .i64 x4_1 ∧ Aside0 (laws_toDeclS.l0 kq l0 x3_1 x4_1 = some r) ∧ Aside0 (kq ≤ k) ∧ Aside0 (Kd.R k84 84 w' w.heap.size (fun _ => True) v205 x3_1) ∧ Aside0 (Below w.heap.size w w'))
   case atStart => exact ⟨(y204), (0), rG, H', ⟨Nat.le_refl _⟩, ⟨by (with_reducible repeat (first|apply rA|apply rN|apply rD)); exact HO206.out⟩, ⟨by repeat (first|(with_reducible first|exact HB.out|apply zA|apply zN|apply zD) | exact HB.out)⟩⟩
   case round =>
    clear H'
    try clear c2
    try clear c2b0
    try clear c2b1
    try clear p2
    try clear c3
    try clear c3b0
    try clear c3b1
    try clear p2
    obtain ⟨x3_1, x4_1, rfl, HA, HK1, HO_3, HB⟩ := hrel
    cases gk with
    | zero => exact absurd HA.out (by simp [laws_toDeclS.l0])
    | succ k1 =>
     have H := HA.out
     clear HA
     simp only [laws_toDeclS.l0] at H
     by_cases c6 : x4_1 < (l0.length : Int)
     ·rw [if_pos c6] at H
      have c6b0 : decide (x4_1 < (l0.length : Int)) = true := decide_eq_true c6
      clear c6
      by_cases c7 : 0 ≤ x4_1
      ·rw [if_pos c7] at H
       have c7b0 : decide (0 ≤ x4_1) = true := decide_eq_true c7
       clear c7
       replace H := Option.bind_eq_some_iff.mp H
       obtain ⟨⟨t208, t209⟩, A80, H⟩ := H
       try dsimp only at H
       have A8 := Aside0.mk A80
       clear A80
       have p207 : 0 ≤ (x4_1 : Int) := odt
       have q207 : x4_1 < (l0.length : Int) := odt
       obtain ⟨ad207, e207, hx207_0, hx207_1⟩ := at_T81 HR0.out x4_1 p207 q207
       cases e207
       replace hx207_0 := (HB.out.cell (World.block_lt_of_cell? w _ hx207_0)).trans hx207_0
       replace hx207_1 := (HB.out.cell (World.block_lt_of_cell? w _ hx207_1)).trans hx207_1
       replace p207 := eq_true p207
       replace q207 := eq_true q207
       go_wp2_with (first | ((with_reducible refine gate_callee (f := 51) rfl ?_); refine goesL_ (some 20) rfl rfl Tryd.func51 (by kernel_rfl) rfl #[.agg #[.string ((rd_T81 l0 x4_1).f0), .string ((rd_T81 l0 x4_1).f1)]] rfl (by (try simp only [List.map_toArray, List.map_cons, List.map_nil]); first | done | rfl | (simp only [List.length_drop, List.length_take]; rfl)) ?_; (with_reducible refine (laws_toDecl.calls ((rd_T81 l0 x4_1).f0) ((rd_T81 l0 x4_1).f1) t208 t209 _ A8.out).mono ?_); rintro e w9 ⟨rfl, hb⟩; refine ⟨_, rfl, ?_⟩; replace HO_3 := Aside0.mk (Kd.R_below (by (with_reducible repeat (first|apply rA|apply rN|apply rD)); exact HO_3.out) hb); replace HB := Aside0.mk (below_step (by repeat (first|(with_reducible first|exact HB.out|apply zA|apply zN|apply zD) | exact HB.out)) hb); (try clear hb); (try clear hb2); (try clear hk); (try clear hi); refine halt_ ?_; intro q_ hq_))
       obtain ⟨rfl⟩ := hq_
       by_cases c10 : x4_1 < (x3_1.length : Int)
       ·rw [if_pos c10] at H
        have c10b0 : decide (x4_1 < (x3_1.length : Int)) = true := decide_eq_true c10
        clear c10
        obtain ⟨y210, hy210⟩ : ∃ y_ : List (S84), y_ = (x3_1.set (x4_1 : Int).toNat (⟨t208, t209⟩ : S84)) := ⟨_, rfl⟩
        replace H : (laws_toDeclS.l0 k1 l0 y210 (wrap64 (x4_1 + 1))) = some r := by first | (rw [hy210]; with_reducible exact H) | (have H2_ := (Option.bind_some _ _).symm.trans H; rw [hy210]; with_reducible exact H2_) | (have H2_ := (Option.bind_some _ _).symm.trans H; with_reducible exact H2_) | with_reducible exact H | (rw [hy210]; exact H) | exact H
        have Ny210 := Aside0.mk hy210
        clear hy210
        have H' := Aside0.mk H
        clear H
        have p11 : 0 ≤ (x4_1 : Int) := odt
        have q11 : (x4_1 : Int) < ((x3_1.length : Int) : Int) := odt
        obtain ⟨go11, co11, eo11, gb11, gl11, cl11, HG11⟩ := Kd.R_form HO_3.out (by omega)
        (first | cases eo11 | (injection eo11 with ea_ en_ ec_; (first | subst ea_ | (injection ea_ with ea_; subst ea_)); subst ec_; clear en_))
        have GB11 := Aside0.mk gb11
        have GG11 := Aside0.mk HG11
        clear gb11 gl11 HG11
        obtain ⟨ce11, hcl11, hM11, hcc11, hfr11⟩ := Kd.R_elem HO_3.out z84 (x4_1 : Int) p11 q11
        obtain rfl := k84_openM hM11
        have hx11_0 : w9.cell? ⟨go11, (x4_1 : Int).toNat * 2, none⟩ = some (.string ((rd_T84 x3_1 x4_1).f0)) := hcc11 0 _ rfl
        have hx11_1 : w9.cell? ⟨go11, (x4_1 : Int).toNat * 2 + 1, none⟩ = some (.string ((rd_T84 x3_1 x4_1).f1)) := hcc11 1 _ rfl
        have hf11_0 : w9.frozen? ⟨go11, (x4_1 : Int).toNat * 2, none⟩ = false := hfr11 0
        have hf11_1 : w9.frozen? ⟨go11, (x4_1 : Int).toNat * 2 + 1, none⟩ = false := hfr11 1
        clear hcl11 hcc11 hfr11 hM11
        replace p11 := eq_true p11
        replace q11 := eq_true q11
        have HX12 := Aside0.mk (show Kd.R k84 84 w9 w.heap.size (fun _ => True) (.slice (some ⟨go11, 0, none⟩) x3_1.length co11) x3_1 from (by (with_reducible repeat (first|apply rA|apply rN|apply rD)); exact HO_3.out))
        obtain ⟨ce12, hcl12, hM12, hcc12, hfr12⟩ := Kd.R_elem HX12.out z84 (x4_1 : Int) (odt) (by have h_ : (x4_1 : Int) < ((x3_1.length : Int) : Int) := odt; first | exact h_ | (have e_ := (Kd.R_reads' HO_3.out).1; omega) | simpa using h_)
        obtain rfl := k84_openM hM12
        have HP12 := Kd.R_seg HX12.out (x4_1 : Int) (odt) (by have h_ : (x4_1 : Int) < ((x3_1.length : Int) : Int) := odt; first | exact h_ | (have e_ := (Kd.R_reads' HO_3.out).1; omega) | simpa using h_) (seg := [.string t208, .string t209]) (j := 0) hcl12 hcc12 (show 2 ≤ 2 from by decide) (x' := (⟨t208, t209⟩ : S84)) (k84_mkM _ _ _ (⟨t208, t209⟩ : S84) ) (fun _ hk => hk)
        have hx12_0 := hcc12 0 _ rfl
        (try simp only [show (k84).sz = 2 from rfl, Nat.mul_one, Nat.add_zero] at hx12_0)
        have hf12_0 := hfr12 0
        (try simp only [show (k84).sz = 2 from rfl, Nat.mul_one, Nat.add_zero] at hf12_0)
        have hx12_1 := hcc12 1 _ rfl
        (try simp only [show (k84).sz = 2 from rfl, Nat.mul_one, Nat.add_zero] at hx12_1)
        have hf12_1 := hfr12 1
        (try simp only [show (k84).sz = 2 from rfl, Nat.mul_one, Nat.add_zero] at hf12_1)
        clear hcl12 hcc12 hfr12 hM12
        go_wp2_with (first | ((with_reducible refine gate_store (t := 84) (p := 21) rfl ?_); refine store_event (t := 84) (p := 21) (v := ?vo_w13) (w1 := ((w9.setCell ⟨go11, (x4_1 : Int).toNat * 2, none⟩ (.string t208)).setCell ⟨go11, (x4_1 : Int).toNat * 2 + 1, none⟩ (.string t209))) ?hg ?ho ?hn ?hr ?_; (case ho => rfl); (case hg => rfl); (case hn => rfl); (case hr => first | (go_simp; done) | (go_simp; rfl)); intro w13 hw; have hg : w9.grownBy w13 (some go11) := (by rw [hw]; exact HP12.2); have hp_ : Kd.R k84 84 w13 w.heap.size (fun _ => True) (.slice (some ⟨go11, 0, none⟩) x3_1.length co11) y210 := (by rw [hw, Ny210.out]; exact HP12.1); clear HP12; replace HO_3 := Aside0.mk (hp_); replace HB := Aside0.mk ((by rw [hw]; exact below_set (below_set (HB.out) GB11.out) GB11.out : Below w.heap.size w w13)); clear hg hw hp_))
        go_roundg k1
        case measure => have := HK1.out; omega
        case rel => exact ⟨(y210), (wrap64 (x4_1 + 1)), rG, H', ⟨by have := HK1.out; omega⟩, ⟨by (with_reducible repeat (first|apply rA|apply rN|apply rD)); exact HO_3.out⟩, ⟨by repeat (first|(with_reducible first|exact HB.out|apply zA|apply zN|apply zD) | exact HB.out)⟩⟩
       ·rw [if_neg c10] at H
        exact absurd H (by simp)
      ·rw [if_neg c7] at H
       exact absurd H (by simp)
     ·rw [if_neg c6] at H
      have c6b0 : decide (x4_1 < (l0.length : Int)) = false := decide_eq_false c6
      clear c6
      obtain rfl := Option.some.inj H
      go_wp2
      go_ret
      exact ⟨_, rE, by (with_reducible repeat (first|apply rA|apply rN|apply rD)); exact HO_3.out, by repeat (first|(with_reducible first|exact HB.out|apply zA|apply zN|apply zD) | exact HB.out)⟩
  ·rw [if_neg c3] at H
   exact absurd H (by simp)
 ·rw [if_neg c2] at H
  exact absurd H (by simp)

/-! ### laws_toAttr: function 52 -/
def laws_toAttr.f (a0_0 : ByteArray) (a0_1 : ByteArray) (a0_2 : ByteArray) (a0_3 : ByteArray) : Option (ByteArray × ByteArray × ByteArray × ByteArray) := some (a0_0, a0_1, a0_2, a0_3)
set_option maxHeartbeats 8000000 in
set_option maxRecDepth 100000 in
theorem laws_toAttr.calls (a0_0 : ByteArray) (a0_1 : ByteArray) (a0_2 : ByteArray) (a0_3 : ByteArray) (r1 : ByteArray) (r2 : ByteArray) (r3 : ByteArray) (r4 : ByteArray) (w : World) (h : laws_toAttr.f a0_0 a0_1 a0_2 a0_3 = some (r1, r2, r3, r4)) :
  Calls Tryd.prog 52 #[.agg #[.string a0_0, .string a0_1, .string a0_2, .string a0_3]] w fun e w' => e = .returned (.agg #[.string r1, .string r2, .string r3, .string r4]) ∧ Below w.heap.size w w' := by
 have hu83 := Tryd.underlying83
 have hu72 := Tryd.underlying72
 have HB := Aside0.mk (Below.refl w.heap.size w)
 have H : (some (a0_0, a0_1, a0_2, a0_3)) = some (r1, r2, r3, r4) := h
 clear h
 simp only [Option.some.injEq, Prod.mk.injEq] at H
 obtain ⟨rfl, rfl, rfl, rfl⟩ := H
 go_enter Tryd.func52, Tryd.ntmps52
 go_wp2_with (first | ((with_reducible refine gate_dst (N := 1) rfl ?_); refine box_event ?hg (N := 1) ?hd (cs := #[.string a0_0, .string a0_1, .string a0_2, .string a0_3]) (t := 83) ?hr ?_; (case hd => rfl); (case hg => rfl); (case hr => first | (go_simp; done) | (go_simp; rfl)); intro gb211 hg w2 hbox hb; have BK211 := Aside0.mk (hbox); have GW211 := Aside0.mk ((by rw [hg]; exact (below_size (by repeat (first|(with_reducible first|exact HB.out|apply zA|apply zN|apply zD) | exact HB.out))) : w.heap.size ≤ gb211)); have GE211 := Aside0.mk ((by rw [hg]; exact (below_size (by repeat (first|(with_reducible first|exact HB.out|apply zA|apply zN|apply zD) | exact HB.out))) : w.heap.size ≤ gb211)); replace HB := Aside0.mk (below_step (by repeat (first|(with_reducible first|exact HB.out|apply zA|apply zN|apply zD) | exact HB.out)) hb); clear hb hbox hg) | ((with_reducible refine gate_dst (N := 2) rfl ?_); refine box_event ?hg (N := 2) ?hd (cs := #[.string (⟨#[]⟩ : ByteArray), .string (⟨#[]⟩ : ByteArray), .string (⟨#[]⟩ : ByteArray), .string (⟨#[]⟩ : ByteArray)]) (t := 72) ?hr ?_; (case hd => rfl); (case hg => rfl); (case hr => first | (go_simp; done) | (go_simp; rfl)); intro gb212 hg w3 hbox hb; have BK212 := Aside0.mk (hbox); have GW212 := Aside0.mk ((by rw [hg]; exact (below_size (by repeat (first|(with_reducible first|exact HB.out|apply zA|apply zN|apply zD | refine below_set ?_ GE211.out) | exact HB.out))) : w.heap.size ≤ gb212)); have GE212 := Aside0.mk ((by rw [hg]; exact (below_size (by repeat (first|(with_reducible first|exact HB.out|apply zA|apply zN|apply zD | refine below_set ?_ GE211.out) | exact HB.out))) : w.heap.size ≤ gb212)); replace HB := Aside0.mk (below_step (by repeat (first|(with_reducible first|exact HB.out|apply zA|apply zN|apply zD | refine below_set ?_ GE211.out) | exact HB.out)) hb); have NB211_212 := Aside0.mk ((by rw [hg]; exact Nat.ne_of_lt (blk_lt (g := gb211) (by (with_reducible repeat (first | refine bN ?_ _|refine bD ?_|refine bA ?_ _)); exact BK211.out)) : gb211 ≠ gb212)); have NB212_211 := Aside0.mk ((by rw [hg]; exact Nat.ne_of_gt (blk_lt (g := gb211) (by (with_reducible repeat (first | refine bN ?_ _|refine bD ?_|refine bA ?_ _)); exact BK211.out)) : gb212 ≠ gb211)); replace BK211 := Aside0.mk (blk_below (g := gb211) (by (with_reducible repeat (first | refine bN ?_ _|refine bD ?_|refine bA ?_ _)); exact BK211.out) hb); clear hb hbox hg) | ((with_reducible refine gate_dst (N := 3) rfl ?_); refine box_event ?hg (N := 3) ?hd (cs := #[.string (⟨#[]⟩ : ByteArray), .string (⟨#[]⟩ : ByteArray), .string (⟨#[]⟩ : ByteArray), .string (⟨#[]⟩ : ByteArray)]) (t := 72) ?hr ?_; (case hd => rfl); (case hg => rfl); (case hr => first | (go_simp; done) | (go_simp; rfl)); intro gb213 hg w4 hbox hb; have BK213 := Aside0.mk (hbox); have GW213 := Aside0.mk ((by rw [hg]; exact (below_size (by repeat (first|(with_reducible first|exact HB.out|apply zA|apply zN|apply zD | refine below_set ?_ GE211.out | refine below_set ?_ GE212.out) | exact HB.out))) : w.heap.size ≤ gb213)); have GE213 := Aside0.mk ((by rw [hg]; exact (below_size (by repeat (first|(with_reducible first|exact HB.out|apply zA|apply zN|apply zD | refine below_set ?_ GE211.out | refine below_set ?_ GE212.out) | exact HB.out))) : w.heap.size ≤ gb213)); replace HB := Aside0.mk (below_step (by repeat (first|(with_reducible first|exact HB.out|apply zA|apply zN|apply zD | refine below_set ?_ GE211.out | refine below_set ?_ GE212.out) | exact HB.out)) hb); have NB211_213 := Aside0.mk ((by rw [hg]; exact Nat.ne_of_lt (blk_lt (g := gb211) (by (with_reducible repeat (first | refine bN ?_ _|refine bD ?_|refine bA ?_ _)); exact BK211.out)) : gb211 ≠ gb213)); have NB213_211 := Aside0.mk ((by rw [hg]; exact Nat.ne_of_gt (blk_lt (g := gb211) (by (with_reducible repeat (first | refine bN ?_ _|refine bD ?_|refine bA ?_ _)); exact BK211.out)) : gb213 ≠ gb211)); replace BK211 := Aside0.mk (blk_below (g := gb211) (by (with_reducible repeat (first | refine bN ?_ _|refine bD ?_|refine bA ?_ _)); exact BK211.out) hb); have NB212_213 := Aside0.mk ((by rw [hg]; exact Nat.ne_of_lt (blk_lt (g := gb212) (by (with_reducible repeat (first | refine bN ?_ _|refine bD ?_|refine bA ?_ _)); exact BK212.out)) : gb212 ≠ gb213)); have NB213_212 := Aside0.mk ((by rw [hg]; exact Nat.ne_of_gt (blk_lt (g := gb212) (by (with_reducible repeat (first | refine bN ?_ _|refine bD ?_|refine bA ?_ _)); exact BK212.out)) : gb213 ≠ gb212)); replace BK212 := Aside0.mk (blk_below (g := gb212) (by (with_reducible repeat (first | refine bN ?_ _|refine bD ?_|refine bA ?_ _)); exact BK212.out) hb); clear hb hbox hg; have hnb5 := NB211_212.out; have hnc5 := NB212_211.out; have hnb6 := NB211_213.out; have hnc6 := NB213_211.out; obtain ⟨hcz7_0, hcz7_1, hcz7_2, hcz7_3⟩ := bc4 BK211.out; obtain ⟨hfz7_0, hfz7_1, hfz7_2, hfz7_3⟩ := bf4 BK211.out; have hnb8 := NB213_212.out; have hnc8 := NB212_213.out; obtain ⟨hcz9_0, hcz9_1, hcz9_2, hcz9_3⟩ := bc4 BK213.out; obtain ⟨hfz9_0, hfz9_1, hfz9_2, hfz9_3⟩ := bf4 BK213.out; obtain ⟨hcz10_0, hcz10_1, hcz10_2, hcz10_3⟩ := bc4 BK212.out; obtain ⟨hfz10_0, hfz10_1, hfz10_2, hfz10_3⟩ := bf4 BK212.out))
 refine bodyPost_ret (results_cell_row rfl _ _ gb212 72 #[.string a0_0, .string a0_1, .string a0_2, .string a0_3] (0, 0) _ rfl (by (with_reducible repeat (first | refine bN ?_ _|refine bD ?_|refine bA ?_ _)); exact put4 (by (with_reducible repeat (first | refine bN ?_ _|refine bD ?_|refine bA ?_ _)); exact pfa4 (hn := NB212_213.out) (by (with_reducible repeat (first | refine bN ?_ _|refine bD ?_|refine bA ?_ _)); exact BK212.out))) Tryd.underlying72 rfl (by kernel_rfl)) rfl ?_
 exact ⟨rE, by repeat (first|(with_reducible first|exact HB.out|apply zA|apply zN|apply zD | refine below_set ?_ GE211.out | refine below_set ?_ GE212.out | refine below_set ?_ GE213.out) | exact HB.out)⟩

end Go.Proofs.YtlfjdaoibjjakaaDoor.PZ
