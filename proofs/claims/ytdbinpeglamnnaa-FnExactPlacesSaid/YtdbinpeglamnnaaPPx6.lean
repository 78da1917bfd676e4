-- Written by the session's program hprint.py, over the kit's print program. Lean checks it.
import Derived.Test.YtdbinpeglamnnaaPPx0
import Derived.Test.YtdbinpeglamnnaaPPx1
import Derived.Test.YtdbinpeglamnnaaPPx2
import Derived.Test.YtdbinpeglamnnaaPPx3
import Derived.Test.YtdbinpeglamnnaaPPx4
import Derived.Test.YtdbinpeglamnnaaPPx5
namespace Go.Proofs.Ytdbinpeglamnnaa.PP
open Go.RowKit Go.Proofs.YtdbinpeglamnnaaW.PrintWords Go.Proofs.YtdbinpeglamnnaaW.PrintLast Go.Proofs.YtdbinpeglamnnaaW.PrintMore
attribute [local go_sem] max2_int min2_int max_two min_two max_three min_three max_four min_four   -- for this text's walks alone
set_option linter.unusedVariables false
set_option linter.unusedSimpArgs false
set_option maxHeartbeats 8000000
set_option maxRecDepth 100000

/-! ### laws_eqNode: function 13 -/
def laws_eqNode.F (G_ : List (S34) → List (S34) → Option (Bool)) (k : Nat) (a0_0 : Int) (a0_1 : ByteArray) (a0_2 : ByteArray) (a0_3 : ByteArray) (l0_4 : List (S88)) (l0_5 : List (S90)) (l0_6 : List (S34)) (a0_7 : ByteArray) (a1_0 : Int) (a1_1 : ByteArray) (a1_2 : ByteArray) (a1_3 : ByteArray) (l1_4 : List (S88)) (l1_5 : List (S90)) (l1_6 : List (S34)) (a1_7 : ByteArray) : Option (Bool) := if a0_0 = a1_0 then (if a0_1.toList = a1_1.toList then (if a0_2.toList = a1_2.toList then (if a0_3.toList = a1_3.toList then ((laws_eqDeclS.f k l0_4 l1_4).bind fun t203 => (if t203 = true then ((laws_eqAttrS.f k l0_5 l1_5).bind fun t204 => (if t204 = true then ((G_ l0_6 l1_6).bind fun t205 => (if t205 = true then (if a0_7.toList = a1_7.toList then (some true) else (some false)) else (some false))) else (some false))) else (some false))) else (some false)) else (some false)) else (some false)) else (some false)
theorem laws_eqNode.monoF {G_ G2_ : List (S34) → List (S34) → Option (Bool)} (hG_ : ∀ y0_ y1_, LeO (G_ y0_ y1_) (G2_ y0_ y1_)) : ∀ a0 a1 a2 a3 a4 a5 a6 a7 a8 a9 a10 a11 a12 a13 a14 a15 k, LeO (laws_eqNode.F G_ k a0 a1 a2 a3 a4 a5 a6 a7 a8 a9 a10 a11 a12 a13 a14 a15) (laws_eqNode.F G2_ (k + 1) a0 a1 a2 a3 a4 a5 a6 a7 a8 a9 a10 a11 a12 a13 a14 a15) := by
 intro a0 a1 a2 a3 a4 a5 a6 a7 a8 a9 a10 a11 a12 a13 a14 a15 k
 unfold laws_eqNode.F
 repeat' first
   | (with_reducible exact laws_eqAttrS.mono _ _ _)
   | (with_reducible exact laws_eqDeclS.mono _ _ _)
   | (with_reducible exact hG_ _ _)
   | (with_reducible exact LeO.refl _)
   | (with_reducible exact LeO.none _)
   | (with_reducible refine LeO.ite ?_ ?_)
   | (with_reducible refine LeO.bind ?_ (fun _ => ?_))
   | exact laws_eqAttrS.mono _ _ _
   | exact laws_eqDeclS.mono _ _ _
   | exact hG_ _ _
   | exact LeO.none _
   | refine LeO.ite ?_ ?_
   | refine LeO.bind ?_ (fun _ => ?_)
theorem laws_eqNode.callsF (G_ : List (S34) → List (S34) → Option (Bool)) (hG_ : ∀ (A0 : Option Addr) (c0 : Nat) (l0 : List (S34)) (A1 : Option Addr) (c1 : Nat) (l1 : List (S34)) (r_ : Bool) (w : World) (hr0 : Kd.C k34 w A0 l0.length l0) (hc0 : l0.length ≤ c0) (hr1 : Kd.C k34 w A1 l1.length l1) (hc1 : l1.length ≤ c1) (h : G_ l0 l1 = some true), Calls Try.prog 21 #[.slice A0 l0.length c0, .slice A1 l1.length c1] w fun e w' => e = .returned (.bool true) ∧ Below w.heap.size w w') (k : Nat) (a0_0 : Int) (a0_1 : ByteArray) (a0_2 : ByteArray) (a0_3 : ByteArray) (A0_4 : Option Addr) (c0_4 : Nat) (l0_4 : List (S88)) (A0_5 : Option Addr) (c0_5 : Nat) (l0_5 : List (S90)) (A0_6 : Option Addr) (c0_6 : Nat) (l0_6 : List (S34)) (a0_7 : ByteArray) (a1_0 : Int) (a1_1 : ByteArray) (a1_2 : ByteArray) (a1_3 : ByteArray) (A1_4 : Option Addr) (c1_4 : Nat) (l1_4 : List (S88)) (A1_5 : Option Addr) (c1_5 : Nat) (l1_5 : List (S90)) (A1_6 : Option Addr) (c1_6 : Nat) (l1_6 : List (S34)) (a1_7 : ByteArray) (r_ : Bool) (w : World) (hr0_4 : Kd.C k88 w A0_4 l0_4.length l0_4) (hc0_4 : l0_4.length ≤ c0_4) (hr0_5 : Kd.C k90 w A0_5 l0_5.length l0_5) (hc0_5 : l0_5.length ≤ c0_5) (hr0_6 : Kd.C k34 w A0_6 l0_6.length l0_6) (hc0_6 : l0_6.length ≤ c0_6) (hr1_4 : Kd.C k88 w A1_4 l1_4.length l1_4) (hc1_4 : l1_4.length ≤ c1_4) (hr1_5 : Kd.C k90 w A1_5 l1_5.length l1_5) (hc1_5 : l1_5.length ≤ c1_5) (hr1_6 : Kd.C k34 w A1_6 l1_6.length l1_6) (hc1_6 : l1_6.length ≤ c1_6) (h : laws_eqNode.F G_ k a0_0 a0_1 a0_2 a0_3 l0_4 l0_5 l0_6 a0_7 a1_0 a1_1 a1_2 a1_3 l1_4 l1_5 l1_6 a1_7 = some true) :
  Calls Try.prog 13 #[.agg #[.int .i64 a0_0, .string a0_1, .string a0_2, .string a0_3, .slice A0_4 l0_4.length c0_4, .slice A0_5 l0_5.length c0_5, .slice A0_6 l0_6.length c0_6, .string a0_7], .agg #[.int .i64 a1_0, .string a1_1, .string a1_2, .string a1_3, .slice A1_4 l1_4.length c1_4, .slice A1_5 l1_5.length c1_5, .slice A1_6 l1_6.length c1_6, .string a1_7]] w fun e w' => e = .returned (.bool true) ∧ Below w.heap.size w w' := by
 have hu34 := Try.underlying34
 have HR0_4 := Aside0.mk hr0_4
 have HC0_4 := Aside0.mk hc0_4
 clear hr0_4 hc0_4
 have HR0_5 := Aside0.mk hr0_5
 have HC0_5 := Aside0.mk hc0_5
 clear hr0_5 hc0_5
 have HR0_6 := Aside0.mk hr0_6
 have HC0_6 := Aside0.mk hc0_6
 clear hr0_6 hc0_6
 have HR1_4 := Aside0.mk hr1_4
 have HC1_4 := Aside0.mk hc1_4
 clear hr1_4 hc1_4
 have HR1_5 := Aside0.mk hr1_5
 have HC1_5 := Aside0.mk hc1_5
 clear hr1_5 hc1_5
 have HR1_6 := Aside0.mk hr1_6
 have HC1_6 := Aside0.mk hc1_6
 clear hr1_6 hc1_6
 have HB := Aside0.mk (Below.refl w.heap.size w)
 have H : (if a0_0 = a1_0 then (if a0_1.toList = a1_1.toList then (if a0_2.toList = a1_2.toList then (if a0_3.toList = a1_3.toList then ((laws_eqDeclS.f k l0_4 l1_4).bind fun t203 => (if t203 = true then ((laws_eqAttrS.f k l0_5 l1_5).bind fun t204 => (if t204 = true then ((G_ l0_6 l1_6).bind fun t205 => (if t205 = true then (if a0_7.toList = a1_7.toList then (some true) else (some false)) else (some false))) else (some false))) else (some false))) else (some false)) else (some false)) else (some false)) else (some false)) = some true := h
 clear h
 go_enter Try.func13, Try.ntmps13
 go_wp2_with (first | ((with_reducible refine gate_dst (N := 2) rfl ?_); refine box_event ?hg (N := 2) ?hd (cs := #[.int .i64 a0_0, .string a0_1, .string a0_2, .string a0_3, .slice A0_4 l0_4.length c0_4, .slice A0_5 l0_5.length c0_5, .slice A0_6 l0_6.length c0_6, .string a0_7]) (t := 34) ?hr ?_; (case hd => rfl); (case hg => rfl); (case hr => first | (go_simp; done) | (go_simp; rfl)); intro gb201 hg w3 hbox hb; have BK201 := Aside0.mk (hbox); have GW201 := Aside0.mk ((by rw [hg]; exact (below_size hB) : w.heap.size ≤ gb201)); have GE201 := Aside0.mk ((by rw [hg]; exact (below_size hB) : w.heap.size ≤ gb201)); replace HB := Aside0.mk (below_step hB hb); clear hb hbox hg) | ((with_reducible refine gate_dst (N := 3) rfl ?_); refine box_event ?hg (N := 3) ?hd (cs := #[.int .i64 a1_0, .string a1_1, .string a1_2, .string a1_3, .slice A1_4 l1_4.length c1_4, .slice A1_5 l1_5.length c1_5, .slice A1_6 l1_6.length c1_6, .string a1_7]) (t := 34) ?hr ?_; (case hd => rfl); (case hg => rfl); (case hr => first | (go_simp; done) | (go_simp; rfl)); intro gb202 hg w4 hbox hb; have BK202 := Aside0.mk (hbox); have GW202 := Aside0.mk ((by rw [hg]; exact (below_size hB) : w.heap.size ≤ gb202)); have GE202 := Aside0.mk ((by rw [hg]; exact (below_size hB) : w.heap.size ≤ gb202)); replace HB := Aside0.mk (below_step hB hb); have NB201_202 := Aside0.mk ((by rw [hg]; exact Nat.ne_of_lt (blk_lt (g := gb201) (by (with_reducible repeat (first | refine bN ?_ _|refine bD ?_|refine bA ?_ _)); exact BK201.out)) : gb201 ≠ gb202)); have NB202_201 := Aside0.mk ((by rw [hg]; exact Nat.ne_of_gt (blk_lt (g := gb201) (by (with_reducible repeat (first | refine bN ?_ _|refine bD ?_|refine bA ?_ _)); exact BK201.out)) : gb202 ≠ gb201)); replace BK201 := Aside0.mk (blk_below (g := gb201) (by (with_reducible repeat (first | refine bN ?_ _|refine bD ?_|refine bA ?_ _)); exact BK201.out) hb); clear hb hbox hg; have hnb5 := NB201_202.out; have hnc5 := NB202_201.out; obtain ⟨hcz6_0, hcz6_1, hcz6_2, hcz6_3, hcz6_4, hcz6_5, hcz6_6, hcz6_7⟩ := bc8 BK201.out; obtain ⟨hcz7_0, hcz7_1, hcz7_2, hcz7_3, hcz7_4, hcz7_5, hcz7_6, hcz7_7⟩ := bc8 BK202.out; refine halt_ ?_; intro q_ hq_))
 obtain ⟨rfl⟩ := hq_
 by_cases c8 : a0_0 = a1_0
 ·rw [if_pos c8] at H
  have c8b0 : (a0_0 == a1_0) = true := beq_iff_eq.mpr c8
  have c8b1 : (a0_0 != a1_0) = false := bne_eq_false_iff_eq.mpr c8
  clear c8
  by_cases c9 : a0_1.toList = a1_1.toList
  ·rw [if_pos c9] at H
   have c9b0 : (a0_1.toList == a1_1.toList) = true := beq_iff_eq.mpr c9
   have c9b1 : (a0_1.toList != a1_1.toList) = false := bne_eq_false_iff_eq.mpr c9
   clear c9
   by_cases c10 : a0_2.toList = a1_2.toList
   ·rw [if_pos c10] at H
    have c10b0 : (a0_2.toList == a1_2.toList) = true := beq_iff_eq.mpr c10
    have c10b1 : (a0_2.toList != a1_2.toList) = false := bne_eq_false_iff_eq.mpr c10
    clear c10
    by_cases c11 : a0_3.toList = a1_3.toList
    ·rw [if_pos c11] at H
     have c11b0 : (a0_3.toList == a1_3.toList) = true := beq_iff_eq.mpr c11
     have c11b1 : (a0_3.toList != a1_3.toList) = false := bne_eq_false_iff_eq.mpr c11
     clear c11
     replace H := Option.bind_eq_some_iff.mp H
     obtain ⟨t203, A120, H⟩ := H
     try dsimp only at H
     have A12 := Aside0.mk A120
     clear A120
     by_cases c13 : t203 = true
     ·subst c13
      rw [if_pos rfl] at H
      replace H := Option.bind_eq_some_iff.mp H
      obtain ⟨t204, A140, H⟩ := H
      try dsimp only at H
      have A14 := Aside0.mk A140
      clear A140
      by_cases c15 : t204 = true
      ·subst c15
       rw [if_pos rfl] at H
       replace H := Option.bind_eq_some_iff.mp H
       obtain ⟨t205, A160, H⟩ := H
       try dsimp only at H
       have A16 := Aside0.mk A160
       clear A160
       by_cases c17 : t205 = true
       ·subst c17
        rw [if_pos rfl] at H
        by_cases c18 : a0_7.toList = a1_7.toList
        ·rw [if_pos c18] at H
         have c18b0 : (a0_7.toList == a1_7.toList) = true := beq_iff_eq.mpr c18
         have c18b1 : (a0_7.toList != a1_7.toList) = false := bne_eq_false_iff_eq.mpr c18
         clear c18
         first | obtain rfl := Option.some.inj H | clear H
         have hnb19 := NB201_202.out
         have hnc19 := NB202_201.out
         obtain ⟨hcz20_0, hcz20_1, hcz20_2, hcz20_3, hcz20_4, hcz20_5, hcz20_6, hcz20_7⟩ := bc8 BK201.out
         obtain ⟨hcz21_0, hcz21_1, hcz21_2, hcz21_3, hcz21_4, hcz21_5, hcz21_6, hcz21_7⟩ := bc8 BK202.out
         go_wp2_with (first | ((with_reducible refine gate_callee (f := 41) rfl ?_); refine goesL_ (some 29) rfl rfl Try.func41 (by kernel_rfl) rfl #[.slice A0_4 l0_4.length c0_4, .slice A1_4 l1_4.length c1_4] rfl mA ?_; (with_reducible refine (laws_eqDeclS.calls k _ _ l0_4 _ _ l1_4 true _ ?side1 ?side2 ?side3 ?side4 A12.out).mono ?_); (case side1 => repeat (first | exact (Kd.C_below HR0_4.out HB.out) | (with_reducible refine Kd.C_alloc ?_ _) | (with_reducible refine Kd.C_drewN ?_ _) | (with_reducible refine Kd.C_drew ?_))); (case side2 => exact HC0_4.out); (case side3 => repeat (first | exact (Kd.C_below HR1_4.out HB.out) | (with_reducible refine Kd.C_alloc ?_ _) | (with_reducible refine Kd.C_drewN ?_ _) | (with_reducible refine Kd.C_drew ?_))); (case side4 => exact HC1_4.out); rintro e w22 ⟨rfl, hb⟩; refine ⟨_, rfl, ?_⟩; replace BK201 := Aside0.mk (blk_below (g := gb201) (by (with_reducible repeat (first | refine bN ?_ _|refine bD ?_|refine bA ?_ _)); exact BK201.out) hb); replace BK202 := Aside0.mk (blk_below (g := gb202) (by (with_reducible repeat (first | refine bN ?_ _|refine bD ?_|refine bA ?_ _)); exact BK202.out) hb); replace HB := Aside0.mk (below_step hB hb); (try clear hb); (try clear hb2); (try clear hk); (try clear hi); obtain ⟨hcz23_0, hcz23_1, hcz23_2, hcz23_3, hcz23_4, hcz23_5, hcz23_6, hcz23_7⟩ := bc8 BK201.out; obtain ⟨hcz24_0, hcz24_1, hcz24_2, hcz24_3, hcz24_4, hcz24_5, hcz24_6, hcz24_7⟩ := bc8 BK202.out) | ((with_reducible refine gate_callee (f := 42) rfl ?_); refine goesL_ (some 35) rfl rfl Try.func42 (by kernel_rfl) rfl #[.slice A0_5 l0_5.length c0_5, .slice A1_5 l1_5.length c1_5] rfl mA ?_; (with_reducible refine (laws_eqAttrS.calls k _ _ l0_5 _ _ l1_5 true _ ?side1 ?side2 ?side3 ?side4 A14.out).mono ?_); (case side1 => repeat (first | exact (Kd.C_below HR0_5.out HB.out) | (with_reducible refine Kd.C_alloc ?_ _) | (with_reducible refine Kd.C_drewN ?_ _) | (with_reducible refine Kd.C_drew ?_))); (case side2 => exact HC0_5.out); (case side3 => repeat (first | exact (Kd.C_below HR1_5.out HB.out) | (with_reducible refine Kd.C_alloc ?_ _) | (with_reducible refine Kd.C_drewN ?_ _) | (with_reducible refine Kd.C_drew ?_))); (case side4 => exact HC1_5.out); rintro e w25 ⟨rfl, hb⟩; refine ⟨_, rfl, ?_⟩; replace BK201 := Aside0.mk (blk_below (g := gb201) (by (with_reducible repeat (first | refine bN ?_ _|refine bD ?_|refine bA ?_ _)); exact BK201.out) hb); replace BK202 := Aside0.mk (blk_below (g := gb202) (by (with_reducible repeat (first | refine bN ?_ _|refine bD ?_|refine bA ?_ _)); exact BK202.out) hb); replace HB := Aside0.mk (below_step hB hb); (try clear hb); (try clear hb2); (try clear hk); (try clear hi); obtain ⟨hcz26_0, hcz26_1, hcz26_2, hcz26_3, hcz26_4, hcz26_5, hcz26_6, hcz26_7⟩ := bc8 BK201.out; obtain ⟨hcz27_0, hcz27_1, hcz27_2, hcz27_3, hcz27_4, hcz27_5, hcz27_6, hcz27_7⟩ := bc8 BK202.out) | ((with_reducible refine gate_callee (f := 21) rfl ?_); refine goesL_ (some 41) rfl rfl Try.func21 (by kernel_rfl) rfl #[.slice A0_6 l0_6.length c0_6, .slice A1_6 l1_6.length c1_6] rfl mA ?_; (with_reducible refine (hG_ _ _ l0_6 _ _ l1_6 true _ ?side1 ?side2 ?side3 ?side4 A16.out).mono ?_); (case side1 => repeat (first | exact (Kd.C_below HR0_6.out HB.out) | (with_reducible refine Kd.C_alloc ?_ _) | (with_reducible refine Kd.C_drewN ?_ _) | (with_reducible refine Kd.C_drew ?_))); (case side2 => exact HC0_6.out); (case side3 => repeat (first | exact (Kd.C_below HR1_6.out HB.out) | (with_reducible refine Kd.C_alloc ?_ _) | (with_reducible refine Kd.C_drewN ?_ _) | (with_reducible refine Kd.C_drew ?_))); (case side4 => exact HC1_6.out); rintro e w28 ⟨rfl, hb⟩; refine ⟨_, rfl, ?_⟩; replace BK201 := Aside0.mk (blk_below (g := gb201) (by (with_reducible repeat (first | refine bN ?_ _|refine bD ?_|refine bA ?_ _)); exact BK201.out) hb); replace BK202 := Aside0.mk (blk_below (g := gb202) (by (with_reducible repeat (first | refine bN ?_ _|refine bD ?_|refine bA ?_ _)); exact BK202.out) hb); replace HB := Aside0.mk (below_step hB hb); (try clear hb); (try clear hb2); (try clear hk); (try clear hi); obtain ⟨hcz29_0, hcz29_1, hcz29_2, hcz29_3, hcz29_4, hcz29_5, hcz29_6, hcz29_7⟩ := bc8 BK201.out; obtain ⟨hcz30_0, hcz30_1, hcz30_2, hcz30_3, hcz30_4, hcz30_5, hcz30_6, hcz30_7⟩ := bc8 BK202.out))
         go_ret
         exact ⟨rE, hB⟩
        ·rw [if_neg c18] at H
         exact absurd H (by simp)
       ·rw [if_neg c17] at H
        exact absurd H (by simp)
      ·rw [if_neg c15] at H
       exact absurd H (by simp)
     ·rw [if_neg c13] at H
      exact absurd H (by simp)
    ·rw [if_neg c11] at H
     exact absurd H (by simp)
   ·rw [if_neg c10] at H
    exact absurd H (by simp)
  ·rw [if_neg c9] at H
   exact absurd H (by simp)
 ·rw [if_neg c8] at H
  exact absurd H (by simp)
/-! ### laws_eqNodeS: function 21 -/
mutual
def laws_eqNodeS.l0 : Nat → List (S34) → List (S34) → Int → Option (Bool)
 | 0, _, _, _ => none
 | k + 1, x0, x1, x5 => if x5 < (x0.length : Int) then (if 0 ≤ x5 then (if x5 < (x1.length : Int) then ((laws_eqNode.F (fun y0_ y1_ => laws_eqNodeS.f k y0_ y1_) k ((rd_T34 x0 x5).f0) ((rd_T34 x0 x5).f1) ((rd_T34 x0 x5).f2) ((rd_T34 x0 x5).f3) ((rd_T34 x0 x5).f4) ((rd_T34 x0 x5).f5) ((rd_T34 x0 x5).f6) ((rd_T34 x0 x5).f7) ((rd_T34 x1 x5).f0) ((rd_T34 x1 x5).f1) ((rd_T34 x1 x5).f2) ((rd_T34 x1 x5).f3) ((rd_T34 x1 x5).f4) ((rd_T34 x1 x5).f5) ((rd_T34 x1 x5).f6) ((rd_T34 x1 x5).f7)).bind fun t248 => (if t248 = true then (laws_eqNodeS.l0 k x0 x1 (wrap64 (x5 + 1))) else (some false))) else (none)) else (none)) else (some true)
def laws_eqNodeS.f : Nat → List (S34) → List (S34) → Option (Bool)
 | 0, _, _ => none
 | k + 1, l0, l1 => if (l0.length : Int) = (l1.length : Int) then (laws_eqNodeS.l0 k l0 l1 0) else (some false)
end
def laws_eqNodeS.T6 : Bool × List (List Nat × List Nat) := (true, [([], []), ([], []), ([0, 1], [0, 1]), ([2], [2]), ([], []), ([], []), ([4, 5], [4, 5]), ([6], [6]), ([3, 7], [3, 7]), ([8], [8])])
def laws_eqNodeS.B6 : List Nat := [0, 0, 3, 7, 0, 0, 48, 112, 255, 511]
theorem laws_eqNodeS.tab6 : rtab .any (opsOf Try.f21 6) = laws_eqNodeS.T6 := by kernel_rfl
theorem laws_eqNodeS.bits6 : waitsOk laws_eqNodeS.T6.2 laws_eqNodeS.B6 = true := by kernel_rfl
theorem laws_eqNodeS.calls (k : Nat) : ∀ (A0 : Option Addr) (c0 : Nat) (l0 : List (S34)) (A1 : Option Addr) (c1 : Nat) (l1 : List (S34)) (r_ : Bool) (w : World) (hr0 : Kd.C k34 w A0 l0.length l0) (hc0 : l0.length ≤ c0) (hr1 : Kd.C k34 w A1 l1.length l1) (hc1 : l1.length ≤ c1) (h : laws_eqNodeS.f k l0 l1 = some true),
  Calls Try.prog 21 #[.slice A0 l0.length c0, .slice A1 l1.length c1] w fun e w' => e = .returned (.bool true) ∧ Below w.heap.size w w' := by
 induction k using Nat.strongRecOn with
 | _ k ih =>
 intro A0 c0 l0 A1 c1 l1 r_ w hr0 hc0 hr1 hc1 h
 cases k with
 | zero => exact absurd h (by simp [laws_eqNodeS.f])
 | succ k =>
 simp only [laws_eqNodeS.f] at h
 have hu34 := Try.underlying34
 have HR0 := Aside0.mk hr0
 have HC0 := Aside0.mk hc0
 clear hr0 hc0
 have HR1 := Aside0.mk hr1
 have HC1 := Aside0.mk hc1
 clear hr1 hc1
 have HB := Aside0.mk (Below.refl w.heap.size w)
 have H : (if (l0.length : Int) = (l1.length : Int) then (laws_eqNodeS.l0 k l0 l1 0) else (some false)) = some true := h
 clear h
 by_cases c3 : (l0.length : Int) = (l1.length : Int)
 ·rw [if_pos c3] at H
  have c3b0 : ((l0.length : Int) == (l1.length : Int)) = true := beq_iff_eq.mpr c3
  have c3b1 : ((l0.length : Int) != (l1.length : Int)) = false := bne_eq_false_iff_eq.mpr c3
  have c3b2 : (l0.length == l1.length) = true := by first | simpa using c3 | (simp at c3 ⊢; omega)
  clear c3
  have H' := Aside0.mk H
  clear H
  go_enter Try.func21, Try.ntmps21
  go_wp2
  go_loopg [5] k (fun kq v5 w' => ∃ (x5_1 : Int), v5 = .int .i64 x5_1 ∧ Aside0 (laws_eqNodeS.l0 kq l0 l1 x5_1 = some true) ∧ Aside0 (kq ≤ k) ∧ Aside0 (Below w.heap.size w w'))
  case atStart => exact ⟨(0), rG, H', ⟨Nat.le_refl _⟩, ⟨hB⟩⟩
  case round =>
   clear H'
   try clear c3; try clear c3b2; try clear c3b1; try clear c3b0
   obtain ⟨x5_1, rfl, HA, HK1, HB⟩ := hrel
   cases gk with
   | zero => exact absurd HA.out (by simp [laws_eqNodeS.l0])
   | succ k1 =>
    have H := HA.out
    clear HA
    simp only [laws_eqNodeS.l0] at H
    by_cases c4 : x5_1 < (l0.length : Int)
    ·rw [if_pos c4] at H
     have c4b0 : decide (x5_1 < (l0.length : Int)) = true := decide_eq_true c4
     clear c4
     by_cases c5 : 0 ≤ x5_1
     ·rw [if_pos c5] at H
      have c5b0 : decide (0 ≤ x5_1) = true := decide_eq_true c5
      clear c5
      by_cases c6 : x5_1 < (l1.length : Int)
      ·rw [if_pos c6] at H
       have c6b0 : decide (x5_1 < (l1.length : Int)) = true := decide_eq_true c6
       clear c6
       replace H := Option.bind_eq_some_iff.mp H
       obtain ⟨t248, A70, H⟩ := H
       try dsimp only at H
       have A7 := Aside0.mk A70
       clear A70
       by_cases c8 : t248 = true
       ·subst c8
        rw [if_pos rfl] at H
        have H' := Aside0.mk H
        clear H
        try go_wp2
        replace HB := Aside0.mk (below_drew1 HB.out)
        have p246 : 0 ≤ (x5_1 : Int) := odt
        have q246 : x5_1 < (l0.length : Int) := odt
        obtain ⟨ad246, A246_4, c246_4, A246_5, c246_5, A246_6, c246_6, e246, hx246_0, hx246_1, hx246_2, hx246_3, hx246_4, hx246_5, hx246_6, hx246_7, hl246_4, hi246_4, hl246_5, hi246_5, hl246_6, hi246_6⟩ := at_T34 HR0.out x5_1 p246 q246
        have hw246_7 := hx246_7
        have hw246_6 := hx246_6
        have hw246_5 := hx246_5
        have hw246_4 := hx246_4
        have hw246_3 := hx246_3
        have hw246_2 := hx246_2
        have hw246_1 := hx246_1
        have hw246_0 := hx246_0
        cases e246
        replace hx246_0 := pw_cell_below HB.out hx246_0
        replace hx246_1 := pw_cell_below HB.out hx246_1
        replace hx246_2 := pw_cell_below HB.out hx246_2
        replace hx246_3 := pw_cell_below HB.out hx246_3
        replace hx246_4 := pw_cell_below HB.out hx246_4
        replace hx246_5 := pw_cell_below HB.out hx246_5
        replace hx246_6 := pw_cell_below HB.out hx246_6
        replace hx246_7 := pw_cell_below HB.out hx246_7
        have HR246_4 := Aside0.mk hi246_4
        have HC246_4 := Aside0.mk hl246_4
        clear hi246_4 hl246_4
        have HR246_5 := Aside0.mk hi246_5
        have HC246_5 := Aside0.mk hl246_5
        clear hi246_5 hl246_5
        have HR246_6 := Aside0.mk hi246_6
        have HC246_6 := Aside0.mk hl246_6
        clear hi246_6 hl246_6
        replace p246 := eq_true p246
        replace q246 := eq_true q246
        have p247 : 0 ≤ (x5_1 : Int) := odt
        have q247 : x5_1 < (l1.length : Int) := odt
        obtain ⟨ad247, A247_4, c247_4, A247_5, c247_5, A247_6, c247_6, e247, hx247_0, hx247_1, hx247_2, hx247_3, hx247_4, hx247_5, hx247_6, hx247_7, hl247_4, hi247_4, hl247_5, hi247_5, hl247_6, hi247_6⟩ := at_T34 HR1.out x5_1 p247 q247
        have hw247_7 := hx247_7
        have hw247_6 := hx247_6
        have hw247_5 := hx247_5
        have hw247_4 := hx247_4
        have hw247_3 := hx247_3
        have hw247_2 := hx247_2
        have hw247_1 := hx247_1
        have hw247_0 := hx247_0
        cases e247
        replace hx247_0 := pw_cell_below HB.out hx247_0
        replace hx247_1 := pw_cell_below HB.out hx247_1
        replace hx247_2 := pw_cell_below HB.out hx247_2
        replace hx247_3 := pw_cell_below HB.out hx247_3
        replace hx247_4 := pw_cell_below HB.out hx247_4
        replace hx247_5 := pw_cell_below HB.out hx247_5
        replace hx247_6 := pw_cell_below HB.out hx247_6
        replace hx247_7 := pw_cell_below HB.out hx247_7
        have HR247_4 := Aside0.mk hi247_4
        have HC247_4 := Aside0.mk hl247_4
        clear hi247_4 hl247_4
        have HR247_5 := Aside0.mk hi247_5
        have HC247_5 := Aside0.mk hl247_5
        clear hi247_5 hl247_5
        have HR247_6 := Aside0.mk hi247_6
        have HC247_6 := Aside0.mk hl247_6
        clear hi247_6 hl247_6
        replace p247 := eq_true p247
        replace q247 := eq_true q247
        refine start_ (n := 10) (S := fun w' => w'.cell? (ad246.add ((x5_1).toNat * 8)) = some (.int .i64 ((rd_T34 l0 x5_1).f0)) ∧ w'.cell? ⟨(ad246.add ((x5_1).toNat * 8)).block, (ad246.add ((x5_1).toNat * 8)).off + 1, none⟩ = some (.string ((rd_T34 l0 x5_1).f1)) ∧ w'.cell? ⟨(ad246.add ((x5_1).toNat * 8)).block, (ad246.add ((x5_1).toNat * 8)).off + 2, none⟩ = some (.string ((rd_T34 l0 x5_1).f2)) ∧ w'.cell? ⟨(ad246.add ((x5_1).toNat * 8)).block, (ad246.add ((x5_1).toNat * 8)).off + 3, none⟩ = some (.string ((rd_T34 l0 x5_1).f3)) ∧ w'.cell? ⟨(ad246.add ((x5_1).toNat * 8)).block, (ad246.add ((x5_1).toNat * 8)).off + 4, none⟩ = some (.slice A246_4 ((rd_T34 l0 x5_1).f4).length c246_4) ∧ w'.cell? ⟨(ad246.add ((x5_1).toNat * 8)).block, (ad246.add ((x5_1).toNat * 8)).off + 5, none⟩ = some (.slice A246_5 ((rd_T34 l0 x5_1).f5).length c246_5) ∧ w'.cell? ⟨(ad246.add ((x5_1).toNat * 8)).block, (ad246.add ((x5_1).toNat * 8)).off + 6, none⟩ = some (.slice A246_6 ((rd_T34 l0 x5_1).f6).length c246_6) ∧ w'.cell? ⟨(ad246.add ((x5_1).toNat * 8)).block, (ad246.add ((x5_1).toNat * 8)).off + 7, none⟩ = some (.string ((rd_T34 l0 x5_1).f7)) ∧ w'.cell? (ad247.add ((x5_1).toNat * 8)) = some (.int .i64 ((rd_T34 l1 x5_1).f0)) ∧ w'.cell? ⟨(ad247.add ((x5_1).toNat * 8)).block, (ad247.add ((x5_1).toNat * 8)).off + 1, none⟩ = some (.string ((rd_T34 l1 x5_1).f1)) ∧ w'.cell? ⟨(ad247.add ((x5_1).toNat * 8)).block, (ad247.add ((x5_1).toNat * 8)).off + 2, none⟩ = some (.string ((rd_T34 l1 x5_1).f2)) ∧ w'.cell? ⟨(ad247.add ((x5_1).toNat * 8)).block, (ad247.add ((x5_1).toNat * 8)).off + 3, none⟩ = some (.string ((rd_T34 l1 x5_1).f3)) ∧ w'.cell? ⟨(ad247.add ((x5_1).toNat * 8)).block, (ad247.add ((x5_1).toNat * 8)).off + 4, none⟩ = some (.slice A247_4 ((rd_T34 l1 x5_1).f4).length c247_4) ∧ w'.cell? ⟨(ad247.add ((x5_1).toNat * 8)).block, (ad247.add ((x5_1).toNat * 8)).off + 5, none⟩ = some (.slice A247_5 ((rd_T34 l1 x5_1).f5).length c247_5) ∧ w'.cell? ⟨(ad247.add ((x5_1).toNat * 8)).block, (ad247.add ((x5_1).toNat * 8)).off + 6, none⟩ = some (.slice A247_6 ((rd_T34 l1 x5_1).f6).length c247_6) ∧ w'.cell? ⟨(ad247.add ((x5_1).toNat * 8)).block, (ad247.add ((x5_1).toNat * 8)).off + 7, none⟩ = some (.string ((rd_T34 l1 x5_1).f7))) (ds := []) #[false, false, false, false, false, false, false, false, false, false] (by kernel_rfl) rfl rfl ⟨(pw_cell_below HB.out hw246_0), (pw_cell_below HB.out hw246_1), (pw_cell_below HB.out hw246_2), (pw_cell_below HB.out hw246_3), (pw_cell_below HB.out hw246_4), (pw_cell_below HB.out hw246_5), (pw_cell_below HB.out hw246_6), (pw_cell_below HB.out hw246_7), (pw_cell_below HB.out hw247_0), (pw_cell_below HB.out hw247_1), (pw_cell_below HB.out hw247_2), (pw_cell_below HB.out hw247_3), (pw_cell_below HB.out hw247_4), (pw_cell_below HB.out hw247_5), (pw_cell_below HB.out hw247_6), (pw_cell_below HB.out hw247_7)⟩ (fun hHeld => ?_); refine with_tabW laws_eqNodeS.tab6 laws_eqNodeS.bits6 (fun HT_ HW_ => ?_)
        generalize wr.drew = w9 at HB HR246_4 HR246_5 HR246_6 HR247_4 HR247_5 HR247_6 hx246_0 hx246_1 hx246_2 hx246_3 hx246_4 hx246_5 hx246_6 hx246_7 hx247_0 hx247_1 hx247_2 hx247_3 hx247_4 hx247_5 hx247_6 hx247_7 hHeld ⊢
        refine pU 0 17 (tf 1 9) ?_
        refine pU 1 18 (tf 2 8) ?_
        refine pU 2 19 (tf 3 7) ?_
        refine pU 4 21 #[true, true, true, false, true, false, false, false, false, false] ?_
        refine pU 5 22 #[true, true, true, false, true, true, false, false, false, false] ?_
        refine pU 6 23 #[true, true, true, false, true, true, true, false, false, false] ?_
        refine take_ (i := 3) (N := some 20) (v := ?_) (a' := ?_) (tf 7 3) rfl rfl (take_ofW HT_.out HW_.out (by kernel_rfl)) (fun _ _ _ h => h) (Or.inl ⟨by rfl, ?_⟩) hHeld ?_ ?_
        rotate_left
        ·rintro w' ⟨s0, s1, s2, s3, s4, s5, s6, s7, s8, s9, s10, s11, s12, s13, s14, s15⟩
         go_simp
         with_reducible rfl
        rotate_left
        ·simp only [Act.put, sT, sZ, sS, i64_w, i32_w]
         rfl
        refine take_ (i := 7) (N := some 24) (v := ?_) (a' := ?_) (tf 8 2) rfl rfl (take_ofW HT_.out HW_.out (by kernel_rfl)) (fun _ _ _ h => h) (Or.inl ⟨by rfl, ?_⟩) hHeld ?_ ?_
        rotate_left
        ·rintro w' ⟨s0, s1, s2, s3, s4, s5, s6, s7, s8, s9, s10, s11, s12, s13, s14, s15⟩
         go_simp
         with_reducible rfl
        rotate_left
        ·simp only [Act.put, sT, sZ, sS, i64_w, i32_w]
         rfl
        refine one_ (i := 8) (N := some 25) (tf 9 1) rfl rfl (one_of HT_.out (by kernel_rfl)) (by decide) (fun K hK => ?_)
        refine goes_ Try.func13 (by kernel_rfl) rfl #[.agg #[.int .i64 ((rd_T34 l0 x5_1).f0), .string ((rd_T34 l0 x5_1).f1), .string ((rd_T34 l0 x5_1).f2), .string ((rd_T34 l0 x5_1).f3), .slice A246_4 ((rd_T34 l0 x5_1).f4).length c246_4, .slice A246_5 ((rd_T34 l0 x5_1).f5).length c246_5, .slice A246_6 ((rd_T34 l0 x5_1).f6).length c246_6, .string ((rd_T34 l0 x5_1).f7)], .agg #[.int .i64 ((rd_T34 l1 x5_1).f0), .string ((rd_T34 l1 x5_1).f1), .string ((rd_T34 l1 x5_1).f2), .string ((rd_T34 l1 x5_1).f3), .slice A247_4 ((rd_T34 l1 x5_1).f4).length c247_4, .slice A247_5 ((rd_T34 l1 x5_1).f5).length c247_5, .slice A247_6 ((rd_T34 l1 x5_1).f6).length c247_6, .string ((rd_T34 l1 x5_1).f7)]] (by rfl) rfl rfl mA ?_
        with_reducible refine (laws_eqNode.callsF (laws_eqNodeS.f k1) (ih k1 (by first | omega | (have := HK1.out; omega))) k1 ((rd_T34 l0 x5_1).f0) ((rd_T34 l0 x5_1).f1) ((rd_T34 l0 x5_1).f2) ((rd_T34 l0 x5_1).f3) _ _ ((rd_T34 l0 x5_1).f4) _ _ ((rd_T34 l0 x5_1).f5) _ _ ((rd_T34 l0 x5_1).f6) ((rd_T34 l0 x5_1).f7) ((rd_T34 l1 x5_1).f0) ((rd_T34 l1 x5_1).f1) ((rd_T34 l1 x5_1).f2) ((rd_T34 l1 x5_1).f3) _ _ ((rd_T34 l1 x5_1).f4) _ _ ((rd_T34 l1 x5_1).f5) _ _ ((rd_T34 l1 x5_1).f6) ((rd_T34 l1 x5_1).f7) true _ ?side1 ?side2 ?side3 ?side4 ?side5 ?side6 ?side7 ?side8 ?side9 ?side10 ?side11 ?side12 A7.out).mono ?_
        (case side1 => repeat (first | exact (Kd.C_below HR246_4.out HB.out) | (with_reducible refine Kd.C_alloc ?_ _) | (with_reducible refine Kd.C_drewN ?_ _) | (with_reducible refine Kd.C_drew ?_)))
        (case side2 => exact HC246_4.out)
        (case side3 => repeat (first | exact (Kd.C_below HR246_5.out HB.out) | (with_reducible refine Kd.C_alloc ?_ _) | (with_reducible refine Kd.C_drewN ?_ _) | (with_reducible refine Kd.C_drew ?_)))
        (case side4 => exact HC246_5.out)
        (case side5 => repeat (first | exact (Kd.C_below HR246_6.out HB.out) | (with_reducible refine Kd.C_alloc ?_ _) | (with_reducible refine Kd.C_drewN ?_ _) | (with_reducible refine Kd.C_drew ?_)))
        (case side6 => exact HC246_6.out)
        (case side7 => repeat (first | exact (Kd.C_below HR247_4.out HB.out) | (with_reducible refine Kd.C_alloc ?_ _) | (with_reducible refine Kd.C_drewN ?_ _) | (with_reducible refine Kd.C_drew ?_)))
        (case side8 => exact HC247_4.out)
        (case side9 => repeat (first | exact (Kd.C_below HR247_5.out HB.out) | (with_reducible refine Kd.C_alloc ?_ _) | (with_reducible refine Kd.C_drewN ?_ _) | (with_reducible refine Kd.C_drew ?_)))
        (case side10 => exact HC247_5.out)
        (case side11 => repeat (first | exact (Kd.C_below HR247_6.out HB.out) | (with_reducible refine Kd.C_alloc ?_ _) | (with_reducible refine Kd.C_drewN ?_ _) | (with_reducible refine Kd.C_drew ?_)))
        (case side12 => exact HC247_6.out)
        rintro e w10 ⟨rfl, hb⟩
        refine ⟨_, rfl, ?_⟩
        replace HB := Aside0.mk (below_step hB hb)
        (try clear hb)
        (try clear hb2)
        (try clear hk)
        (try clear hi)
        refine hK.out _ _ ⟨(pw_cell_below HB.out hw246_0), (pw_cell_below HB.out hw246_1), (pw_cell_below HB.out hw246_2), (pw_cell_below HB.out hw246_3), (pw_cell_below HB.out hw246_4), (pw_cell_below HB.out hw246_5), (pw_cell_below HB.out hw246_6), (pw_cell_below HB.out hw246_7), (pw_cell_below HB.out hw247_0), (pw_cell_below HB.out hw247_1), (pw_cell_below HB.out hw247_2), (pw_cell_below HB.out hw247_3), (pw_cell_below HB.out hw247_4), (pw_cell_below HB.out hw247_5), (pw_cell_below HB.out hw247_6), (pw_cell_below HB.out hw247_7)⟩ (fun hHeld => ?_)
        clear hK K
        refine norm_ (a' := ?_) ?_ ?_
        rotate_left
        ·show Act.put _ (some 25) _ = _
         simp only [Act.put, sT, sZ, sS, i64_w, i32_w]
         rfl
        refine pU 9 26 (tf 10 0) ?_
        refine done_ (done_of HT_.out (by kernel_rfl)) ?_
        try go_wp2
        go_roundg k1
        case measure => have := HK1.out; omega
        case rel => exact ⟨(wrap64 (x5_1 + 1)), rG, H', ⟨by have := HK1.out; omega⟩, ⟨hB⟩⟩
       ·rw [if_neg c8] at H
        exact absurd H (by simp)
      ·rw [if_neg c6] at H
       exact absurd H (by simp)
     ·rw [if_neg c5] at H
      exact absurd H (by simp)
    ·rw [if_neg c4] at H
     have c4b0 : decide (x5_1 < (l0.length : Int)) = false := decide_eq_false c4
     clear c4
     first | obtain rfl := Option.some.inj H | clear H
     go_wp2
     go_ret
     exact ⟨rE, hB⟩
 ·rw [if_neg c3] at H
  exact absurd H (by simp)
def laws_eqNode.f (k : Nat) (a0_0 : Int) (a0_1 : ByteArray) (a0_2 : ByteArray) (a0_3 : ByteArray) (l0_4 : List (S88)) (l0_5 : List (S90)) (l0_6 : List (S34)) (a0_7 : ByteArray) (a1_0 : Int) (a1_1 : ByteArray) (a1_2 : ByteArray) (a1_3 : ByteArray) (l1_4 : List (S88)) (l1_5 : List (S90)) (l1_6 : List (S34)) (a1_7 : ByteArray) : Option (Bool) := laws_eqNode.F (laws_eqNodeS.f k) k a0_0 a0_1 a0_2 a0_3 l0_4 l0_5 l0_6 a0_7 a1_0 a1_1 a1_2 a1_3 l1_4 l1_5 l1_6 a1_7
theorem laws_eqNode.calls (k : Nat) (a0_0 : Int) (a0_1 : ByteArray) (a0_2 : ByteArray) (a0_3 : ByteArray) (A0_4 : Option Addr) (c0_4 : Nat) (l0_4 : List (S88)) (A0_5 : Option Addr) (c0_5 : Nat) (l0_5 : List (S90)) (A0_6 : Option Addr) (c0_6 : Nat) (l0_6 : List (S34)) (a0_7 : ByteArray) (a1_0 : Int) (a1_1 : ByteArray) (a1_2 : ByteArray) (a1_3 : ByteArray) (A1_4 : Option Addr) (c1_4 : Nat) (l1_4 : List (S88)) (A1_5 : Option Addr) (c1_5 : Nat) (l1_5 : List (S90)) (A1_6 : Option Addr) (c1_6 : Nat) (l1_6 : List (S34)) (a1_7 : ByteArray) (r_ : Bool) (w : World) (hr0_4 : Kd.C k88 w A0_4 l0_4.length l0_4) (hc0_4 : l0_4.length ≤ c0_4) (hr0_5 : Kd.C k90 w A0_5 l0_5.length l0_5) (hc0_5 : l0_5.length ≤ c0_5) (hr0_6 : Kd.C k34 w A0_6 l0_6.length l0_6) (hc0_6 : l0_6.length ≤ c0_6) (hr1_4 : Kd.C k88 w A1_4 l1_4.length l1_4) (hc1_4 : l1_4.length ≤ c1_4) (hr1_5 : Kd.C k90 w A1_5 l1_5.length l1_5) (hc1_5 : l1_5.length ≤ c1_5) (hr1_6 : Kd.C k34 w A1_6 l1_6.length l1_6) (hc1_6 : l1_6.length ≤ c1_6) (h : laws_eqNode.f k a0_0 a0_1 a0_2 a0_3 l0_4 l0_5 l0_6 a0_7 a1_0 a1_1 a1_2 a1_3 l1_4 l1_5 l1_6 a1_7 = some true) :
  Calls Try.prog 13 #[.agg #[.int .i64 a0_0, .string a0_1, .string a0_2, .string a0_3, .slice A0_4 l0_4.length c0_4, .slice A0_5 l0_5.length c0_5, .slice A0_6 l0_6.length c0_6, .string a0_7], .agg #[.int .i64 a1_0, .string a1_1, .string a1_2, .string a1_3, .slice A1_4 l1_4.length c1_4, .slice A1_5 l1_5.length c1_5, .slice A1_6 l1_6.length c1_6, .string a1_7]] w fun e w' => e = .returned (.bool true) ∧ Below w.heap.size w w' := laws_eqNode.callsF (laws_eqNodeS.f k) (laws_eqNodeS.calls k) k a0_0 a0_1 a0_2 a0_3 A0_4 c0_4 l0_4 A0_5 c0_5 l0_5 A0_6 c0_6 l0_6 a0_7 a1_0 a1_1 a1_2 a1_3 A1_4 c1_4 l1_4 A1_5 c1_5 l1_5 A1_6 c1_6 l1_6 a1_7 r_ w hr0_4 hc0_4 hr0_5 hc0_5 hr0_6 hc0_6 hr1_4 hc1_4 hr1_5 hc1_5 hr1_6 hc1_6 h

/-! ### laws_FnExactPlaces: function 3 -/
theorem laws_FnExactPlaces.ch8 {W0 W : World} {g : Nat} {u0 u1 u2 u3 u4 u5 u6 u7 : Value} (hb : Below W0.heap.size W0 W) (hg : W0.heap.size ≤ g) :
    Below W0.heap.size W0 ((((((((W.setCell ⟨g, 0, none⟩ u0).setCell ⟨g, 1, none⟩ u1).setCell ⟨g, 2, none⟩ u2).setCell ⟨g, 3, none⟩ u3).setCell ⟨g, 4, none⟩ u4).setCell ⟨g, 5, none⟩ u5).setCell ⟨g, 6, none⟩ u6).setCell ⟨g, 7, none⟩ u7) :=
  below_set (below_set (below_set (below_set (below_set (below_set (below_set (below_set hb hg) hg) hg) hg) hg) hg) hg) hg
theorem laws_FnExactPlaces.far1 {W : World} {g k j : Nat} {o : Obj} {u : Value} (h : W.heap[k]? = some o) (hne : k ≠ g) : (W.setCell ⟨g, j, none⟩ u).heap[k]? = some o := (Below.heap_setCell W ⟨g, j, none⟩ u k hne).trans h
theorem laws_FnExactPlaces.blk8 {W : World} {g k : Nat} {o : Obj} {u0 u1 u2 u3 u4 u5 u6 u7 : Value} (h : W.heap[k]? = some o) (hne : k ≠ g) :
    ((((((((W.setCell ⟨g, 0, none⟩ u0).setCell ⟨g, 1, none⟩ u1).setCell ⟨g, 2, none⟩ u2).setCell ⟨g, 3, none⟩ u3).setCell ⟨g, 4, none⟩ u4).setCell ⟨g, 5, none⟩ u5).setCell ⟨g, 6, none⟩ u6).setCell ⟨g, 7, none⟩ u7).heap[k]? = some o :=
  laws_FnExactPlaces.far1 (laws_FnExactPlaces.far1 (laws_FnExactPlaces.far1 (laws_FnExactPlaces.far1 (laws_FnExactPlaces.far1 (laws_FnExactPlaces.far1 (laws_FnExactPlaces.far1 (laws_FnExactPlaces.far1 h hne) hne) hne) hne) hne) hne) hne) hne
theorem laws_FnExactPlaces.DN_below {d : Kd S34} {W W1 : World} {base : Nat} {ok o6 : Nat → Prop} {x : S34} {v4 v5 v6 : Value} (h : DN d W base ok x v4 v5 v6 o6) (hb : Below W.heap.size W W1) : DN d W1 base ok x v4 v5 v6 o6 :=
  ⟨Kd.R_below h.1 hb, Kd.R_below h.2.1 hb, Kd.S_below h.2.2.1 hb, h.2.2.2⟩
theorem laws_FnExactPlaces.DN_kept {d : Kd S34} {W W1 : World} {base : Nat} {ok o6 S : Nat → Prop} {x : S34} {v4 v5 v6 : Value} (h : DN d W base ok x v4 v5 v6 o6) (hk : Kept W W1 S) (hne : ∀ k, ok k → ¬ S k) : DN d W1 base ok x v4 v5 v6 o6 :=
  ⟨Kd.R_kept h.1 hk (fun k hk => hne k (h.2.2.2.1 k hk)), Kd.R_kept h.2.1 hk (fun k hk => hne k (h.2.2.2.2.1 k hk)), Kd.S_kept h.2.2.1 hk (fun k hk => hne k (h.2.2.2.2.2 k hk).1), h.2.2.2⟩
theorem laws_FnExactPlaces.held (k : Nat) (A : Option Addr) (n c : Nat) (s : List (List Int)) (a r : Int) (w : World) {base : Nat} {ok : Nat → Prop} (hS : Kd.S (Kd.slice 3 (Kd.int .i64)) 47 w base ok (.slice A n c) s) (h : laws_heldIntSS.f k s a = some r) :
    Calls Try.prog 16 #[.slice A n c, .int .i64 a] w fun e w' => e = .returned (.int .i64 r) ∧ Below w.heap.size w w' := by
  obtain ⟨e_, g_, h_⟩ := Kd.S_reads' hS
  subst e_
  exact (laws_heldIntSS.calls k A c s a r w h_ g_ h).mono (fun _ _ h => ⟨h.1, h.2.below⟩)
def laws_FnExactPlaces.f (k : Nat) (a0 : Int) (a1 a2 a3 : ByteArray) (a4 : List S84) (a5 : List S87) (a6 : List S26) (a7 : ByteArray) : Option Bool :=
  (laws_szNode.f k a0 a1 a2 a3 a4 a5 a6 a7 1048576).bind fun t => if t < 0 then some true else (laws_toNode.f k a0 a1 a2 a3 a4 a5 a6 a7).bind fun x => (spec_Places.f k x.1 x.2.1 x.2.2.1 x.2.2.2.1 x.2.2.2.2.1 x.2.2.2.2.2.1 x.2.2.2.2.2.2.1 x.2.2.2.2.2.2.2).bind fun v => (impl_Places.f k x.1 x.2.1 x.2.2.1 x.2.2.2.1 x.2.2.2.2.1 x.2.2.2.2.2.1 x.2.2.2.2.2.2.1 x.2.2.2.2.2.2.2).bind fun g => (laws_eqIntSS.f k g v).bind fun b => (laws_eqNode.f k x.1 x.2.1 x.2.2.1 x.2.2.2.1 x.2.2.2.2.1 x.2.2.2.2.2.1 x.2.2.2.2.2.2.1 x.2.2.2.2.2.2.2 x.1 x.2.1 x.2.2.1 x.2.2.2.1 x.2.2.2.2.1 x.2.2.2.2.2.1 x.2.2.2.2.2.2.1 x.2.2.2.2.2.2.2).bind fun c => (laws_markNode.g k ⟨x.1, x.2.1, x.2.2.1, x.2.2.2.1, x.2.2.2.2.1, x.2.2.2.2.2.1, x.2.2.2.2.2.2.1, x.2.2.2.2.2.2.2⟩ 1).bind fun m => (laws_markIntSS.f k g 1).bind fun q => (laws_heldIntSS.f k q.2 1).bind fun h => if b = true ∧ c = true ∧ ¬ m.1 < 0 ∧ ¬ h < 0 ∧ h = q.1 then some true else none
set_option maxHeartbeats 16000000 in
set_option maxRecDepth 100000 in
theorem laws_FnExactPlaces.calls (k : Nat) (a0 : Int) (a1 a2 a3 : ByteArray) (Aa4 : Option Addr) (ca4 : Nat) (a4 : List S84) (Aa5 : Option Addr) (ca5 : Nat) (a5 : List S87) (Aa6 : Option Addr) (ca6 : Nat) (a6 : List S26) (a7 : ByteArray) (r_ : Bool) (w : World) (hr4 : Kd.C k84 w Aa4 a4.length a4) (hc4 : a4.length ≤ ca4) (hr5 : Kd.C k87 w Aa5 a5.length a5) (hc5 : a5.length ≤ ca5) (hr6 : Kd.C k26 w Aa6 a6.length a6) (hc6 : a6.length ≤ ca6) (h : laws_FnExactPlaces.f k a0 a1 a2 a3 a4 a5 a6 a7 = some true) :
    Calls Try.prog 3 #[.agg #[.int .i64 a0, .string a1, .string a2, .string a3, .slice Aa4 a4.length ca4, .slice Aa5 a5.length ca5, .slice Aa6 a6.length ca6, .string a7]] w fun e w' => e = .returned (.bool true) ∧ Below w.heap.size w w' := by
  have hu26 := Try.underlying26
  have hu34 := Try.underlying34
  have HR4 := Aside0.mk hr4
  have HC4 := Aside0.mk hc4
  have HR5 := Aside0.mk hr5
  have HC5 := Aside0.mk hc5
  have HR6 := Aside0.mk hr6
  have HC6 := Aside0.mk hc6
  have HB := Aside0.mk (Below.refl w.heap.size w)
  clear hr4 hc4 hr5 hc5 hr6 hc6
  unfold laws_FnExactPlaces.f at h
  obtain ⟨t, ht, h⟩ := Option.bind_eq_some_iff.1 h
  have T0 := Aside0.mk ht
  clear ht
  by_cases hn : t < 0
  · have hd := decide_eq_true hn
    clear h hn
    go_enter Try.func3, Try.ntmps3
    go_wp2_with (first | ((with_reducible refine gate_dst (N := 1) rfl ?_); refine box_event ?hg (N := 1) ?hd (cs := #[.int .i64 a0, .string a1, .string a2, .string a3, .slice Aa4 a4.length ca4, .slice Aa5 a5.length ca5, .slice Aa6 a6.length ca6, .string a7]) (t := 26) ?hr ?_; (case hd => rfl); (case hg => rfl); (case hr => first | (go_simp; done) | (go_simp; rfl)); intro gA hg w1_ hbox hb; have BA := Aside0.mk hbox; replace HB := Aside0.mk (below_step HB.out hb); obtain ⟨zA0, zA1, zA2, zA3, zA4, zA5, zA6, zA7⟩ := bc8 BA.out; clear hb hbox hg) | ((with_reducible refine gate_callee (f := 8) rfl ?_); refine goesL_ (some 13) rfl rfl Try.func8 (by kernel_rfl) rfl #[.agg #[.int .i64 a0, .string a1, .string a2, .string a3, .slice Aa4 a4.length ca4, .slice Aa5 a5.length ca5, .slice Aa6 a6.length ca6, .string a7], .int .i64 1048576] rfl mA ?_; (with_reducible refine (laws_szNode.calls k a0 a1 a2 a3 Aa4 ca4 a4 Aa5 ca5 a5 Aa6 ca6 a6 a7 1048576 t _ (Kd.C_below HR4.out HB.out) HC4.out (Kd.C_below HR5.out HB.out) HC5.out (Kd.C_below HR6.out HB.out) HC6.out T0.out).mono ?_); rintro e w2 ⟨rfl, hb⟩; refine ⟨_, rfl, ?_⟩; clear zA0 zA1 zA2 zA3 zA4 zA5 zA6 zA7; have hs := hb; replace BA := Aside0.mk (blk_below BA.out hb); replace HB := Aside0.mk (below_step HB.out hs); clear hs hb; obtain ⟨zA0, zA1, zA2, zA3, zA4, zA5, zA6, zA7⟩ := bc8 BA.out))
    go_ret
    exact ⟨rfl, HB.out⟩
  rw [if_neg hn] at h
  have hd := decide_eq_false hn
  clear hn
  obtain ⟨⟨x0, x1, x2, x3, x4, x5, x6, x7⟩, h1_, h⟩ := Option.bind_eq_some_iff.1 h
  obtain ⟨vr, h2_, h⟩ := Option.bind_eq_some_iff.1 h
  obtain ⟨gr, h3_, h⟩ := Option.bind_eq_some_iff.1 h
  obtain ⟨b, h4_, h⟩ := Option.bind_eq_some_iff.1 h
  obtain ⟨c, h5_, h⟩ := Option.bind_eq_some_iff.1 h
  obtain ⟨⟨m1, m2⟩, h6_, h⟩ := Option.bind_eq_some_iff.1 h
  obtain ⟨⟨q1, sr⟩, h7_, h⟩ := Option.bind_eq_some_iff.1 h
  obtain ⟨h1, h8_, h⟩ := Option.bind_eq_some_iff.1 h
  dsimp only at h2_ h3_ h4_ h5_ h6_ h7_ h8_ h
  obtain ⟨⟨rfl, rfl, e1, e2, rfl⟩, -⟩ := if_som h
  have hp := decide_eq_false e1
  have hq := decide_eq_false e2
  have hne : (h1 != h1) = false := by simp
  clear h e1 e2
  have T1 := Aside0.mk h1_
  have T2 := Aside0.mk h2_
  have T3 := Aside0.mk h3_
  have T4 := Aside0.mk h4_
  have T5 := Aside0.mk h5_
  have T6 := Aside0.mk h6_
  have T7 := Aside0.mk h7_
  have T8 := Aside0.mk h8_
  clear h1_ h2_ h3_ h4_ h5_ h6_ h7_ h8_
  go_enter Try.func3, Try.ntmps3
  go_wp2_with (first
    | ((with_reducible refine gate_dst (N := 1) rfl ?_); refine box_event ?hg (N := 1) ?hd (cs := #[.int .i64 a0, .string a1, .string a2, .string a3, .slice Aa4 a4.length ca4, .slice Aa5 a5.length ca5, .slice Aa6 a6.length ca6, .string a7]) (t := 26) ?hr ?_; (case hd => rfl); (case hg => rfl); (case hr => first | (go_simp; done) | (go_simp; rfl)); intro gA hg w1_ hbox hb; have BA := Aside0.mk hbox; replace HB := Aside0.mk (below_step HB.out hb); obtain ⟨zA0, zA1, zA2, zA3, zA4, zA5, zA6, zA7⟩ := bc8 BA.out; clear hb hbox hg)
    | ((with_reducible refine gate_callee (f := 8) rfl ?_); refine goesL_ (some 13) rfl rfl Try.func8 (by kernel_rfl) rfl #[.agg #[.int .i64 a0, .string a1, .string a2, .string a3, .slice Aa4 a4.length ca4, .slice Aa5 a5.length ca5, .slice Aa6 a6.length ca6, .string a7], .int .i64 1048576] rfl mA ?_; (with_reducible refine (laws_szNode.calls k a0 a1 a2 a3 Aa4 ca4 a4 Aa5 ca5 a5 Aa6 ca6 a6 a7 1048576 t _ (Kd.C_below HR4.out HB.out) HC4.out (Kd.C_below HR5.out HB.out) HC5.out (Kd.C_below HR6.out HB.out) HC6.out T0.out).mono ?_); rintro e w2 ⟨rfl, hb⟩; refine ⟨_, rfl, ?_⟩; clear zA0 zA1 zA2 zA3 zA4 zA5 zA6 zA7; have hs := hb; replace BA := Aside0.mk (blk_below BA.out hb); replace HB := Aside0.mk (below_step HB.out hs); clear hs hb; obtain ⟨zA0, zA1, zA2, zA3, zA4, zA5, zA6, zA7⟩ := bc8 BA.out)
    | ((with_reducible refine gate_callee (f := 10) rfl ?_); refine goesL_ (some 17) rfl rfl Try.func10 (by kernel_rfl) rfl #[.agg #[.int .i64 a0, .string a1, .string a2, .string a3, .slice Aa4 a4.length ca4, .slice Aa5 a5.length ca5, .slice Aa6 a6.length ca6, .string a7]] rfl mA ?_; (with_reducible refine (laws_toNode.calls k a0 a1 a2 a3 Aa4 ca4 a4 Aa5 ca5 a5 Aa6 ca6 a6 a7 x0 x1 x2 x3 x4 x5 x6 x7 _ (Kd.C_below HR4.out HB.out) HC4.out (Kd.C_below HR5.out HB.out) HC5.out (Kd.C_below HR6.out HB.out) HC6.out T1.out).mono ?_); rintro e w3 ⟨y4, y5, y6, rfl, ho4, ho5, ho6, hb⟩; refine ⟨_, rfl, ?_⟩; clear zA0 zA1 zA2 zA3 zA4 zA5 zA6 zA7; have hs := hb; replace BA := Aside0.mk (blk_below BA.out hb); replace HB := Aside0.mk (below_step HB.out hs); obtain ⟨Ay4, cy4, e_⟩ := Kd.R_slice ho4; subst e_; have Y4 := Aside0.mk (Kd.R_lower ho4 (Nat.zero_le _)); obtain ⟨Ay5, cy5, e_⟩ := Kd.R_slice ho5; subst e_; have Y5 := Aside0.mk (Kd.R_lower ho5 (Nat.zero_le _)); obtain ⟨Ay6, cy6, e_⟩ := Kd.R_slice ho6; subst e_; have Y6 := Aside0.mk (Kd.R_lower ho6 (Nat.zero_le _)); clear ho4 ho5 ho6; clear hs hb)
    | ((with_reducible refine gate_callee (f := 9) rfl ?_); refine goesL_ (some 18) rfl rfl Try.func9 (by kernel_rfl) rfl #[.agg #[.int .i64 x0, .string x1, .string x2, .string x3, .slice Ay4 x4.length cy4, .slice Ay5 x5.length cy5, .slice Ay6 x6.length cy6, .string x7]] rfl mA ?_; (with_reducible refine (spec_Places.calls k x0 x1 x2 x3 Ay4 cy4 x4 Ay5 cy5 x5 Ay6 cy6 x6 x7 vr _ (Kd.R_reads' Y4.out).2.2 (Kd.R_reads' Y4.out).2.1 (Kd.R_reads' Y5.out).2.2 (Kd.R_reads' Y5.out).2.1 (Kd.R_reads' Y6.out).2.2 (Kd.R_reads' Y6.out).2.1 T2.out).mono ?_); rintro e w4 ⟨y_, rfl, ho, hb⟩; refine ⟨_, rfl, ?_⟩; have hs := hb; replace BA := Aside0.mk (blk_below BA.out hb); clear Y4; clear Y5; clear Y6; replace HB := Aside0.mk (below_step HB.out hs); obtain ⟨Aw, cw, e_⟩ := Kd.N_slice ho; subst e_; have W := Aside0.mk (Kd.N_lower ho (Nat.zero_le _)); clear ho; clear hs hb; obtain ⟨zA0, zA1, zA2, zA3, zA4, zA5, zA6, zA7⟩ := bc8 BA.out)
    | ((with_reducible refine gate_callee (f := 10) rfl ?_); refine goesL_ (some 20) rfl rfl Try.func10 (by kernel_rfl) rfl #[.agg #[.int .i64 a0, .string a1, .string a2, .string a3, .slice Aa4 a4.length ca4, .slice Aa5 a5.length ca5, .slice Aa6 a6.length ca6, .string a7]] rfl mA ?_; (with_reducible refine (laws_toNode.callsD k a0 a1 a2 a3 Aa4 ca4 a4 Aa5 ca5 a5 Aa6 ca6 a6 a7 x0 x1 x2 x3 x4 x5 x6 x7 _ (Kd.C_below HR4.out HB.out) HC4.out (Kd.C_below HR5.out HB.out) HC5.out (Kd.C_below HR6.out HB.out) HC6.out T1.out).mono ?_); rintro e w5 ⟨y4, y5, y6, rfl, ho4, ho5, ho6, hb⟩; refine ⟨_, rfl, ?_⟩; clear zA0 zA1 zA2 zA3 zA4 zA5 zA6 zA7; have hs := hb; obtain ⟨Ax4, cx4, e_⟩ := Kd.R_slice ho4; subst e_; obtain ⟨Ax5, cx5, e_⟩ := Kd.R_slice ho5; subst e_; obtain ⟨Ax6, cx6, e_⟩ := Kd.S_slice ho6; subst e_; obtain ⟨N, M, hNM, hMs, hgA, hW, hX⟩ : ∃ N M : Nat, N ≤ M ∧ M ≤ w5.heap.size ∧ gA < N ∧ Kd.N (Kd.slice 3 (Kd.int .i64)) 47 w5 0 (fun k_ => k_ < N) (.slice Aw vr.length cw) vr ∧ DN kD w5 w.heap.size (fun k_ => N ≤ k_ ∧ k_ < M) ⟨x0, x1, x2, x3, x4, x5, x6, x7⟩ (.slice Ax4 x4.length cx4) (.slice Ax5 x5.length cx5) (.slice Ax6 x6.length cx6) (fun k_ => (some k_ ≠ (.slice Ax4 x4.length cx4 : Value).ownBlock ∧ some k_ ≠ (.slice Ax5 x5.length cx5 : Value).ownBlock) ∧ N ≤ k_ ∧ k_ < M) := ⟨_, _, hb.size, Nat.le_refl _, blk_lt BA.out, Kd.N_mono (Kd.N_old W.out hb) (fun _ h_ => h_.2), DN_later (x := ⟨x0, x1, x2, x3, x4, x5, x6, x7⟩) (below_size HB.out) ho4 ho5 ho6 (Below.refl _ _)⟩; replace BA := Aside0.mk (blk_below BA.out hb); replace HB := Aside0.mk (below_step HB.out hs); replace W := Aside0.mk hW; have X := Aside0.mk hX; have HS := Aside0.mk hMs; have HN := Aside0.mk (And.intro hNM hgA); clear hNM hMs hgA hW hX ho4 ho5 ho6; clear hs hb)
    | ((with_reducible refine gate_dst (N := 5) rfl ?_); refine box_event ?hg (N := 5) ?hd (cs := #[.int .i64 0, .string (⟨#[]⟩ : ByteArray), .string (⟨#[]⟩ : ByteArray), .string (⟨#[]⟩ : ByteArray), .slice none 0 0, .slice none 0 0, .slice none 0 0, .string (⟨#[]⟩ : ByteArray)]) (t := 34) ?hr ?_; (case hd => rfl); (case hg => rfl); (case hr => first | (go_simp; done) | (go_simp; rfl)); intro gX hg w2_ hbox hb; have BX := Aside0.mk hbox; have HC := Aside0.mk (laws_FnExactPlaces.ch8 (u0 := .int .i64 x0) (u1 := .string x1) (u2 := .string x2) (u3 := .string x3) (u4 := .slice Ax4 x4.length cx4) (u5 := .slice Ax5 x5.length cx5) (u6 := .slice Ax6 x6.length cx6) (u7 := .string x7) hb (Nat.le_of_eq hg.symm)); have nAX : gA ≠ gX := (by rw [hg]; exact Nat.ne_of_lt (blk_lt BA.out)); have nXA : gX ≠ gA := Ne.symm nAX; replace BA := Aside0.mk (blk_below BA.out hb); have HGX := Aside0.mk (show M ≤ gX by rw [hg]; exact HS.out); obtain ⟨zX0, zX1, zX2, zX3, zX4, zX5, zX6, zX7⟩ := bc8 BX.out; obtain ⟨yX0, yX1, yX2, yX3, yX4, yX5, yX6, yX7⟩ := bf8 BX.out; clear hb hbox hg)
    | ((with_reducible refine gate_callee (f := 11) rfl ?_); refine goesL_ (some 22) rfl rfl Try.func11 (by kernel_rfl) rfl #[.agg #[.int .i64 x0, .string x1, .string x2, .string x3, .slice Ax4 x4.length cx4, .slice Ax5 x5.length cx5, .slice Ax6 x6.length cx6, .string x7]] rfl mA ?_; (with_reducible refine (impl_Places.calls k x0 x1 x2 x3 Ax4 cx4 x4 Ax5 cx5 x5 Ax6 cx6 x6 x7 gr _ (Kd.R_reads' (laws_FnExactPlaces.DN_below X.out HC.out).1).2.2 (Kd.R_reads' (laws_FnExactPlaces.DN_below X.out HC.out).1).2.1 (Kd.R_reads' (laws_FnExactPlaces.DN_below X.out HC.out).2.1).2.2 (Kd.R_reads' (laws_FnExactPlaces.DN_below X.out HC.out).2.1).2.1 (kD_C (Kd.S_reads' (laws_FnExactPlaces.DN_below X.out HC.out).2.2.1).2.2) (Kd.S_reads' (laws_FnExactPlaces.DN_below X.out HC.out).2.2.1).2.1 T3.out).mono ?_); rintro e w6 ⟨y_, rfl, ho, hb⟩; refine ⟨_, rfl, ?_⟩; clear zX0 zX1 zX2 zX3 zX4 zX5 zX6 zX7 yX0 yX1 yX2 yX3 yX4 yX5 yX6 yX7; have hs := below_step HC.out hb; obtain ⟨Ag, cg, e_⟩ := Kd.S_slice ho; subst e_; obtain ⟨M2, M3, hM, hMs, hgX, hG⟩ : ∃ M2 M3 : Nat, M2 ≤ M3 ∧ M3 ≤ w6.heap.size ∧ gX < M2 ∧ Kd.S (Kd.slice 3 (Kd.int .i64)) 47 w6 w.heap.size (fun k_ => M2 ≤ k_ ∧ k_ < M3) (.slice Ag gr.length cg) gr := ⟨_, _, hb.size, Nat.le_refl _, blk_lt (put8 BX.out), Kd.S_lower (Kd.S_mono (Kd.S_bound ho) (fun _ h_ => ⟨h_.2.1, h_.2.2.1⟩)) (below_size (below_step HB.out HC.out))⟩; replace BA := Aside0.mk (blk_below (laws_FnExactPlaces.blk8 BA.out nAX) hb); replace BX := Aside0.mk (blk_below (put8 BX.out) hb); replace W := Aside0.mk (Kd.N_below W.out hs); replace X := Aside0.mk (laws_FnExactPlaces.DN_below X.out hs); replace HS := Aside0.mk (Nat.le_trans HS.out hs.size); replace HB := Aside0.mk (below_step HB.out hs); have G := Aside0.mk hG; replace HS := Aside0.mk hMs; replace HN := Aside0.mk (And.intro HN.out (And.intro HGX.out (And.intro hM hgX))); clear HGX hG hMs hM hgX ho; clear hs hb; clear HC)
    | ((with_reducible refine gate_callee (f := 12) rfl ?_); refine goesL_ (some 25) rfl rfl Try.func12 (by kernel_rfl) rfl #[.slice Ag gr.length cg, .slice Aw vr.length cw] rfl mA ?_; (with_reducible refine (laws_eqIntSS.calls k Ag cg gr Aw cw vr true _ (Kd.S_reads' G.out).2.2 (Kd.S_reads' G.out).2.1 (Kd.N_reads' W.out).2.2 (Kd.N_reads' W.out).2.1 T4.out).mono ?_); rintro e w7 ⟨rfl, hd_⟩; refine ⟨_, rfl, ?_⟩; have hb := hd_.below; clear hd_; have hs := hb; replace BA := Aside0.mk (blk_below BA.out hb); replace BX := Aside0.mk (blk_below BX.out hb); replace W := Aside0.mk (Kd.N_below W.out hs); replace X := Aside0.mk (laws_FnExactPlaces.DN_below X.out hs); replace G := Aside0.mk (Kd.S_below G.out hs); replace HS := Aside0.mk (Nat.le_trans HS.out hs.size); replace HB := Aside0.mk (below_step HB.out hs); clear hs hb; obtain ⟨zX0, zX1, zX2, zX3, zX4, zX5, zX6, zX7⟩ := bc8 BX.out; obtain ⟨zA0, zA1, zA2, zA3, zA4, zA5, zA6, zA7⟩ := bc8 BA.out))
  clear zX0 zX1 zX2 zX3 zX4 zX5 zX6 zX7 zA0 zA1 zA2 zA3 zA4 zA5 zA6 zA7
  replace W := Aside0.mk (Kd.N_drew W.out)
  replace X := Aside0.mk (laws_FnExactPlaces.DN_below X.out (below_drew (Below.refl _ _)))
  replace G := Aside0.mk (Kd.S_drew G.out)
  replace BA := Aside0.mk (blk_drew BA.out)
  replace BX := Aside0.mk (blk_drew BX.out)
  replace HB := Aside0.mk (below_drew1 HB.out)
  replace HS := Aside0.mk (show M3 ≤ w7.drew.heap.size from HS.out)
  refine start_ (n := 5) (S := fun w' => w'.cell? ⟨gX, 0, none⟩ = some (.int .i64 x0) ∧ w'.cell? ⟨gX, 1, none⟩ = some (.string x1) ∧ w'.cell? ⟨gX, 2, none⟩ = some (.string x2) ∧ w'.cell? ⟨gX, 3, none⟩ = some (.string x3) ∧ w'.cell? ⟨gX, 4, none⟩ = some (.slice Ax4 x4.length cx4) ∧ w'.cell? ⟨gX, 5, none⟩ = some (.slice Ax5 x5.length cx5) ∧ w'.cell? ⟨gX, 6, none⟩ = some (.slice Ax6 x6.length cx6) ∧ w'.cell? ⟨gX, 7, none⟩ = some (.string x7) ∧ w'.cell? ⟨gA, 0, none⟩ = some (.int .i64 a0) ∧ w'.cell? ⟨gA, 1, none⟩ = some (.string a1) ∧ w'.cell? ⟨gA, 2, none⟩ = some (.string a2) ∧ w'.cell? ⟨gA, 3, none⟩ = some (.string a3) ∧ w'.cell? ⟨gA, 4, none⟩ = some (.slice Aa4 a4.length ca4) ∧ w'.cell? ⟨gA, 5, none⟩ = some (.slice Aa5 a5.length ca5) ∧ w'.cell? ⟨gA, 6, none⟩ = some (.slice Aa6 a6.length ca6) ∧ w'.cell? ⟨gA, 7, none⟩ = some (.string a7)) (ds := []) #[false, false, false, false, false] (by kernel_rfl) rfl rfl ⟨(blk_cell BX.out 0).trans rfl, (blk_cell BX.out 1).trans rfl, (blk_cell BX.out 2).trans rfl, (blk_cell BX.out 3).trans rfl, (blk_cell BX.out 4).trans rfl, (blk_cell BX.out 5).trans rfl, (blk_cell BX.out 6).trans rfl, (blk_cell BX.out 7).trans rfl, (blk_cell BA.out 0).trans rfl, (blk_cell BA.out 1).trans rfl, (blk_cell BA.out 2).trans rfl, (blk_cell BA.out 3).trans rfl, (blk_cell BA.out 4).trans rfl, (blk_cell BA.out 5).trans rfl, (blk_cell BA.out 6).trans rfl, (blk_cell BA.out 7).trans rfl⟩ (fun hHeld => ?_)
  generalize w7.drew = w8 at W X G BA BX HS HB hHeld ⊢
  refine take_ (i := 0) (N := some 27) (v := ?_) (a' := ?_) (tf 1 4) rfl rfl (by kernel_rfl) (fun _ _ _ h => h) (Or.inl ⟨by rfl, ?_⟩) hHeld ?_ ?_
  rotate_left
  · rintro w' ⟨s0, s1, s2, s3, s4, s5, s6, s7, s8, s9, s10, s11, s12, s13, s14, s15⟩
    go_simp
    with_reducible rfl
  rotate_left
  · simp only [Act.put, sT, sZ, sS, i64_w, i32_w]
    rfl
  refine take_ (i := 1) (N := some 28) (v := ?_) (a' := ?_) (tf 2 3) rfl rfl (by kernel_rfl) (fun _ _ _ h => h) (Or.inl ⟨by rfl, ?_⟩) hHeld ?_ ?_
  rotate_left
  · rintro w' ⟨s0, s1, s2, s3, s4, s5, s6, s7, s8, s9, s10, s11, s12, s13, s14, s15⟩
    go_simp
    with_reducible rfl
  rotate_left
  · simp only [Act.put, sT, sZ, sS, i64_w, i32_w]
    rfl
  refine one_ (i := 2) (N := some 29) (tf 3 2) rfl rfl (by kernel_rfl) (by decide) (fun K hK => ?_)
  refine goes_ Try.func10 (by kernel_rfl) rfl #[.agg #[.int .i64 a0, .string a1, .string a2, .string a3, .slice Aa4 a4.length ca4, .slice Aa5 a5.length ca5, .slice Aa6 a6.length ca6, .string a7]] (by rfl) rfl rfl mA ?_
  with_reducible refine (laws_toNode.calls k a0 a1 a2 a3 Aa4 ca4 a4 Aa5 ca5 a5 Aa6 ca6 a6 a7 x0 x1 x2 x3 x4 x5 x6 x7 _ (Kd.C_below HR4.out HB.out) HC4.out (Kd.C_below HR5.out HB.out) HC5.out (Kd.C_below HR6.out HB.out) HC6.out T1.out).mono ?_
  rintro e w9 ⟨y4, y5, y6, rfl, ho4, ho5, ho6, hb⟩
  refine ⟨_, rfl, ?_⟩
  have hs := hb
  replace BA := Aside0.mk (blk_below BA.out hb)
  replace BX := Aside0.mk (blk_below BX.out hb)
  replace W := Aside0.mk (Kd.N_below W.out hs)
  replace X := Aside0.mk (laws_FnExactPlaces.DN_below X.out hs)
  replace G := Aside0.mk (Kd.S_below G.out hs)
  replace HS := Aside0.mk (Nat.le_trans HS.out hs.size)
  replace HB := Aside0.mk (below_step HB.out hs)
  obtain ⟨Ak4, ck4, e_⟩ := Kd.R_slice ho4; subst e_; have Y4 := Aside0.mk (Kd.R_lower ho4 (Nat.zero_le _))
  obtain ⟨Ak5, ck5, e_⟩ := Kd.R_slice ho5; subst e_; have Y5 := Aside0.mk (Kd.R_lower ho5 (Nat.zero_le _))
  obtain ⟨Ak6, ck6, e_⟩ := Kd.R_slice ho6; subst e_; have Y6 := Aside0.mk (Kd.R_lower ho6 (Nat.zero_le _))
  clear ho4 ho5 ho6
  clear hs hb
  refine hK.out _ _ ⟨(blk_cell BX.out 0).trans rfl, (blk_cell BX.out 1).trans rfl, (blk_cell BX.out 2).trans rfl, (blk_cell BX.out 3).trans rfl, (blk_cell BX.out 4).trans rfl, (blk_cell BX.out 5).trans rfl, (blk_cell BX.out 6).trans rfl, (blk_cell BX.out 7).trans rfl, (blk_cell BA.out 0).trans rfl, (blk_cell BA.out 1).trans rfl, (blk_cell BA.out 2).trans rfl, (blk_cell BA.out 3).trans rfl, (blk_cell BA.out 4).trans rfl, (blk_cell BA.out 5).trans rfl, (blk_cell BA.out 6).trans rfl, (blk_cell BA.out 7).trans rfl⟩ (fun hHeld => ?_)
  clear hK K
  refine norm_ (a' := ?_) ?_ ?_
  rotate_left
  · show Act.put _ (some 29) _ = _
    simp only [Act.put, sT, sZ, sS, i64_w, i32_w]
    rfl
  refine one_ (i := 3) (N := some 30) (tf 4 1) rfl rfl (by kernel_rfl) (by decide) (fun K hK => ?_)
  refine goes_ Try.func13 (by kernel_rfl) rfl #[.agg #[.int .i64 x0, .string x1, .string x2, .string x3, .slice Ax4 x4.length cx4, .slice Ax5 x5.length cx5, .slice Ax6 x6.length cx6, .string x7], .agg #[.int .i64 x0, .string x1, .string x2, .string x3, .slice Ak4 x4.length ck4, .slice Ak5 x5.length ck5, .slice Ak6 x6.length ck6, .string x7]] (by rfl) rfl rfl mA ?_
  with_reducible refine (laws_eqNode.calls k x0 x1 x2 x3 Ax4 cx4 x4 Ax5 cx5 x5 Ax6 cx6 x6 x7 x0 x1 x2 x3 Ak4 ck4 x4 Ak5 ck5 x5 Ak6 ck6 x6 x7 true _ (Kd.R_reads' X.out.1).2.2 (Kd.R_reads' X.out.1).2.1 (Kd.R_reads' X.out.2.1).2.2 (Kd.R_reads' X.out.2.1).2.1 (kD_C (Kd.S_reads' X.out.2.2.1).2.2) (Kd.S_reads' X.out.2.2.1).2.1 (Kd.R_reads' Y4.out).2.2 (Kd.R_reads' Y4.out).2.1 (Kd.R_reads' Y5.out).2.2 (Kd.R_reads' Y5.out).2.1 (Kd.R_reads' Y6.out).2.2 (Kd.R_reads' Y6.out).2.1 T5.out).mono ?_
  rintro e w10 ⟨rfl, hb⟩
  refine ⟨_, rfl, ?_⟩
  have hs := hb
  replace BA := Aside0.mk (blk_below BA.out hb)
  replace BX := Aside0.mk (blk_below BX.out hb)
  clear Y4
  clear Y5
  clear Y6
  replace W := Aside0.mk (Kd.N_below W.out hs)
  replace X := Aside0.mk (laws_FnExactPlaces.DN_below X.out hs)
  replace G := Aside0.mk (Kd.S_below G.out hs)
  replace HS := Aside0.mk (Nat.le_trans HS.out hs.size)
  replace HB := Aside0.mk (below_step HB.out hs)
  clear hs hb
  refine hK.out _ _ ⟨(blk_cell BX.out 0).trans rfl, (blk_cell BX.out 1).trans rfl, (blk_cell BX.out 2).trans rfl, (blk_cell BX.out 3).trans rfl, (blk_cell BX.out 4).trans rfl, (blk_cell BX.out 5).trans rfl, (blk_cell BX.out 6).trans rfl, (blk_cell BX.out 7).trans rfl, (blk_cell BA.out 0).trans rfl, (blk_cell BA.out 1).trans rfl, (blk_cell BA.out 2).trans rfl, (blk_cell BA.out 3).trans rfl, (blk_cell BA.out 4).trans rfl, (blk_cell BA.out 5).trans rfl, (blk_cell BA.out 6).trans rfl, (blk_cell BA.out 7).trans rfl⟩ (fun hHeld => ?_)
  clear hK K
  refine norm_ (a' := ?_) ?_ ?_
  rotate_left
  · show Act.put _ (some 30) _ = _
    simp only [Act.put, sT, sZ, sS, i64_w, i32_w]
    rfl
  refine pure_ (i := 4) (N := some 31) (v := ?_) (a' := ?_) (tf 5 0) rfl rfl (by kernel_rfl) (fun _ _ _ h => h) (Or.inl ⟨by rfl, ?_⟩) ?_ ?_
  rotate_left
  · intro w'
    go_simp
    with_reducible rfl
  rotate_left
  · simp only [Act.put, sT, sZ, sS, i64_w, i32_w]
    rfl
  refine done_ (by kernel_rfl) ?_
  clear hHeld
  obtain ⟨zX0, zX1, zX2, zX3, zX4, zX5, zX6, zX7⟩ := bc8 BX.out
  go_wp2_with (first
    | ((with_reducible refine gate_callee (f := 14) rfl ?_); refine goesL_ (some 34) rfl rfl Try.func14 (by kernel_rfl) rfl #[.agg #[.int .i64 x0, .string x1, .string x2, .string x3, .slice Ax4 x4.length cx4, .slice Ax5 x5.length cx5, .slice Ax6 x6.length cx6, .string x7], .int .i64 1] rfl mA ?_; (with_reducible refine (laws_markNode.calls8 k (fun k_ => N ≤ k_ ∧ k_ < M) x0 x1 x2 x3 x4 x5 x6 x7 (.slice Ax4 x4.length cx4) (.slice Ax5 x5.length cx5) (.slice Ax6 x6.length cx6) (fun k_ => (some k_ ≠ (.slice Ax4 x4.length cx4 : Value).ownBlock ∧ some k_ ≠ (.slice Ax5 x5.length cx5 : Value).ownBlock) ∧ N ≤ k_ ∧ k_ < M) 1 m1 m2 w _ HB.out X.out T6.out).mono ?_); rintro e w11 ⟨rfl, hD, hb, hkp⟩; refine ⟨_, rfl, ?_⟩; have hkq := Kept.mono (S' := fun k_ => N ≤ k_ ∧ k_ < M) hkp (fun k_ h_ => h_.elim (hD.2.2.2.1 k_) (fun h_ => h_.elim (hD.2.2.2.2.1 k_) (fun h_ => h_.2))); clear hkp; clear hD; clear X; clear zX0 zX1 zX2 zX3 zX4 zX5 zX6 zX7; replace BA := Aside0.mk (blk_kept BA.out hkq (fun h_ => by have h8_ : N ≤ gA ∧ gA < M := h_; have h9_ := HN.out; omega)); replace BX := Aside0.mk (blk_kept BX.out hkq (fun h_ => by have h8_ : N ≤ gX ∧ gX < M := h_; have h9_ := HN.out; omega)); replace W := Aside0.mk (Kd.N_kept W.out hkq (fun k_ h7_ h_ => by have h8_ : N ≤ k_ ∧ k_ < M := h_; have h6_ : k_ < N := h7_; have h9_ := HN.out; omega)); replace G := Aside0.mk (Kd.S_kept G.out hkq (fun k_ h7_ h_ => by have h8_ : N ≤ k_ ∧ k_ < M := h_; have h6_ : M2 ≤ k_ ∧ k_ < M3 := h7_; have h9_ := HN.out; omega)); replace HS := Aside0.mk (Nat.le_trans HS.out hkq.1); replace HB := Aside0.mk hb; clear hkq hb)
    | (go_at_call 12; (with_reducible refine (laws_eqIntSS.calls k Ag cg gr Aw cw vr true _ (Kd.S_reads' G.out).2.2 (Kd.S_reads' G.out).2.1 (Kd.N_reads' W.out).2.2 (Kd.N_reads' W.out).2.1 T4.out).mono ?_); rintro e w12 ⟨rfl, hd_⟩; have hb := hd_.below; clear hd_; have hs := hb; replace BA := Aside0.mk (blk_below BA.out hb); replace BX := Aside0.mk (blk_below BX.out hb); replace W := Aside0.mk (Kd.N_below W.out hs); replace G := Aside0.mk (Kd.S_below G.out hs); replace HS := Aside0.mk (Nat.le_trans HS.out hs.size); replace HB := Aside0.mk (below_step HB.out hs); clear hs hb)
    | ((with_reducible refine gate_callee (f := 15) rfl ?_); refine goesL_ (some 45) rfl rfl Try.func15 (by kernel_rfl) rfl #[.slice Ag gr.length cg, .int .i64 1] rfl mA ?_; (with_reducible refine (laws_markIntSS.calls k (fun k_ => M2 ≤ k_ ∧ k_ < M3) (.slice Ag gr.length cg) gr 1 h1 sr w _ HB.out G.out T7.out).mono ?_); rintro e w13 ⟨rfl, hR, hb, hkq⟩; refine ⟨_, rfl, ?_⟩; replace G := Aside0.mk hR; clear hR; replace BA := Aside0.mk (blk_kept BA.out hkq (fun h_ => by have h8_ : M2 ≤ gA ∧ gA < M3 := h_; have h9_ := HN.out; omega)); replace BX := Aside0.mk (blk_kept BX.out hkq (fun h_ => by have h8_ : M2 ≤ gX ∧ gX < M3 := h_; have h9_ := HN.out; omega)); replace W := Aside0.mk (Kd.N_kept W.out hkq (fun k_ h7_ h_ => by have h8_ : M2 ≤ k_ ∧ k_ < M3 := h_; have h6_ : k_ < N := h7_; have h9_ := HN.out; omega)); replace HS := Aside0.mk (Nat.le_trans HS.out hkq.1); replace HB := Aside0.mk hb; clear hkq hb)
    | ((with_reducible refine gate_callee (f := 16) rfl ?_); refine goesL_ (some 48) rfl rfl Try.func16 (by kernel_rfl) rfl #[.slice Ag gr.length cg, .int .i64 1] rfl mA ?_; (with_reducible refine (laws_FnExactPlaces.held k Ag gr.length cg sr 1 h1 _ G.out T8.out).mono ?_); rintro e w14 ⟨rfl, hb⟩; refine ⟨_, rfl, ?_⟩; have hs := hb; replace BA := Aside0.mk (blk_below BA.out hb); replace BX := Aside0.mk (blk_below BX.out hb); replace W := Aside0.mk (Kd.N_below W.out hs); replace G := Aside0.mk (Kd.S_below G.out hs); replace HS := Aside0.mk (Nat.le_trans HS.out hs.size); replace HB := Aside0.mk (below_step HB.out hs); clear hs hb; obtain ⟨zA0, zA1, zA2, zA3, zA4, zA5, zA6, zA7⟩ := bc8 BA.out)
    | ((with_reducible refine gate_callee (f := 10) rfl ?_); refine goesL_ (some 55) rfl rfl Try.func10 (by kernel_rfl) rfl #[.agg #[.int .i64 a0, .string a1, .string a2, .string a3, .slice Aa4 a4.length ca4, .slice Aa5 a5.length ca5, .slice Aa6 a6.length ca6, .string a7]] rfl mA ?_; (with_reducible refine (laws_toNode.calls k a0 a1 a2 a3 Aa4 ca4 a4 Aa5 ca5 a5 Aa6 ca6 a6 a7 x0 x1 x2 x3 x4 x5 x6 x7 _ (Kd.C_below HR4.out HB.out) HC4.out (Kd.C_below HR5.out HB.out) HC5.out (Kd.C_below HR6.out HB.out) HC6.out T1.out).mono ?_); rintro e w15 ⟨y4, y5, y6, rfl, ho4, ho5, ho6, hb⟩; refine ⟨_, rfl, ?_⟩; clear zA0 zA1 zA2 zA3 zA4 zA5 zA6 zA7; have hs := hb; replace BA := Aside0.mk (blk_below BA.out hb); replace BX := Aside0.mk (blk_below BX.out hb); replace W := Aside0.mk (Kd.N_below W.out hs); replace G := Aside0.mk (Kd.S_below G.out hs); replace HS := Aside0.mk (Nat.le_trans HS.out hs.size); replace HB := Aside0.mk (below_step HB.out hs); obtain ⟨Ak4, ck4, e_⟩ := Kd.R_slice ho4; subst e_; have Y4 := Aside0.mk (Kd.R_lower ho4 (Nat.zero_le _)); obtain ⟨Ak5, ck5, e_⟩ := Kd.R_slice ho5; subst e_; have Y5 := Aside0.mk (Kd.R_lower ho5 (Nat.zero_le _)); obtain ⟨Ak6, ck6, e_⟩ := Kd.R_slice ho6; subst e_; have Y6 := Aside0.mk (Kd.R_lower ho6 (Nat.zero_le _)); clear ho4 ho5 ho6; clear hs hb)
    | ((with_reducible refine gate_callee (f := 11) rfl ?_); refine goesL_ (some 56) rfl rfl Try.func11 (by kernel_rfl) rfl #[.agg #[.int .i64 x0, .string x1, .string x2, .string x3, .slice Ak4 x4.length ck4, .slice Ak5 x5.length ck5, .slice Ak6 x6.length ck6, .string x7]] rfl mA ?_; (with_reducible refine (impl_Places.calls k x0 x1 x2 x3 Ak4 ck4 x4 Ak5 ck5 x5 Ak6 ck6 x6 x7 gr _ (Kd.R_reads' Y4.out).2.2 (Kd.R_reads' Y4.out).2.1 (Kd.R_reads' Y5.out).2.2 (Kd.R_reads' Y5.out).2.1 (Kd.R_reads' Y6.out).2.2 (Kd.R_reads' Y6.out).2.1 T3.out).mono ?_); rintro e w16 ⟨y_, rfl, ho, hb⟩; refine ⟨_, rfl, ?_⟩; have hs := hb; replace BA := Aside0.mk (blk_below BA.out hb); replace BX := Aside0.mk (blk_below BX.out hb); clear Y4; clear Y5; clear Y6; replace W := Aside0.mk (Kd.N_below W.out hs); replace G := Aside0.mk (Kd.S_below G.out hs); replace HS := Aside0.mk (Nat.le_trans HS.out hs.size); replace HB := Aside0.mk (below_step HB.out hs); obtain ⟨Ah, ch, e_⟩ := Kd.S_slice ho; subst e_; have J := Aside0.mk (Kd.S_lower ho (Nat.zero_le _)); clear ho; clear hs hb)
    | ((with_reducible refine gate_callee (f := 12) rfl ?_); refine goesL_ (some 59) rfl rfl Try.func12 (by kernel_rfl) rfl #[.slice Ah gr.length ch, .slice Aw vr.length cw] rfl mA ?_; (with_reducible refine (laws_eqIntSS.calls k Ah ch gr Aw cw vr true _ (Kd.S_reads' J.out).2.2 (Kd.S_reads' J.out).2.1 (Kd.N_reads' W.out).2.2 (Kd.N_reads' W.out).2.1 T4.out).mono ?_); rintro e w17 ⟨rfl, hd_⟩; refine ⟨_, rfl, ?_⟩; have hb := hd_.below; clear hd_; have hs := hb; replace BA := Aside0.mk (blk_below BA.out hb); replace BX := Aside0.mk (blk_below BX.out hb); clear J; clear W; replace G := Aside0.mk (Kd.S_below G.out hs); replace HS := Aside0.mk (Nat.le_trans HS.out hs.size); replace HB := Aside0.mk (below_step HB.out hs); clear hs hb)
    | ((with_reducible refine gate_callee (f := 16) rfl ?_); refine goesL_ (some 63) rfl rfl Try.func16 (by kernel_rfl) rfl #[.slice Ag gr.length cg, .int .i64 1] rfl mA ?_; (with_reducible refine (laws_FnExactPlaces.held k Ag gr.length cg sr 1 h1 _ G.out T8.out).mono ?_); rintro e w18 ⟨rfl, hb⟩; refine ⟨_, rfl, ?_⟩; have hs := hb; replace BA := Aside0.mk (blk_below BA.out hb); replace BX := Aside0.mk (blk_below BX.out hb); replace G := Aside0.mk (Kd.S_below G.out hs); replace HS := Aside0.mk (Nat.le_trans HS.out hs.size); replace HB := Aside0.mk (below_step HB.out hs); clear hs hb))
  go_ret
  exact ⟨rfl, HB.out⟩

end Go.Proofs.Ytdbinpeglamnnaa.PP
